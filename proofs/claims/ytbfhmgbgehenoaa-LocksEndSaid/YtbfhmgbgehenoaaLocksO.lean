/- locks: those who want locks in order come to their end: plain Lean. No condition. -/
import Derived.Test.YtbfhmgbgehenoaaLocksN
namespace AL.Locks
open Go Go.Proofs AL AL.Gate
set_option linter.unusedVariables false
set_option linter.unusedSimpArgs false

abbrev OneX := List One × Int × Bool
abbrev OneW := Bool × List One × Int × Bool
def rowX (x : OneX) (i : Nat) : SC := match i with | 0 => slO x.1 | 1 => i6 x.2.1 | _ => bo x.2.2
def rowW (x : OneW) (i : Nat) : SC := match i with | 0 => bif x.1 then .nilsl else slO x.2.1 | 1 => i6 x.2.2.1 | _ => bo x.2.2.2
def rowQ (x : Int) (_ : Nat) : SC := .int .u64 x
abbrev slQ (l : List Int) : SC := .sl 1 Int 0 rowQ l

/-! ### what one wants -/
def bitU (x e : Int) : Int := IntKind.wrap .u64 ((BitVec.ofInt 64 (Int.fdiv x (2 ^ (min (IntKind.wrap .u64 e : Int).toNat (IntKind.bits .u64)))) &&& BitVec.ofInt 64 1).toNat)
theorem bitU_01 (x e : Int) : bitU x e = 0 ∨ bitU x e = 1 := by
  unfold bitU
  generalize BitVec.ofInt 64 (Int.fdiv x _) = b
  have h : (b &&& BitVec.ofInt 64 1).toNat ≤ 1 := by
    rw [BitVec.toNat_and]
    exact Nat.and_le_right
  generalize (b &&& BitVec.ofInt 64 1).toNat = q at h
  have : q = 0 ∨ q = 1 := by omega
  rcases this with h | h <;> subst h <;> simp [IntKind.wrap, IntKind.bits, IntKind.signed] <;> decide
def modeU (x e : Int) : Int := IntKind.wrap .u8 (1 + (IntKind.wrap .u8 (bitU x e)))
theorem modeU_12 (x e : Int) : modeU x e = 1 ∨ modeU x e = 2 := by
  unfold modeU
  rcases bitU_01 x e with h | h <;> rw [h] <;> decide +kernel
def wantsU (x : Int) : Nat → List One
  | 0 => []
  | m + 1 => if bitU x (2 * (m : Int)) = 1 then wantsU x m ++ [((m : Int), modeU x (2 * (m : Int) + 1))] else wantsU x m
theorem wants_all (x : Int) : ∀ (m : Nat), (wantsU x m).length ≤ m ∧ (∀ y ∈ wantsU x m, 0 ≤ y.1 ∧ y.1 < (m : Int) ∧ (y.2 = 1 ∨ y.2 = 2)) ∧ (wantsU x m).Pairwise fun a b => a.1 < b.1
  | 0 => ⟨Nat.le_refl _, fun y hy => by simp [wantsU] at hy, List.Pairwise.nil⟩
  | m + 1 => by
    obtain ⟨h1, h2, h3⟩ := wants_all x m
    unfold wantsU
    split
    · refine ⟨by simp; omega, fun y hy => ?_, ?_⟩
      · rcases List.mem_append.1 hy with hy | hy
        · have := h2 y hy; omega
        · rw [List.mem_singleton] at hy
          subst hy
          exact ⟨by simp, by simp; omega, modeU_12 _ _⟩
      · refine List.pairwise_append.2 ⟨h3, List.pairwise_singleton _ _, fun a ha b hb => ?_⟩
        rw [List.mem_singleton] at hb
        subst hb
        exact (h2 a ha).2.1
    · refine ⟨by omega, fun y hy => ?_, h3⟩
      have := h2 y hy; omega
theorem wants_getlt (x : Int) (m : Nat) {i j : Nat} (hij : i < j) (hj : j < (wantsU x m).length) : (List.getD (wantsU x m) i (0, 0)).1 < (List.getD (wantsU x m) j (0, 0)).1 := by
  have := List.pairwise_iff_getElem.1 (wants_all x m).2.2 i j (by omega) hj hij
  rw [List.getD_eq_getElem?_getD, List.getD_eq_getElem?_getD, List.getElem?_eq_getElem hj, List.getElem?_eq_getElem (show i < (wantsU x m).length by omega)]
  exact this
theorem wants_t {x : Int} {m : Nat} (h : bitU x (2 * (m : Int)) = 1) : wantsU x (m + 1) = wantsU x m ++ [((m : Int), modeU x (2 * (m : Int) + 1))] := by rw [wantsU, if_pos h]
theorem wants_f {x : Int} {m : Nat} (h : ¬ bitU x (2 * (m : Int)) = 1) : wantsU x (m + 1) = wantsU x m := by rw [wantsU, if_neg h]
theorem wrap_nn (e : Int) : (0 : Int) ≤ IntKind.wrap .u64 e := by
  simp only [IntKind.wrap, IntKind.signed, IntKind.bits]
  simp
  omega

/-! ### all of them are made -/
def madeW (c : Nat) (l : List Int) (i : Nat) : List OneW := (List.range l.length).map fun j => if j < i then (false, wantsU (List.getD l j 0) c, 0, false) else (true, [], 0, false)
def endS (c : Nat) (l : List Int) : List OneX := (List.range l.length).map fun j => (wantsU (List.getD l j 0) c, 0, false)
def mostS (c : Nat) (l : List Int) : Nat → Int
  | 0 => 0
  | i + 1 => mostS c l i + (((wantsU (List.getD l i 0) c).length : Int) + 1)
theorem made_len (c : Nat) (l : List Int) (i : Nat) : (madeW c l i).length = l.length := by unfold madeW; rw [List.length_map, List.length_range]
theorem made_get {c : Nat} {l : List Int} {i j : Nat} (h : j < l.length) : List.getD (madeW c l i) j (true, [], 0, false) = if j < i then (false, wantsU (List.getD l j 0) c, 0, false) else (true, [], 0, false) := by
  unfold madeW
  rw [List.getD_eq_getElem?_getD, List.getElem?_map, List.getElem?_range h]
  rfl
theorem made_0 (c : Nat) (l : List Int) : List.replicate (List.length l) ((true, [], 0, false) : OneW) = madeW c l 0 := by
  refine List.ext_getElem? fun j => ?_
  unfold madeW
  rw [List.getElem?_map, List.getElem?_replicate]
  split
  · rw [List.getElem?_range (by assumption)]; rfl
  · rw [List.getElem?_eq_none (by simp; omega)]; rfl
theorem made_nil {c : Nat} {l : List Int} {i : Nat} (h : i < l.length) : rowW (List.getD (madeW c l i) i (true, [], 0, false)) 0 = .nilsl := by
  rw [made_get h, if_neg (by omega)]; rfl
theorem made_fill {c : Nat} {l : List Int} {i : Nat} (h : i < l.length) : ∀ q, q < 3 → ¬ q = 0 → rowW (false, wantsU (List.getD l i 0) c, 0, false) q = rowW (List.getD (madeW c l i) i (true, [], 0, false)) q := by
  intro q hq h0
  rw [made_get h, if_neg (by omega)]
  match q, hq with
  | 1, _ => rfl
  | 2, _ => rfl
theorem made_step {c : Nat} {l : List Int} {i : Nat} (h : i < l.length) : List.set (madeW c l i) i (false, wantsU (List.getD l i 0) c, 0, false) = madeW c l (i + 1) := by
  refine List.ext_getElem? fun j => ?_
  rw [List.getElem?_set]
  by_cases hj : i = j
  · subst hj
    rw [if_pos rfl, if_pos (by rw [made_len]; exact h)]
    unfold madeW
    rw [List.getElem?_map, List.getElem?_range h]
    simp
  · rw [if_neg hj]
    unfold madeW
    rw [List.getElem?_map, List.getElem?_map]
    by_cases hl : j < l.length
    · rw [List.getElem?_range hl]
      simp only [Option.map_some]
      by_cases h1 : j < i
      · rw [if_pos h1, if_pos (by omega)]
      · rw [if_neg h1, if_neg (by omega)]
    · rw [List.getElem?_eq_none (by simp; omega)]; rfl
theorem end_len {c : Nat} {l : List Int} {i : Nat} : (endS c l).length = (madeW c l i).length := by rw [made_len]; unfold endS; rw [List.length_map, List.length_range]
theorem ends_get {c : Nat} {l : List Int} {j : Nat} (h : j < l.length) : List.getD (endS c l) j ([], 0, false) = (wantsU (List.getD l j 0) c, 0, false) := by
  unfold endS
  rw [List.getD_eq_getElem?_getD, List.getElem?_map, List.getElem?_range h]
  rfl
theorem end_row {c : Nat} {l : List Int} {i : Nat} (hi : l.length ≤ i) : ∀ (j : Nat) (x : OneW) (y : OneX), (madeW c l i)[j]? = some x → (endS c l)[j]? = some y → ∀ q, q < 3 → AC.le (.s (rowW x q)) (.s (rowX y q)) := by
  intro j x y hx hy q hq
  have hj : j < l.length := by have := (List.getElem?_eq_some_iff.1 hx).1; rwa [made_len] at this
  have e1 := made_get (c := c) (i := i) hj
  have e2 := ends_get (c := c) hj
  rw [List.getD_eq_getElem?_getD, hx, if_pos (by omega)] at e1
  rw [List.getD_eq_getElem?_getD, hy] at e2
  simp only [Option.getD_some] at e1 e2
  subst e1 e2
  match q, hq with
  | 0, _ => exact AC.le_rfl
  | 1, _ => exact AC.le_rfl
  | 2, _ => exact AC.le_rfl
theorem most_le {c : Nat} {l : List Int} : ∀ i, 0 ≤ mostS c l i ∧ mostS c l i ≤ (i : Int) * ((c : Int) + 1)
  | 0 => ⟨Int.le_refl _, by simp [mostS]⟩
  | i + 1 => by
    obtain ⟨h1, h2⟩ := most_le (c := c) (l := l) i
    have h3 := (wants_all (List.getD l i 0) c).1
    have e : ((i + 1 : Nat) : Int) * ((c : Int) + 1) = (i : Int) * ((c : Int) + 1) + ((c : Int) + 1) := by
      rw [Int.natCast_add, Int.add_mul]; simp
    rw [e]
    simp only [mostS]
    omega

/-! ### who is left, who can go on -/
def liveN (a : List OneX) : Nat → List Int
  | 0 => []
  | j + 1 => if (List.getD a j ([], 0, false)).2.2 = true then liveN a j else liveN a j ++ [(j : Int)]
def leftN (a : List OneX) : Nat → Int
  | 0 => 0
  | j + 1 => if (List.getD a j ([], 0, false)).2.2 = true then leftN a j else leftN a j + 1
def canN (t : Tab) (a : List OneX) : Nat → List Int
  | 0 => []
  | j + 1 => if (List.getD a j ([], 0, false)).2.2 = true then canN t a j else if 0 ≤ waitIx t (j : Int) then canN t a j else canN t a j ++ [(j : Int)]
def remN (a : List OneX) : Nat → Int
  | 0 => 0
  | j + 1 => if (List.getD a j ([], 0, false)).2.2 = true then remN a j else remN a j + (((List.getD a j ([], 0, false)).1.length : Int) - (List.getD a j ([], 0, false)).2.1 + 1)
def kS (picks : Bytes) (n : Nat) : Int := if n < picks.length then ((List.getD picks n 0).toNat : Int) else (n : Int)
def canI (t : Tab) (a : List OneX) (k : Int) : Int := List.getD (canN t a a.length) (Int.tmod k (List.length (canN t a a.length) : Int)).toNat 0
theorem live_mem {a : List OneX} {x : Int} : ∀ {j : Nat}, x ∈ liveN a j ↔ ∃ i : Nat, i < j ∧ x = (i : Int) ∧ (List.getD a i ([], 0, false)).2.2 = false
  | 0 => ⟨fun h => by simp [liveN] at h, fun ⟨i, h, _⟩ => by omega⟩
  | j + 1 => by
    have ih := live_mem (a := a) (x := x) (j := j)
    unfold liveN
    split
    · rename_i hd
      rw [ih]
      constructor
      · rintro ⟨i, h1, h2, h3⟩; exact ⟨i, by omega, h2, h3⟩
      · rintro ⟨i, h1, h2, h3⟩
        refine ⟨i, ?_, h2, h3⟩
        by_cases e : i = j
        · subst e; rw [hd] at h3; cases h3
        · omega
    · rename_i hd
      rw [List.mem_append, ih, List.mem_singleton]
      constructor
      · rintro (⟨i, h1, h2, h3⟩ | h)
        · exact ⟨i, by omega, h2, h3⟩
        · exact ⟨j, by omega, h, by simpa using hd⟩
      · rintro ⟨i, h1, h2, h3⟩
        by_cases e : i = j
        · subst e; exact .inr h2
        · exact .inl ⟨i, by omega, h2, h3⟩
theorem can_mem {t : Tab} {a : List OneX} {x : Int} : ∀ {j : Nat}, x ∈ canN t a j ↔ ∃ i : Nat, i < j ∧ x = (i : Int) ∧ (List.getD a i ([], 0, false)).2.2 = false ∧ ¬ 0 ≤ waitIx t (i : Int)
  | 0 => ⟨fun h => by simp [canN] at h, fun ⟨i, h, _⟩ => by omega⟩
  | j + 1 => by
    have ih := can_mem (t := t) (a := a) (x := x) (j := j)
    unfold canN
    split
    · rename_i hd
      rw [ih]
      constructor
      · rintro ⟨i, h1, h2, h3⟩; exact ⟨i, by omega, h2, h3⟩
      · rintro ⟨i, h1, h2, h3, h4⟩
        refine ⟨i, ?_, h2, h3, h4⟩
        by_cases e : i = j
        · subst e; rw [hd] at h3; cases h3
        · omega
    · rename_i hd
      split
      · rename_i hw
        rw [ih]
        constructor
        · rintro ⟨i, h1, h2, h3⟩; exact ⟨i, by omega, h2, h3⟩
        · rintro ⟨i, h1, h2, h3, h4⟩
          refine ⟨i, ?_, h2, h3, h4⟩
          by_cases e : i = j
          · subst e; exact absurd hw h4
          · omega
      · rename_i hw
        rw [List.mem_append, ih, List.mem_singleton]
        constructor
        · rintro (⟨i, h1, h2, h3⟩ | h)
          · exact ⟨i, by omega, h2, h3⟩
          · exact ⟨j, by omega, h, by simpa using hd, hw⟩
        · rintro ⟨i, h1, h2, h3⟩
          by_cases e : i = j
          · subst e; exact .inr h2
          · exact .inl ⟨i, by omega, h2, h3⟩
theorem left_live (a : List OneX) : ∀ j, leftN a j = ((liveN a j).length : Int)
  | 0 => rfl
  | j + 1 => by
    unfold leftN liveN
    split
    · exact left_live a j
    · rw [left_live a j]; simp
theorem can_len (t : Tab) (a : List OneX) : ∀ j, (canN t a j).length ≤ j
  | 0 => Nat.le_refl _
  | j + 1 => by
    have := can_len t a j
    unfold canN
    split
    · omega
    · split
      · omega
      · simp; omega
theorem rem_set {a : List OneX} {i : Nat} {x : OneX} (hi : i < a.length) : ∀ j, remN (List.set a i x) j = remN a j + (if i < j then (if x.2.2 = true then 0 else ((x.1.length : Int) - x.2.1 + 1)) - (if (List.getD a i ([], 0, false)).2.2 = true then 0 else (((List.getD a i ([], 0, false)).1.length : Int) - (List.getD a i ([], 0, false)).2.1 + 1)) else 0)
  | 0 => by simp [remN]
  | j + 1 => by
    have ih := rem_set (x := x) hi j
    have e : List.getD (List.set a i x) j ([], 0, false) = if i = j then x else List.getD a j ([], 0, false) := by
      rw [List.getD_eq_getElem?_getD, List.getElem?_set]
      split
      · first | rfl | (rw [if_pos hi]; rfl)
      · rw [List.getD_eq_getElem?_getD]
    simp only [remN]
    rw [e, ih]
    by_cases hij : i = j
    · subst hij
      simp only [if_true, Nat.lt_irrefl, if_false, if_pos (Nat.lt_succ_self i)]
      cases x.2.2 <;> cases (List.getD a i ([], 0, false)).2.2 <;> simp <;> omega
    · simp only [if_neg hij]
      by_cases hlt : i < j
      · simp only [if_pos hlt, if_pos (show i < j + 1 by omega)]
        cases (List.getD a j ([], 0, false)).2.2 <;> simp <;> omega
      · simp only [if_neg hlt, if_neg (show ¬ i < j + 1 by omega)]
        cases (List.getD a j ([], 0, false)).2.2 <;> simp

/-! ### what holds at each step -/
structure EndI (c : Nat) (l : List Int) (n : Nat) (tt : Tab) (a : List OneX) : Prop where
  ok : TabOk n (liveN a a.length) tt
  len : tt.length = c
  alen : a.length = l.length
  elt : ∀ j, j < a.length → (List.getD a j ([], 0, false)).1 = wantsU (List.getD l j 0) c ∧ 0 ≤ (List.getD a j ([], 0, false)).2.1 ∧ (List.getD a j ([], 0, false)).2.1 ≤ ((wantsU (List.getD l j 0) c).length : Int)
  has : ∀ j, j < a.length → (List.getD a j ([], 0, false)).2.2 = false → ∀ q, q < tt.length → (j : Int) ∈ allN (at_ tt q) → ∃ m : Nat, (m : Int) < (List.getD a j ([], 0, false)).2.1 ∧ (List.getD (List.getD a j ([], 0, false)).1 m (0, 0)).1 = (q : Int)
  sum : (n : Int) + remN a a.length = mostS c l l.length
theorem rem_ends {c : Nat} {l : List Int} : ∀ j, j ≤ l.length → remN (endS c l) j = mostS c l j
  | 0, _ => rfl
  | j + 1, h => by
    have ih := rem_ends (c := c) (l := l) j (by omega)
    simp only [remN, mostS]
    rw [ends_get (by omega), ih]
    simp
theorem end_0 (k : Int) (l : List Int) : EndI (newS k).1.length l 0 (newS k).1 (endS (newS k).1.length l) := by
  have hl : (endS (newS k).1.length l).length = l.length := by rw [end_len (i := 0), made_len]
  have hk := ok_new k
  have none : ∀ g ∈ (newS k).1, ∀ x, x ∉ allN g := fun g hg x hx => by have := hk.who g hg x hx; simp at this
  refine ⟨⟨hk.good, fun g hg x hx => absurd hx (none g hg x), hk.below, hk.kept, hk.wr⟩, rfl, hl, fun j hj => ?_, fun j hj _ q hq hm => ?_, ?_⟩
  · rw [ends_get (by omega)]
    exact ⟨rfl, Int.le_refl _, by simp⟩
  · exact absurd hm (none _ (AL.Lib.getD_mem ([], []) _ q hq) _)
  · rw [hl, rem_ends _ (Nat.le_refl _)]; simp
theorem rem_nn {c : Nat} {l : List Int} {n : Nat} {tt : Tab} {a : List OneX} (h : EndI c l n tt a) : ∀ j, j ≤ a.length → 0 ≤ remN a j
  | 0, _ => Int.le_refl _
  | j + 1, hj => by
    have ih := rem_nn h j (by omega)
    have he := h.elt j (by omega)
    simp only [remN]
    split
    · exact ih
    · rw [he.1]; omega
theorem EndI.few {c : Nat} {l : List Int} {n : Nat} {tt : Tab} {a : List OneX} (h : EndI c l n tt a) : (n : Int) ≤ mostS c l l.length := by
  have := rem_nn h a.length (Nat.le_refl _)
  have := h.sum
  omega
/-- ONE CAN ALWAYS GO ON. -/
theorem can_some {c : Nat} {l : List Int} {n : Nat} {tt : Tab} {a : List OneX} (h : EndI c l n tt a) (hl : ¬ leftN a a.length = 0) : ¬ (List.length (canN tt a a.length) : Int) = 0 := by
  intro hc
  have hnil : canN tt a a.length = [] := List.eq_nil_of_length_eq_zero (by omega)
  have hno : ∀ x, x ∉ canN tt a a.length := fun x hx => by rw [hnil] at hx; cases hx
  rw [left_live] at hl
  obtain ⟨x, r, hx⟩ := List.exists_cons_of_ne_nil (show liveN a a.length ≠ [] from fun e => hl (by rw [e]; rfl))
  obtain ⟨i, h1, h2, h3⟩ := live_mem.1 (show x ∈ liveN a a.length by rw [hx]; exact List.mem_cons_self ..)
  by_cases hw : 0 ≤ waitIx tt (i : Int)
  · obtain ⟨v, hv, h4, _⟩ := never h.ok hw
    obtain ⟨i', g1, g2, g3⟩ := live_mem.1 hv
    exact hno v (can_mem.2 ⟨i', g1, g2, g3, by rw [← g2]; exact h4⟩)
  · exact hno x (can_mem.2 ⟨i, h1, h2, h3, hw⟩)
theorem can_pick {tt : Tab} {a : List OneX} {k : Int} (hk : 0 ≤ k) (hc : ¬ (List.length (canN tt a a.length) : Int) = 0) : ∃ i : Nat, canI tt a k = (i : Int) ∧ i < a.length ∧ (List.getD a i ([], 0, false)).2.2 = false ∧ ¬ 0 ≤ waitIx tt (i : Int) := by
  have h1 := Int.tmod_nonneg (List.length (canN tt a a.length) : Int) hk
  have h2 := Int.tmod_lt_of_pos k (show 0 < (List.length (canN tt a a.length) : Int) by omega)
  have hm : canI tt a k ∈ canN tt a a.length := AL.Lib.getD_mem 0 _ _ (by omega)
  obtain ⟨i, g1, g2, g3, g4⟩ := can_mem.1 hm
  exact ⟨i, g2, g1, g3, g4⟩
theorem ks_nn (picks : Bytes) (n : Nat) : 0 ≤ kS picks n := by unfold kS; split <;> omega
theorem get_set {a : List OneX} {i j : Nat} {x : OneX} (hi : i < a.length) : List.getD (List.set a i x) j ([], 0, false) = if i = j then x else List.getD a j ([], 0, false) := by
  rw [List.getD_eq_getElem?_getD, List.getElem?_set]
  split
  · first | rfl | (rw [if_pos hi]; rfl)
  · rw [List.getD_eq_getElem?_getD]
theorem ok_live {n m : Nat} {ws ws' : List Int} {t : Tab} (h : TabOk n ws t) (hn : n ≤ m) (hw : ∀ g ∈ t, ∀ x ∈ allN g, x ∈ ws') : TabOk m ws' t :=
  ⟨good_mono h.good hn, hw, h.below, h.kept, h.wr⟩
theorem quit_names {w : Int} : ∀ (k : Nat) {t : Tab}, k ≤ t.length → ∀ i x, x ∈ allN (at_ (quitT w k t) i) → x ∈ allN (at_ t i)
  | 0, _, _, _, _, h => h
  | k + 1, t, hk, i, x, h => by
    rw [quitT] at h
    have h := quit_names k (by rw [leave_len]; omega) i x h
    rcases at_leave (w := w) (show k < t.length by omega) i with q | ⟨q1, q2⟩
    · rwa [q] at h
    · rw [q2] at h; rw [q1]; exact leave_names h
theorem mem_at {t : Tab} {g : Gt} (h : g ∈ t) : ∃ i, i < t.length ∧ at_ t i = g := by
  obtain ⟨i, hi, rfl⟩ := List.mem_iff_getElem.1 h
  exact ⟨i, hi, by rw [at_, List.getD_eq_getElem?_getD, List.getElem?_eq_getElem hi]; rfl⟩
/-- One quits. -/
theorem end_quit {c : Nat} {l : List Int} {n : Nat} {tt : Tab} {a : List OneX} (h : EndI c l n tt a) {i : Nat} (hi : i < a.length) (hd : (List.getD a i ([], 0, false)).2.2 = false) (hn : (List.getD a i ([], 0, false)).2.1 = ((List.getD a i ([], 0, false)).1.length : Int)) :
    EndI c l (n + 1) (quitT (i : Int) (List.length tt) tt) (List.set a i ((List.getD a i ([], 0, false)).1, (List.getD a i ([], 0, false)).2.1, true)) := by
  have hc := quit_clean (w := (i : Int)) tt.length h.ok.good (Nat.le_refl _) (fun _ h1 h2 => by omega)
  refine ⟨ok_live (ok_quit _ h.ok) (by omega) (fun g hg x hx => ?_), by rw [quit_len]; exact h.len, by rw [List.length_set]; exact h.alen, fun j hj => ?_, fun j hj hdj q hq hm => ?_, ?_⟩
  · obtain ⟨q, hq, rfl⟩ := mem_at hg
    rw [quit_len] at hq
    have h1 := quit_names _ (Nat.le_refl _) q x hx
    have h2 := h.ok.who _ (AL.Lib.getD_mem ([], []) tt q hq) x h1
    obtain ⟨j, g1, g2, g3⟩ := live_mem.1 h2
    rw [List.length_set]
    refine live_mem.2 ⟨j, g1, g2, ?_⟩
    rw [get_set hi, if_neg]
    · exact g3
    · rintro rfl
      rw [g2] at hx
      exact hc q hq hx
  · rw [List.length_set] at hj
    rw [get_set hi]
    split
    · rename_i e; subst e; exact h.elt i hj
    · exact h.elt j hj
  · rw [List.length_set] at hj
    rw [quit_len] at hq
    rw [get_set hi] at hdj ⊢
    split
    · rename_i e; subst e; rw [if_pos rfl] at hdj; cases hdj
    · rename_i e
      rw [if_neg e] at hdj
      exact h.has j hj hdj q hq (quit_names _ (Nat.le_refl _) q _ hm)
  · rw [List.length_set, rem_set hi, if_pos hi, hd]
    have := h.sum
    simp only [if_true, Bool.false_eq_true, if_false]
    omega
/-- One asks. -/
theorem end_ask {c : Nat} {l : List Int} {n : Nat} {tt : Tab} {a : List OneX} (h : EndI c l n tt a) {i : Nat} (hi : i < a.length) (hd : (List.getD a i ([], 0, false)).2.2 = false) (hw : ¬ 0 ≤ waitIx tt (i : Int))
    (hn : ¬ (List.getD a i ([], 0, false)).2.1 = ((List.getD a i ([], 0, false)).1.length : Int)) {y : One} (hy : y = List.getD (List.getD a i ([], 0, false)).1 (List.getD a i ([], 0, false)).2.1.toNat (0, 0)) :
    (askT tt (i : Int) y.1 y.2).2.2 = 0 ∧ EndI c l (n + 1) (askT tt (i : Int) y.1 y.2).1 (List.set a i ((List.getD a i ([], 0, false)).1, (List.getD a i ([], 0, false)).2.1 + 1, (List.getD a i ([], 0, false)).2.2)) := by
  obtain ⟨e1, e2, e3⟩ := h.elt i hi
  rw [e1] at hn hy
  generalize hx : List.getD l i 0 = x at *
  generalize hnx : (List.getD a i ([], 0, false)).2.1 = nx at *
  have hlt : nx.toNat < (wantsU x c).length := by omega
  have hyb := (wants_all x c).2.1 y (by rw [hy]; exact AL.Lib.getD_mem _ _ _ hlt)
  obtain ⟨b1, b2, b3⟩ := hyb
  have hlen := h.len
  have hat : at_ tt y.1.toNat ∈ tt := AL.Lib.getD_mem _ _ _ (by omega)
  have below : ∀ q, q < tt.length → (i : Int) ∈ allN (at_ tt q) → (q : Int) < y.1 := by
    intro q hq hm
    obtain ⟨m, g1, g2⟩ := h.has i hi hd q hq hm
    rw [hnx] at g1
    rw [e1] at g2
    rw [← g2, hy]
    exact wants_getlt x c (by omega) hlt
  have hl : lateS tt (i : Int) y.1 = false := late_f fun q hq => by
    unfold late1
    rw [Bool.or_eq_false_iff]
    constructor
    · rw [decide_eq_false_iff_not]
      intro hf
      exact hw (waits_iff.2 ⟨q, hq, Classical.byContradiction fun z => by have := find_neg.2 z; unfold at_ at this; omega⟩)
    · rw [Bool.and_eq_false_iff, decide_eq_false_iff_not, Bool.not_eq_false', decide_eq_true_eq]
      by_cases hb : y.1 ≤ (q : Int)
      · right
        have hgj := h.ok.good.2 _ (AL.Lib.getD_mem ([], []) tt q hq)
        refine (mode_ne hgj.1).2 (find_neg.2 fun hm => ?_)
        have := below q hq (by rw [allN, names_app, List.mem_append]; exact .inl hm)
        omega
      · exact .inl hb
  have hin : (i : Int) ∉ allN (at_ tt y.1.toNat) := fun hm => by
    have := below y.1.toNat (by omega) hm
    omega
  have hk : hasS tt y.1 = true := has_iff.2 (by omega)
  have hm2 : ¬ ((i : Int) < 0 ∨ (y.2 ≠ 1 ∧ y.2 ≠ 2)) := by omega
  have hin1 : findS (at_ tt y.1.toNat).1 (i : Int) < 0 := find_neg.2 fun q => hin (by rw [allN, names_app, List.mem_append]; exact .inl q)
  have hin2 : findS (at_ tt y.1.toNat).2 (i : Int) < 0 := find_neg.2 fun q => hin (by rw [allN, names_app, List.mem_append]; exact .inr q)
  have hask := ask_4 hk hm2 hl
  have hz : (askS (at_ tt y.1.toNat) (i : Int) y.2).2.2 = 0 := by
    by_cases h3 : (at_ tt y.1.toNat).2 = [] ∧ openS (at_ tt y.1.toNat).1 y.2 = true
    · rw [ask_in hm2 ⟨hin1, hin2⟩ h3.1 h3.2]
    · rw [ask_row hm2 ⟨hin1, hin2⟩ h3]
  have hnames : ∀ q z, z ∈ allN (at_ (askT tt (i : Int) y.1 y.2).1 q) → z ∈ allN (at_ tt q) ∨ (z = (i : Int) ∧ (q : Int) = y.1) := by
    intro q z hzm
    rw [hask] at hzm
    simp only [withS] at hzm
    rw [at_with tt y.1.toNat q _ (by omega)] at hzm
    split at hzm
    · rename_i e
      rcases ask_names hzm with h1 | h1
      · exact .inl (by rw [e]; exact h1)
      · exact .inr ⟨h1, by omega⟩
    · exact .inl hzm
  refine ⟨by rw [hask]; exact hz, ok_live (ok_ask h.ok) (Nat.le_refl _) (fun g hg z hzm => ?_), by rw [ask_len]; exact h.len, by rw [List.length_set]; exact h.alen, fun j hj => ?_, fun j hj hdj q hq hm => ?_, ?_⟩
  · obtain ⟨q, hq, rfl⟩ := mem_at hg
    rw [ask_len] at hq
    have hlive : z ∈ liveN a a.length := by
      rcases hnames q z hzm with h1 | ⟨h1, _⟩
      · exact h.ok.who _ (AL.Lib.getD_mem ([], []) tt q hq) z h1
      · exact live_mem.2 ⟨i, hi, h1, hd⟩
    obtain ⟨j, g1, g2, g3⟩ := live_mem.1 hlive
    rw [List.length_set]
    refine live_mem.2 ⟨j, g1, g2, ?_⟩
    rw [get_set hi]
    split
    · exact hd
    · exact g3
  · rw [List.length_set] at hj
    rw [get_set hi]
    split
    · rename_i e; subst e
      rw [hx]
      exact ⟨e1, by show 0 ≤ nx + 1; omega, by show nx + 1 ≤ _; omega⟩
    · exact h.elt j hj
  · rw [List.length_set] at hj
    rw [ask_len] at hq
    rw [get_set hi] at hdj ⊢
    split
    · rename_i e; subst e
      rcases hnames q _ hm with h1 | ⟨_, h1⟩
      · obtain ⟨m, g1, g2⟩ := h.has i hi hd q hq h1
        rw [hnx] at g1
        exact ⟨m, by show (m : Int) < nx + 1; omega, g2⟩
      · refine ⟨nx.toNat, by show (nx.toNat : Int) < nx + 1; omega, ?_⟩
        show (List.getD (List.getD a i ([], 0, false)).1 nx.toNat (0, 0)).1 = _
        rw [e1, ← hy, h1]
    · rename_i e
      rw [if_neg e] at hdj
      rcases hnames q _ hm with h1 | ⟨h1, _⟩
      · exact h.has j hj hdj q hq h1
      · exact absurd (by omega) e
  · rw [List.length_set, rem_set hi, if_pos hi, hd, hnx]
    have := h.sum
    simp only [Bool.false_eq_true, if_false]
    omega
/-- When all are done, the table is free. -/
theorem end_free {c : Nat} {l : List Int} {n : Nat} {tt : Tab} {a : List OneX} (h : EndI c l n tt a) (hl : leftN a a.length = 0) : freeS tt = true := by
  rw [left_live] at hl
  have hnil : liveN a a.length = [] := List.eq_nil_of_length_eq_zero (by omega)
  unfold freeS
  rw [List.all_eq_true]
  intro g hg
  have hno : ∀ x, x ∉ allN g := fun x hx => by have := h.ok.who g hg x hx; rw [hnil] at this; cases this
  have hn : allN g = [] := List.eq_nil_iff_forall_not_mem.2 hno
  have : (allN g).length = 0 := by rw [hn]; rfl
  rw [allN, names_len, List.length_append] at this
  rw [decide_eq_true_eq]
  omega

/-! ### what the walk asks -/
theorem new_eq {k : Int} (h : 1 ≤ k ∧ k ≤ 8) : (newS k).1.length = (k + 4).toNat := by
  unfold newS
  rw [if_neg (by omega), List.length_replicate]
theorem most_b {c : Nat} {l : List Int} {i : Nat} (hc : c ≤ 12) (hi : i ≤ 8) : 0 ≤ mostS c l i ∧ mostS c l i ≤ 104 := by
  obtain ⟨h1, h2⟩ := most_le (c := c) (l := l) i
  have h3 : i * (c + 1) ≤ 8 * 13 := Nat.mul_le_mul hi (by omega)
  have h4 : ((i * (c + 1) : Nat) : Int) = (i : Int) * ((c : Int) + 1) := by rw [Int.natCast_mul]; rfl
  omega
theorem left_t {a : List OneX} {j : Nat} (h : (List.getD a j ([], 0, false)).2.2 = true) : leftN a (j + 1) = leftN a j := by rw [leftN, if_pos h]
theorem left_f {a : List OneX} {j : Nat} (h : (List.getD a j ([], 0, false)).2.2 = false) : leftN a (j + 1) = leftN a j + 1 := by rw [leftN, if_neg (by rw [h]; decide)]
theorem can_t {t : Tab} {a : List OneX} {j : Nat} (h : (List.getD a j ([], 0, false)).2.2 = true) : canN t a (j + 1) = canN t a j := by rw [canN, if_pos h]
theorem can_w {t : Tab} {a : List OneX} {j : Nat} (h : (List.getD a j ([], 0, false)).2.2 = false) (hw : 0 ≤ waitIx t (j : Int)) : canN t a (j + 1) = canN t a j := by rw [canN, if_neg (by rw [h]; decide), if_pos hw]
theorem can_n {t : Tab} {a : List OneX} {j : Nat} (h : (List.getD a j ([], 0, false)).2.2 = false) (hw : ¬ 0 ≤ waitIx t (j : Int)) : canN t a (j + 1) = canN t a j ++ [(j : Int)] := by rw [canN, if_neg (by rw [h]; decide), if_neg hw]
theorem left_b (a : List OneX) : ∀ j, 0 ≤ leftN a j ∧ leftN a j ≤ j
  | 0 => ⟨Int.le_refl _, Int.le_refl _⟩
  | j + 1 => by
    have := left_b a j
    unfold leftN
    split <;> omega
theorem rem_rng {k L : Int} (hk : 0 ≤ k) (hL : 0 < L) : 0 ≤ Int.tmod k L ∧ Int.tmod k L < L := ⟨Int.tmod_nonneg L hk, Int.tmod_lt_of_pos k hL⟩
section
variable {c : Nat} {l : List Int} {n : Nat} {tt : Tab} {a : List OneX} {picks : Bytes} (h : EndI c l n tt a) (hc : ¬ (List.length (canN tt a a.length) : Int) = 0)
include h hc
theorem can_rng : 0 ≤ canI tt a (kS picks n) ∧ canI tt a (kS picks n) < (a.length : Int) ∧ 0 ≤ (List.getD a (canI tt a (kS picks n)).toNat ([], 0, false)).2.1 ∧ (List.getD a (canI tt a (kS picks n)).toNat ([], 0, false)).2.1 ≤ ((List.getD a (canI tt a (kS picks n)).toNat ([], 0, false)).1.length : Int) ∧ (List.getD a (canI tt a (kS picks n)).toNat ([], 0, false)).1.length ≤ c := by
  obtain ⟨i, e, hi, h3, h4⟩ := can_pick (ks_nn picks n) hc
  rw [e, Int.toNat_natCast]
  obtain ⟨e1, e2, e3⟩ := h.elt i hi
  rw [e1]
  exact ⟨by omega, by omega, e2, e3, (wants_all _ _).1⟩
theorem end_quitX (hn : (List.getD a (canI tt a (kS picks n)).toNat ([], 0, false)).2.1 = ((List.getD a (canI tt a (kS picks n)).toNat ([], 0, false)).1.length : Int)) :
    EndI c l (n + 1) (quitT (canI tt a (kS picks n)) (List.length tt) tt) (List.set a (canI tt a (kS picks n)).toNat ((List.getD a (canI tt a (kS picks n)).toNat ([], 0, false)).1, (List.getD a (canI tt a (kS picks n)).toNat ([], 0, false)).2.1, true)) := by
  obtain ⟨i, e, hi, h3, h4⟩ := can_pick (ks_nn picks n) hc
  rw [e, Int.toNat_natCast] at hn ⊢
  exact end_quit h hi h3 hn
theorem end_askX (hn : ¬ (List.getD a (canI tt a (kS picks n)).toNat ([], 0, false)).2.1 = ((List.getD a (canI tt a (kS picks n)).toNat ([], 0, false)).1.length : Int)) :
    (askT tt (canI tt a (kS picks n)) (List.getD (List.getD a (canI tt a (kS picks n)).toNat ([], 0, false)).1 (List.getD a (canI tt a (kS picks n)).toNat ([], 0, false)).2.1.toNat (0, 0)).1 (List.getD (List.getD a (canI tt a (kS picks n)).toNat ([], 0, false)).1 (List.getD a (canI tt a (kS picks n)).toNat ([], 0, false)).2.1.toNat (0, 0)).2).2.2 = 0 ∧
    EndI c l (n + 1) (askT tt (canI tt a (kS picks n)) (List.getD (List.getD a (canI tt a (kS picks n)).toNat ([], 0, false)).1 (List.getD a (canI tt a (kS picks n)).toNat ([], 0, false)).2.1.toNat (0, 0)).1 (List.getD (List.getD a (canI tt a (kS picks n)).toNat ([], 0, false)).1 (List.getD a (canI tt a (kS picks n)).toNat ([], 0, false)).2.1.toNat (0, 0)).2).1
      (List.set a (canI tt a (kS picks n)).toNat ((List.getD a (canI tt a (kS picks n)).toNat ([], 0, false)).1, (List.getD a (canI tt a (kS picks n)).toNat ([], 0, false)).2.1 + 1, (List.getD a (canI tt a (kS picks n)).toNat ([], 0, false)).2.2)) := by
  obtain ⟨i, e, hi, h3, h4⟩ := can_pick (ks_nn picks n) hc
  rw [e, Int.toNat_natCast] at hn ⊢
  exact end_ask h hi h3 h4 hn rfl
end
theorem step_len {a : List OneX} {i : Nat} {x : OneX} : (List.set a i x).length = a.length := List.length_set
end AL.Locks
