/- route: what its functions compute, in plain Lean. No condition. -/
import Derived.Test.YtfedegdihgeelaaDoorRuneD
import Derived.Test.YtfedegdihgeelaaDoorFnvD
namespace AL.Route
open Go AL AL.Rune
set_option linter.unusedVariables false
set_option linter.unusedSimpArgs false

def runeOk (c : Int) : Bool :=
  (decide (97 ≤ c) && decide (c ≤ 122)) || (decide (65 ≤ c) && decide (c ≤ 90)) || (decide (48 ≤ c) && decide (c ≤ 57)) || decide (c = 45) || decide (c = 46) || decide (c = 95) || (decide (192 ≤ c) && decide (c ≤ 55295))
theorem rune_iff {c : Int} : runeOk c = true ↔ (97 ≤ c ∧ c ≤ 122) ∨ (65 ≤ c ∧ c ≤ 90) ∨ (48 ≤ c ∧ c ≤ 57) ∨ c = 45 ∨ c = 46 ∨ c = 95 ∨ (192 ≤ c ∧ c ≤ 55295) := by
  unfold runeOk
  simp only [Bool.or_eq_true, Bool.and_eq_true, decide_eq_true_eq, or_assoc]
def okR (x : R) : Bool := runeOk (x.1 : Int)
def partS (s : Bytes) : Int :=
  if s = [] ∨ s = [46] ∨ s = [46, 46] ∨ s = [45] then 4 else if (runesS s).all okR = false then 4 else if 12 < (runesS s).length then 5 else 0
theorem part_1 {s : Bytes} (h : s = [] ∨ s = [46] ∨ s = [46, 46] ∨ s = [45]) : partS s = 4 := by unfold partS; rw [if_pos h]
theorem part_2 {s : Bytes} (h : (runesS s).all okR = false) : partS s = 4 := by unfold partS; split; rfl; rfl
theorem part_3 {s : Bytes} (h : ¬ (s = [] ∨ s = [46] ∨ s = [46, 46] ∨ s = [45])) (h2 : (runesS s).all okR = true) (h3 : 12 < (runesS s).length) : partS s = 5 := by
  unfold partS; rw [if_neg h, if_neg (by rw [h2]; decide), if_pos h3]
theorem part_4 {s : Bytes} (h : ¬ (s = [] ∨ s = [46] ∨ s = [46, 46] ∨ s = [45])) (h2 : (runesS s).all okR = true) (h3 : ¬ 12 < (runesS s).length) : partS s = 0 := by
  unfold partS; rw [if_neg h, if_neg (by rw [h2]; decide), if_neg h3]
theorem part_val (s : Bytes) : partS s = 0 ∨ partS s = 4 ∨ partS s = 5 := by
  unfold partS; split; simp; split; simp; split <;> simp
/-- What is left of the runes from a place on. -/
def LeftAll (s : Bytes) (pos : Nat) : Prop := (runesS s).all okR = (runesS (List.drop pos s)).all okR
theorem left_0 (s : Bytes) : LeftAll s 0 := by unfold LeftAll; rw [List.drop_zero]
theorem left_ok {s : Bytes} {pos : Nat} (h : pos < s.length) (hA : LeftAll s pos) (hc : runeOk ((decS s pos).1 : Int) = true) : LeftAll s (pos + (decS s pos).2) := by
  unfold LeftAll at *
  rw [hA, runes_at h, List.all_cons]
  show (runeOk ((decS s pos).1 : Int) && _) = _
  rw [hc, Bool.true_and]
theorem left_bad {s : Bytes} {pos : Nat} (h : pos < s.length) (hA : LeftAll s pos) (hc : runeOk ((decS s pos).1 : Int) = false) : (runesS s).all okR = false := by
  unfold LeftAll at hA
  rw [hA, runes_at h, List.all_cons]
  show (runeOk ((decS s pos).1 : Int) && _) = _
  rw [hc, Bool.false_and]
theorem left_end {s : Bytes} {pos : Nat} (h : s.length ≤ pos) (hA : LeftAll s pos) : (runesS s).all okR = true := by
  unfold LeftAll at hA
  rw [hA, runes_end h]; rfl
def LeftN (s : Bytes) (pos n : Nat) : Prop := (runesS s).length = n + (runesS (List.drop pos s)).length
theorem leftN_0 (s : Bytes) : LeftN s 0 0 := by unfold LeftN; rw [List.drop_zero]; omega
theorem leftN_step {s : Bytes} {pos n : Nat} (h : pos < s.length) (hN : LeftN s pos n) : LeftN s (pos + (decS s pos).2) (n + 1) := by
  unfold LeftN at *
  rw [hN, runes_at h, List.length_cons]; omega
theorem leftN_end {s : Bytes} {pos n : Nat} (h : s.length ≤ pos) (hN : LeftN s pos n) : (runesS s).length = n := by
  unfold LeftN at hN
  rw [hN, runes_end h]; rfl
theorem leftN_le {s : Bytes} {pos n : Nat} (hN : LeftN s pos n) : n ≤ s.length := by
  have := runes_len s
  unfold LeftN at hN; omega
theorem ok_next {s : Bytes} {pos : Nat} : runeOk (nextS s pos).1 = runeOk ((decS s pos).1 : Int) := by
  unfold nextS
  split
  · rename_i h; rw [h.1]; rfl
  · rfl

/-! ### whole paths -/
def gradedS (l : List Bytes) : Int :=
  if l.any (fun p => decide (partS p = 4)) = true then 4 else if l.any (fun p => decide (partS p = 5)) = true then 5 else if 6 < l.length then 24 else 0
def checkS (s : Bytes) : Int := if 64 < s.length then 5 else gradedS (piecesS s)
def partsS (s : Bytes) : List Bytes × Int := if checkS s = 0 then (piecesS s, 0) else ([], checkS s)
def joinT (l : List Bytes) : Bytes × Int :=
  if l.any (fun p => decide ((47 : UInt8) ∈ p)) = true then ([], 4) else if checkS (joinS l) = 0 then (joinS l, 0) else ([], checkS (joinS l))
theorem graded_hit {l : List Bytes} {k : Nat} (hk : k < l.length) (h : partS (List.getD l k []) = 4) : gradedS l = 4 := by
  unfold gradedS
  rw [if_pos (List.any_eq_true.2 ⟨_, AL.Lib.getD_mem [] l k hk, decide_eq_true h⟩)]
def worstS (l : List Bytes) : Int := if l.any (fun p => decide (partS p = 5)) = true then 5 else 0
theorem worst_step (l : List Bytes) (k : Nat) (hk : k < l.length) : worstS (List.take (k + 1) l) = if partS (List.getD l k []) = 5 then 5 else worstS (List.take k l) := by
  unfold worstS
  rw [AL.Lib.take_succ [] l k hk, List.any_append]
  by_cases h : partS (List.getD l k []) = 5
  · rw [if_pos h, if_pos (by simp only [List.any_cons, List.any_nil, h]; simp)]
  · rw [if_neg h]; simp only [List.any_cons, List.any_nil, decide_eq_false h, Bool.or_false]
theorem graded_end {l : List Bytes} (h : ∀ k, k < l.length → partS (List.getD l k []) ≠ 4) : gradedS l = if worstS l = 0 then (if 6 < l.length then 24 else 0) else worstS l := by
  have h0 : l.any (fun p => decide (partS p = 4)) = false := by
    rw [List.any_eq_false]
    intro p hp
    obtain ⟨i, hi, rfl⟩ := List.mem_iff_getElem.1 hp
    have := h i hi
    rw [AL.Lib.getD_lt [] l i hi] at this
    simpa using this
  unfold gradedS worstS
  rw [if_neg (by rw [h0]; decide)]
  split
  · rfl
  · rfl
theorem graded_val (l : List Bytes) : gradedS l = 0 ∨ gradedS l = 4 ∨ gradedS l = 5 ∨ gradedS l = 24 := by
  unfold gradedS; split; simp; split; simp; split <;> simp
theorem check_val (s : Bytes) : checkS s = 0 ∨ checkS s = 4 ∨ checkS s = 5 ∨ checkS s = 24 := by
  unfold checkS; split; simp; exact graded_val _
def countS (s : Bytes) : Int × Int := (((runesS s).length : Int), if (runesS s).any badR = true then 4 else 0)
def cleanS (s : Bytes) : Bytes := (((runesS s).filter okR).map (·.2)).flatten
def cleanE (l : List R) : Bytes := ((l.filter okR).map fun x => Go.Lib.encodeRune (x.1 : Int)).flatten
theorem clean_E (s : Bytes) : cleanE (runesS s) = cleanS s := by
  unfold cleanE cleanS
  congr 1
  refine List.map_congr_left fun x hx => ?_
  obtain ⟨h1, h2⟩ := List.mem_filter.1 hx
  refine runes_enc s x h1 ?_
  unfold badR okR at *
  have h3 := rune_iff.1 h2
  rw [Bool.and_eq_false_iff, decide_eq_false_iff_not, decide_eq_false_iff_not]
  left
  omega
/-- What is left of the marks from a place on. -/
def LeftBad (s : Bytes) (pos : Nat) (e : Int) : Prop := (if (runesS s).any badR = true then (4 : Int) else 0) = if (runesS (List.drop pos s)).any badR = true then 4 else e
theorem bad_0 (s : Bytes) : LeftBad s 0 0 := by unfold LeftBad; rw [List.drop_zero]
theorem bad_hit {s : Bytes} {pos : Nat} {e : Int} (h : pos < s.length) (hB : LeftBad s pos e) (hc : badR ((decS s pos).1, List.take (decS s pos).2 (List.drop pos s)) = true) : LeftBad s (pos + (decS s pos).2) 4 := by
  unfold LeftBad at *
  rw [hB, runes_at h, List.any_cons, hc, Bool.true_or]
  simp
theorem bad_not {s : Bytes} {pos : Nat} {e : Int} (h : pos < s.length) (hB : LeftBad s pos e) (hc : badR ((decS s pos).1, List.take (decS s pos).2 (List.drop pos s)) = false) : LeftBad s (pos + (decS s pos).2) e := by
  unfold LeftBad at *
  rw [hB, runes_at h, List.any_cons, hc, Bool.false_or]
theorem bad_end {s : Bytes} {pos : Nat} {e : Int} (h : s.length ≤ pos) (hB : LeftBad s pos e) : (if (runesS s).any badR = true then (4 : Int) else 0) = e := by
  unfold LeftBad at hB
  rw [hB, runes_end h, List.any_nil, if_neg (by decide)]
def LeftClean (s : Bytes) (pos : Nat) (o : Bytes) : Prop := cleanS s = o ++ (((runesS (List.drop pos s)).filter okR).map (·.2)).flatten
theorem lc_0 (s : Bytes) : LeftClean s 0 [] := by unfold LeftClean cleanS; rw [List.drop_zero, List.nil_append]
theorem lc_hit {s : Bytes} {pos : Nat} {o : Bytes} (h : pos < s.length) (hC : LeftClean s pos o) (hc : runeOk ((decS s pos).1 : Int) = true) : LeftClean s (pos + (decS s pos).2) (o ++ List.take (decS s pos).2 (List.drop pos s)) := by
  have hc' : okR ((decS s pos).1, List.take (decS s pos).2 (List.drop pos s)) = true := hc
  unfold LeftClean at *
  rw [hC, runes_at h, List.filter_cons, if_pos hc', List.map_cons, List.flatten_cons, List.append_assoc]
theorem lc_not {s : Bytes} {pos : Nat} {o : Bytes} (h : pos < s.length) (hC : LeftClean s pos o) (hc : runeOk ((decS s pos).1 : Int) = false) : LeftClean s (pos + (decS s pos).2) o := by
  have hc' : okR ((decS s pos).1, List.take (decS s pos).2 (List.drop pos s)) = false := hc
  unfold LeftClean at *
  rw [hC, runes_at h, List.filter_cons, if_neg (by rw [hc']; decide)]
theorem lc_end {s : Bytes} {pos : Nat} {o : Bytes} (h : s.length ≤ pos) (hC : LeftClean s pos o) : cleanS s = o := by
  unfold LeftClean at hC
  rw [hC, runes_end h]; simp
theorem flat_filter : ∀ (l : List R), (((l.filter okR).map (·.2)).flatten).length ≤ ((l.map (·.2)).flatten).length
  | [] => Nat.le_refl _
  | x :: l => by
    have ih := flat_filter l
    rw [List.filter_cons]
    split
    · simp only [List.map_cons, List.flatten_cons, List.length_append]; omega
    · simp only [List.map_cons, List.flatten_cons, List.length_append]; omega
theorem lc_le {s : Bytes} {pos : Nat} {o : Bytes} (hC : LeftClean s pos o) : o.length ≤ s.length := by
  unfold LeftClean at hC
  have h1 : (cleanS s).length ≤ s.length := by
    have h2 := flat_filter (runesS s)
    rw [runes_flat] at h2
    exact h2
  rw [hC, List.length_append] at h1; omega

/-! ### loops -/
def PInv (s : Bytes) (i f : Nat) (o : List Bytes) : Prop :=
  (i ≤ s.length ∧ f ≤ i ∧ (47 : UInt8) ∉ List.drop f (List.take i s) ∧ piecesS s = o ++ piecesS (List.drop f s)) ∨ (i = s.length + 1 ∧ f = i ∧ piecesS s = o)
theorem pinv_0 (s : Bytes) : PInv s 0 0 [] := .inl ⟨Nat.zero_le _, Nat.le_refl _, by simp, by simp⟩
theorem pinv_len {s : Bytes} {i f : Nat} {o : List Bytes} (h : PInv s i f o) : o.length ≤ s.length + 1 ∧ f ≤ i ∧ i ≤ s.length + 1 := by
  have h1 := pieces_len s
  have h2 : s.count 47 ≤ s.length := List.count_le_length
  rcases h with ⟨a, b, c, d⟩ | ⟨a, b, d⟩
  · have := congrArg List.length d
    rw [List.length_append] at this; omega
  · have := congrArg List.length d; omega
theorem seg_split {s : Bytes} {i f : Nat} (hi : i < s.length) (hf : f ≤ i) : List.drop f s = List.drop f (List.take i s) ++ List.getD s i 0 :: List.drop (i + 1) s := by
  conv => lhs; rw [show s = List.take i s ++ List.drop i s from (List.take_append_drop i s).symm]
  rw [List.drop_append_of_le_length (by rw [List.length_take]; omega), AL.Lib.drop_cons 0 s i hi]
theorem pinv_hit {s : Bytes} {i f : Nat} {o : List Bytes} (h : PInv s i f o) (hi : i ≤ s.length) (hc : i = s.length ∨ (List.getD s i 0).toNat = 47) : PInv s (i + 1) (i + 1) (o ++ [List.drop f (List.take i s)]) := by
  rcases h with ⟨a, b, c, d⟩ | ⟨a, b, d⟩
  · by_cases e : i = s.length
    · right
      refine ⟨by omega, rfl, ?_⟩
      rw [d]
      have : List.drop f (List.take i s) = List.drop f s := by rw [List.take_of_length_le (by omega)]
      rw [this] at c ⊢
      rw [pieces_none c]
    · left
      have hl : i < s.length := by omega
      have h47 : List.getD s i 0 = 47 := UInt8.toNat_inj.1 (by simpa using hc.resolve_left e)
      refine ⟨by omega, Nat.le_refl _, by rw [List.drop_of_length_le (by rw [List.length_take]; omega)]; simp, ?_⟩
      rw [d, seg_split hl b, h47, pieces_app _ c, List.append_assoc]; rfl
  · omega
theorem pinv_not {s : Bytes} {i f : Nat} {o : List Bytes} (h : PInv s i f o) (hi : i ≤ s.length) (hc : ¬ (i = s.length ∨ (List.getD s i 0).toNat = 47)) : PInv s (i + 1) f o := by
  rcases h with ⟨a, b, c, d⟩ | ⟨a, b, d⟩
  · have hl : i < s.length := by omega
    refine .inl ⟨by omega, by omega, ?_, d⟩
    rw [AL.Lib.take_succ 0 s i hl, List.drop_append_of_le_length (by rw [List.length_take]; omega), List.mem_append, not_or]
    refine ⟨c, fun q => hc (.inr ?_)⟩
    rw [← List.mem_singleton.1 q]; rfl
  · omega
theorem pinv_end {s : Bytes} {i f : Nat} {o : List Bytes} (h : PInv s i f o) (hi : s.length < i) : piecesS s = o := by
  rcases h with ⟨a, b, c, d⟩ | ⟨a, b, d⟩
  · omega
  · exact d

theorem split_n (s : Bytes) : (min (((s.count 47 : Nat) : Int) + 1) ((List.length s : Int) + 1)).toNat = (piecesS s).length := by
  have h1 := pieces_len s
  have h2 : s.count 47 ≤ s.length := List.count_le_length
  omega
theorem split_more {c : Bytes} (h : 0 ≤ Go.Lib.indexByte c 47) : piecesS c = List.take (Go.Lib.indexByte c 47).toNat c :: piecesS (List.drop ((Go.Lib.indexByte c 47).toNat + 1) c) := by
  obtain ⟨h1, h2, h3⟩ := index_some h
  conv => lhs; rw [h3]
  rw [pieces_app _ h2]
theorem set_rep (o : List Bytes) (k : Nat) (x : Bytes) : List.set (o ++ List.replicate (k + 1) []) o.length x = (o ++ [x]) ++ List.replicate k [] := by
  rw [List.set_append_right _ _ (Nat.le_refl _), Nat.sub_self, List.replicate_succ, List.set_cons_zero, List.append_assoc]; rfl
theorem split_step {o : List Bytes} {c : Bytes} (h : 0 ≤ Go.Lib.indexByte c 47) (x : Bytes) :
    List.set (o ++ List.replicate (piecesS c).length []) o.length x = (o ++ [x]) ++ List.replicate (piecesS (List.drop ((Go.Lib.indexByte c 47).toNat + 1) c)).length [] := by
  rw [split_more h, List.length_cons, set_rep]
theorem split_inv {s c : Bytes} {o : List Bytes} (hP : piecesS s = o ++ piecesS c) (h : 0 ≤ Go.Lib.indexByte c 47) : piecesS s = (o ++ [List.take (Go.Lib.indexByte c 47).toNat c]) ++ piecesS (List.drop ((Go.Lib.indexByte c 47).toNat + 1) c) := by
  rw [hP, split_more h, List.append_assoc]; rfl
theorem split_last {s c : Bytes} {o : List Bytes} (hP : piecesS s = o ++ piecesS c) (h : ¬ (o.length : Int) < ((piecesS s).length : Int) - 1) : (47 : UInt8) ∉ c := by
  have := congrArg List.length hP
  rw [List.length_append] at this
  have h1 := pieces_len c
  exact pieces_one.1 (by omega)
theorem split_end {s c : Bytes} {o : List Bytes} (hP : piecesS s = o ++ piecesS c) (hc : (47 : UInt8) ∉ c) : List.take (o.length + 1) (List.set (o ++ List.replicate (piecesS c).length []) o.length c) = piecesS s := by
  rw [hP, pieces_none hc]
  show List.take (o.length + 1) (List.set (o ++ List.replicate (0 + 1) []) o.length c) = _
  rw [set_rep]
  rw [List.replicate_zero, List.append_nil, List.take_of_length_le (by simp)]
theorem split_le {s c : Bytes} {o : List Bytes} (hP : piecesS s = o ++ piecesS c) : o.length + (piecesS c).length = (piecesS s).length ∧ (piecesS s).length ≤ s.length + 1 ∧ 1 ≤ (piecesS c).length := by
  have h0 := congrArg List.length hP
  have h1 := pieces_len s
  have h2 : s.count 47 ≤ s.length := List.count_le_length
  have h3 := pieces_len c
  rw [List.length_append] at h0
  omega

def longS (l : List Bytes) : Bool := l.any fun p => decide (partS p = 5)
theorem long_step (l : List Bytes) (k : Nat) (hk : k < l.length) : (longS (List.take k l) || decide (partS (List.getD l k []) = 5)) = longS (List.take (k + 1) l) := by
  rw [AL.Lib.take_succ [] l k hk]; unfold longS; simp
theorem worst_long (l : List Bytes) : worstS l = if longS l = true then 5 else 0 := rfl
theorem graded_5 {l : List Bytes} (h : ∀ k, k < l.length → partS (List.getD l k []) ≠ 4) (hl : longS l = true) : gradedS l = 5 := by
  rw [graded_end h, worst_long, if_pos hl, if_neg (by decide)]
theorem graded_24 {l : List Bytes} (h : ∀ k, k < l.length → partS (List.getD l k []) ≠ 4) (hl : longS l = false) (h6 : 6 < l.length) : gradedS l = 24 := by
  have hw : worstS l = 0 := by rw [worst_long, hl]; rfl
  rw [graded_end h, hw, if_pos rfl, if_pos h6]
theorem graded_0 {l : List Bytes} (h : ∀ k, k < l.length → partS (List.getD l k []) ≠ 4) (hl : longS l = false) (h6 : ¬ 6 < l.length) : gradedS l = 0 := by
  have hw : worstS l = 0 := by rw [worst_long, hl]; rfl
  rw [graded_end h, hw, if_pos rfl, if_neg h6]
theorem parts_2 (s : Bytes) : (partsS s).2 = checkS s := by
  unfold partsS
  split
  · rename_i h; exact h.symm
  · rfl
theorem check_big {s : Bytes} (h : 64 < s.length) : checkS s = 5 := by unfold checkS; rw [if_pos h]
theorem check_small {s : Bytes} (h : ¬ 64 < s.length) : checkS s = gradedS (piecesS s) := by unfold checkS; rw [if_neg h]
theorem parts_ok {s : Bytes} (h : checkS s = 0) : partsS s = (piecesS s, 0) := by unfold partsS; rw [if_pos h]
theorem parts_no {s : Bytes} (h : checkS s ≠ 0) : partsS s = ([], checkS s) := by unfold partsS; rw [if_neg h]
theorem piece_le {s p : Bytes} (h : p ∈ piecesS s) : p.length ≤ s.length := by
  have hj := join_pieces s
  have : ∀ (l : List Bytes), p ∈ l → p.length ≤ (joinS l).length := by
    intro l
    induction l with
    | nil => intro h; cases h
    | cons q l ih =>
      intro h
      cases l with
      | nil => rw [List.mem_singleton.1 h]; exact Nat.le_refl _
      | cons r l =>
        show p.length ≤ (q ++ 47 :: joinS (r :: l)).length
        rw [List.length_append, List.length_cons]
        rcases List.mem_cons.1 h with rfl | h
        · omega
        · have := ih h; omega
  have h2 := this _ h
  rw [hj] at h2; exact h2

/-! ### joining -/
theorem rune_47 {s : Bytes} {pos : Nat} (h : pos < s.length) : ((decS s pos).1 = 47 → (47 : UInt8) ∈ s) ∧ ((decS s pos).1 ≠ 47 → (47 : UInt8) ∉ List.take (decS s pos).2 (List.drop pos s)) := by
  have hd := dec_ok h
  have hb : ∀ j, j < s.length → (List.getD s j 0) ∈ s := fun j hj => AL.Lib.getD_mem 0 s j hj
  have key : ∀ k, (∀ j, j < k → (List.getD s (pos + j) 0).toNat ≠ 47) → pos + k ≤ s.length → (47 : UInt8) ∉ List.take k (List.drop pos s) := by
    intro k hk hl hm
    obtain ⟨j, hj, e⟩ := List.mem_iff_getElem.1 hm
    rw [List.length_take, List.length_drop] at hj
    rw [List.getElem_take, List.getElem_drop] at e
    refine hk j (by omega) ?_
    rw [AL.Lib.getD_lt 0 s _ (by omega), e]; rfl
  rw [dec_N] at *
  rcases Go.Lib.decodeN_shape (s.length - pos) (List.getD s pos 0).toNat (List.getD s (pos + 1) 0).toNat (List.getD s (pos + 2) 0).toNat (List.getD s (pos + 3) 0).toNat with ⟨c, e⟩ | ⟨c1, c2, c3, cv, e⟩ | ⟨c1, c2, c3, c4, cv, cs, e⟩ | ⟨c1, c2, c3, c4, c5, cv, cw, e⟩ | e
  · rw [e] at hd ⊢
    refine ⟨fun q => ?_, fun q => key 1 (fun j hj => ?_) (by omega)⟩
    · have : List.getD s pos 0 = 47 := UInt8.toNat_inj.1 q
      rw [← this]; exact hb pos h
    · have : j = 0 := by omega
      subst this; exact q
  · rw [e] at hd ⊢
    refine ⟨fun q => ?_, fun q => key 2 (fun j hj => ?_) (by simp only [] at hd; omega)⟩
    · simp only [] at q; omega
    · match j, hj with
      | 0, _ => rw [Nat.add_zero]; omega
      | 1, _ => omega
  · rw [e] at hd ⊢
    refine ⟨fun q => ?_, fun q => key 3 (fun j hj => ?_) (by simp only [] at hd; omega)⟩
    · simp only [] at q; omega
    · match j, hj with
      | 0, _ => rw [Nat.add_zero]; omega
      | 1, _ => omega
      | 2, _ => omega
  · rw [e] at hd ⊢
    refine ⟨fun q => ?_, fun q => key 4 (fun j hj => ?_) (by simp only [] at hd; omega)⟩
    · simp only [] at q; omega
    · match j, hj with
      | 0, _ => rw [Nat.add_zero]; omega
      | 1, _ => omega
      | 2, _ => omega
      | 3, _ => omega
  · rw [e] at hd ⊢
    refine ⟨fun q => by simp at q, fun q => key 1 (fun j hj => ?_) (by omega)⟩
    have : j = 0 := by omega
    subst this
    rw [Nat.add_zero]
    intro e2
    have : Go.Lib.decodeN (s.length - pos) (List.getD s pos 0).toNat (List.getD s (pos + 1) 0).toNat (List.getD s (pos + 2) 0).toNat (List.getD s (pos + 3) 0).toNat = ((List.getD s pos 0).toNat, 1) := by unfold Go.Lib.decodeN; rw [if_pos (by omega)]
    rw [e, e2] at this
    cases this
def LeftNo (s : Bytes) (pos : Nat) : Prop := (47 : UInt8) ∈ s → (47 : UInt8) ∈ List.drop pos s
theorem no_0 (s : Bytes) : LeftNo s 0 := fun h => by rwa [List.drop_zero]
theorem no_step {s : Bytes} {pos : Nat} (h : pos < s.length) (hN : LeftNo s pos) (hc : ¬ ((decS s pos).1 : Int) = 47) : LeftNo s (pos + (decS s pos).2) := by
  intro hm
  have h1 := hN hm
  rw [← List.take_append_drop (decS s pos).2 (List.drop pos s), List.mem_append, List.drop_drop] at h1
  rcases h1 with h1 | h1
  · exact absurd h1 ((rune_47 h).2 (by omega))
  · exact h1
theorem no_end {s : Bytes} {pos : Nat} (h : s.length ≤ pos) (hN : LeftNo s pos) : (47 : UInt8) ∉ s := fun hm => by
  have := hN hm
  rw [List.drop_of_length_le h] at this; cases this
theorem join_hit {l : List Bytes} {k : Nat} (hk : k < l.length) (h : (47 : UInt8) ∈ List.getD l k []) : joinT l = ([], 4) := by
  unfold joinT
  rw [if_pos (List.any_eq_true.2 ⟨_, AL.Lib.getD_mem [] l k hk, decide_eq_true h⟩)]
theorem join_fin {l : List Bytes} (h : ∀ k, k < l.length → (47 : UInt8) ∉ List.getD l k []) : joinT l = if checkS (joinS l) = 0 then (joinS l, 0) else ([], checkS (joinS l)) := by
  unfold joinT
  rw [if_neg]
  rw [Bool.not_eq_true, List.any_eq_false]
  intro p hp
  obtain ⟨i, hi, rfl⟩ := List.mem_iff_getElem.1 hp
  have := h i hi
  rw [AL.Lib.getD_lt [] l i hi] at this
  simpa using this
theorem join_snoc : ∀ (l : List Bytes) (x : Bytes), l ≠ [] → joinS (l ++ [x]) = joinS l ++ 47 :: x
  | [], _, h => absurd rfl h
  | [p], x, _ => rfl
  | p :: q :: l, x, _ => by
    show p ++ 47 :: joinS ((q :: l) ++ [x]) = (p ++ 47 :: joinS (q :: l)) ++ 47 :: x
    rw [join_snoc (q :: l) x (by simp)]; simp
theorem join_step (l : List Bytes) (k : Nat) (hk : k < l.length) (h0 : 0 < k) : (joinS (List.take k l) ++ [47]) ++ List.getD l k [] = joinS (List.take (k + 1) l) := by
  rw [AL.Lib.take_succ [] l k hk, join_snoc _ _ (by intro e; have := congrArg List.length e; rw [List.length_take] at this; simp only [List.length_nil] at this; omega)]; simp
theorem join_first (l : List Bytes) (hk : 0 < l.length) : joinS (List.take 0 l) ++ List.getD l 0 [] = joinS (List.take 1 l) := by
  cases l with
  | nil => simp at hk
  | cons p l => simp [joinS]
theorem join_le (l : List Bytes) (k : Nat) : (joinS (List.take k l)).length ≤ (joinS l).length := by
  induction l generalizing k with
  | nil => simp
  | cons p l ih =>
    cases k with
    | zero => simp [joinS]
    | succ k =>
      rw [List.take_succ_cons]
      cases l with
      | nil => simp
      | cons q l =>
        cases k with
        | zero => show p.length ≤ (p ++ 47 :: joinS (q :: l)).length; rw [List.length_append]; omega
        | succ k =>
          have := ih (k + 1)
          rw [List.take_succ_cons] at this ⊢
          show (p ++ 47 :: joinS (q :: List.take k l)).length ≤ (p ++ 47 :: joinS (q :: l)).length
          simp only [List.length_append, List.length_cons]; omega
theorem whole_t {s : Bytes} {i : Nat} (h : ¬ ((decS s i).1 : Int) = 65533) : (!badR ((decS s i).1, List.take (decS s i).2 (List.drop i s))) = true := by
  unfold badR
  rw [decide_eq_false (show ¬ (decS s i).1 = 65533 by omega)]; rfl
theorem whole_f {s : Bytes} {i : Nat} (hi : i < s.length) (h : ((decS s i).1 : Int) = 65533) : (!badR ((decS s i).1, List.take (decS s i).2 (List.drop i s))) = decide ((1 : Int) < ((decS (List.drop i s) 0).2 : Int)) := by
  have hd := dec_ok hi
  rw [← dec_drop]
  unfold badR
  rw [decide_eq_true (show (decS s i).1 = 65533 by omega), Bool.true_and, List.length_take, List.length_drop, Nat.min_eq_left (by omega), Bool.eq_iff_iff]
  simp only [Bool.not_eq_true', decide_eq_false_iff_not, decide_eq_true_eq]
  omega
theorem seg_take (s : Bytes) (pos : Nat) : List.drop pos (List.take (pos + (decS s pos).2) s) = List.take (decS s pos).2 (List.drop pos s) := by
  rw [List.take_add, List.drop_append]
  by_cases h : pos ≤ s.length
  · have e : (List.take pos s).length = pos := by rw [List.length_take]; omega
    rw [e, Nat.sub_self, List.drop_zero, List.drop_of_length_le (by omega), List.nil_append]
  · rw [List.drop_of_length_le (l := s) (by omega)]; simp
def overS (l : List Bytes) : Int := if decide (l.length ≤ 40) && l.all (fun p => decide (p.length ≤ 200)) then 0 else 1
theorem over_0 {l : List Bytes} (h : l.length ≤ 40) (h2 : ∀ i, i < l.length → (List.getD l i []).length ≤ 200) : overS l = 0 := by
  unfold overS
  rw [if_pos]
  rw [Bool.and_eq_true, decide_eq_true_eq, List.all_eq_true]
  refine ⟨h, fun p hp => ?_⟩
  obtain ⟨i, hi, rfl⟩ := List.mem_iff_getElem.1 hp
  have := h2 i hi
  rw [AL.Lib.getD_lt [] l i hi] at this
  exact decide_eq_true this
theorem over_1 {l : List Bytes} (h : 40 < l.length) : overS l = 1 := by
  unfold overS
  rw [decide_eq_false (by omega), Bool.false_and]; rfl
theorem over_2 {l : List Bytes} {k : Nat} (hk : k < l.length) (h : 200 < (List.getD l k []).length) : overS l = 1 := by
  unfold overS
  rw [if_neg]
  rw [Bool.and_eq_true, List.all_eq_true, not_and]
  intro _ q
  have := q _ (AL.Lib.getD_mem [] l k hk)
  rw [decide_eq_true_eq] at this
  omega
theorem over_iff {l : List Bytes} (h : ¬ 0 < overS l) : l.length ≤ 40 ∧ ∀ p ∈ l, p.length ≤ 200 := by
  unfold overS at h
  split at h
  · rename_i q
    rw [Bool.and_eq_true, decide_eq_true_eq, List.all_eq_true] at q
    exact ⟨q.1, fun p hp => of_decide_eq_true (q.2 p hp)⟩
  · omega
theorem join_bound {l : List Bytes} {n : Nat} (h : ∀ p ∈ l, p.length ≤ n) : (joinS l).length ≤ l.length * (n + 1) := by
  induction l with
  | nil => simp [joinS]
  | cons p l ih =>
    have h1 := h p (by simp)
    have h2 := ih fun q hq => h q (List.mem_cons_of_mem _ hq)
    cases l with
    | nil => show p.length ≤ _; simp; omega
    | cons q l =>
      show (p ++ 47 :: joinS (q :: l)).length ≤ _
      rw [List.length_append, List.length_cons, List.length_cons (a := p), Nat.add_mul]
      omega
end AL.Route
