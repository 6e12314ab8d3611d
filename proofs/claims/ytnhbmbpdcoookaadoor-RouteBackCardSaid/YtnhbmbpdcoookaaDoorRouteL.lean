/- route: what holds of paths and of what is left of texts: plain Lean. No condition. -/
import Derived.Test.YtnhbmbpdcoookaaDoorRouteD
namespace AL.Route
open Go AL AL.Rune
set_option linter.unusedVariables false
set_option linter.unusedSimpArgs false

theorem over_le {l : List Bytes} (h : ¬ 0 < overS l) : ∀ p ∈ l, p.length ≤ 100000 := fun p hp => Nat.le_trans ((over_iff h).2 p hp) (by omega)
theorem over_join {l : List Bytes} (h : ¬ 0 < overS l) : (joinS l).length ≤ 100000 := by
  obtain ⟨h1, h2⟩ := over_iff h
  have h3 := join_bound h2
  have h4 : l.length * (200 + 1) ≤ 40 * 201 := Nat.mul_le_mul_right _ h1
  omega
theorem parts_le {s : Bytes} (h : s.length ≤ 200) : ∀ p ∈ (partsS s).1, p.length ≤ 100000 := by
  intro p hp
  unfold partsS at hp
  split at hp
  · have := piece_le hp; omega
  · cases hp
theorem parts_join {s : Bytes} (h : s.length ≤ 200) : (joinS (partsS s).1).length ≤ 100000 := by
  unfold partsS
  split
  · show (joinS (piecesS s)).length ≤ _; rw [join_pieces]; omega
  · simp [joinS]
theorem check_zero {s : Bytes} (h : checkS s = 0) : s.length ≤ 64 ∧ gradedS (piecesS s) = 0 := by
  unfold checkS at h
  split at h
  · omega
  · exact ⟨by omega, h⟩
theorem graded_zero {l : List Bytes} (h : gradedS l = 0) : (∀ p ∈ l, partS p = 0) ∧ l.length ≤ 6 := by
  unfold gradedS at h
  split at h
  · omega
  · rename_i h1
    split at h
    · omega
    · rename_i h2
      split at h
      · omega
      · rename_i h3
        refine ⟨fun p hp => ?_, by omega⟩
        rw [Bool.not_eq_true, List.any_eq_false] at h1 h2
        have q1 := h1 p hp
        have q2 := h2 p hp
        simp only [decide_eq_true_eq] at q1 q2
        rcases part_val p with q | q | q
        · exact q
        · exact absurd q q1
        · exact absurd q q2
theorem parts_zero {s : Bytes} (h : (partsS s).2 = 0) : partsS s = (piecesS s, 0) ∧ checkS s = 0 := by
  rw [parts_2] at h
  exact ⟨parts_ok h, h⟩
theorem parts_part {s : Bytes} (h : (partsS s).2 = 0) {i : Nat} (hi : i < (partsS s).1.length) : partS (List.getD (partsS s).1 i []) = 0 := by
  obtain ⟨h1, h2⟩ := parts_zero h
  exact (graded_zero (check_zero h2).2).1 _ (by rw [h1] at hi ⊢; exact AL.Lib.getD_mem [] _ i hi)
theorem joinT_cases (l : List Bytes) : ((joinT l).2 = 0 ∧ (joinT l).1 = joinS l ∧ (∀ p ∈ l, (47 : UInt8) ∉ p) ∧ checkS (joinS l) = 0) ∨ ((joinT l).2 ≠ 0 ∧ (joinT l).1 = []) := by
  unfold joinT
  split
  · exact .inr ⟨by decide, rfl⟩
  · rename_i h
    rw [Bool.not_eq_true, List.any_eq_false] at h
    split
    · rename_i h2
      exact .inl ⟨rfl, rfl, fun p hp => by have := h p hp; simpa using this, h2⟩
    · rename_i h2
      exact .inr ⟨h2, rfl⟩
theorem check_nil : checkS [] = 4 := by decide
theorem join_ok {l : List Bytes} (h : (joinT l).2 = 0) : (joinT l).1 = joinS l ∧ (∀ p ∈ l, (47 : UInt8) ∉ p) ∧ checkS (joinS l) = 0 ∧ l ≠ [] := by
  rcases joinT_cases l with ⟨_, h1, h2, h3⟩ | ⟨h1, _⟩
  · refine ⟨h1, h2, h3, fun e => ?_⟩
    subst e
    rw [show joinS [] = [] from rfl, check_nil] at h3
    omega
  · exact absurd h h1
theorem parts_back {s : Bytes} (h : (partsS s).2 = 0) : joinT (partsS s).1 = (s, 0) ∧ (partsS s).1.length ≠ 0 ∧ (partsS s).1.length ≤ 6 := by
  obtain ⟨h1, h2⟩ := parts_zero h
  rw [h1]
  refine ⟨?_, fun e => pieces_ne s (List.eq_nil_of_length_eq_zero e), (graded_zero (check_zero h2).2).2⟩
  show joinT (piecesS s) = _
  unfold joinT
  rw [if_neg, join_pieces, if_pos h2]
  rw [Bool.not_eq_true, List.any_eq_false]
  intro p hp
  have := pieces_mem hp
  simpa using this
theorem join_back {l : List Bytes} (h : (joinT l).2 = 0) : partsS (joinT l).1 = (l, 0) := by
  obtain ⟨h1, h2, h3, h4⟩ := join_ok h
  rw [h1, parts_ok h3, pieces_join h2 h4]
theorem join_same {a b : List Bytes} (ha : (joinT a).2 = 0) (hb : (joinT b).2 = 0) : decide ((joinT a).1 = (joinT b).1) = decide (a = b) := by
  obtain ⟨a1, a2, a3, a4⟩ := join_ok ha
  obtain ⟨b1, b2, b3, b4⟩ := join_ok hb
  rw [Bool.eq_iff_iff, decide_eq_true_eq, decide_eq_true_eq, a1, b1]
  refine ⟨fun e => ?_, fun e => by rw [e]⟩
  rw [← pieces_join a2 a4, e, pieces_join b2 b4]
theorem part_nil : partS [] = 4 := part_1 (.inl rfl)
theorem graded_four {l : List Bytes} (h : [] ∈ l) : gradedS l = 4 := by
  unfold gradedS
  rw [if_pos (List.any_eq_true.2 ⟨[], h, decide_eq_true part_nil⟩)]
theorem check_not {s : Bytes} (h : [] ∈ piecesS s) : checkS s ≠ 0 := by
  unfold checkS
  split
  · decide
  · rw [graded_four h]; decide
theorem check_tail (s : Bytes) : checkS (s ++ [47]) ≠ 0 := by
  refine check_not ?_
  have h : joinS (piecesS s ++ [[]]) = s ++ [47] := by rw [join_snoc _ _ (pieces_ne s), join_pieces]
  rw [← h, pieces_join (fun p hp => ?_) (by simp)]
  · simp
  · rcases List.mem_append.1 hp with hp | hp
    · exact pieces_mem hp
    · rw [List.mem_singleton.1 hp]; simp
theorem check_head (s : Bytes) : checkS ([47] ++ s) ≠ 0 := by
  refine check_not ?_
  show [] ∈ piecesS (47 :: s)
  unfold piecesS
  rw [if_pos rfl]; simp

/-! ### what is left is left again -/
theorem getD_app_lt (a b : Bytes) (i : Nat) (h : i < a.length) : List.getD (a ++ b) i 0 = List.getD a i 0 := by
  rw [List.getD_eq_getElem?_getD, List.getD_eq_getElem?_getD, List.getElem?_append_left h]
theorem getD_take (a : Bytes) (k i : Nat) (h : i < k) : List.getD (List.take k a) i 0 = List.getD a i 0 := by
  rw [List.getD_eq_getElem?_getD, List.getD_eq_getElem?_getD, List.getElem?_take, if_pos h]
/-- A rune that stands in its shortest form is taken whatever stands behind it. -/
theorem dec_again {s : Bytes} (hs : s ≠ []) (hb : ¬ ((decS s 0).1 = 65533 ∧ (decS s 0).2 = 1)) (t : Bytes) : decS (List.take (decS s 0).2 s ++ t) 0 = decS s 0 := by
  have hd := dec_ok (s := s) (pos := 0) (List.length_pos_iff.2 hs)
  generalize hk : decS s 0 = q at *
  obtain ⟨c, k⟩ := q
  simp only at *
  have hl : (List.take k s).length = k := by rw [List.length_take]; omega
  have g : ∀ i, i < k → List.getD (List.take k s ++ t) i 0 = List.getD s i 0 := fun i hi => by
    rw [getD_app_lt _ _ _ (by omega), getD_take _ _ _ hi]
  rw [dec_N] at hk ⊢
  simp only [Nat.sub_zero, Nat.zero_add] at hk ⊢
  have hL : (List.take k s ++ t).length = k + t.length := by rw [List.length_append, hl]
  rw [hL]
  rcases Go.Lib.decodeN_shape s.length (List.getD s 0 0).toNat (List.getD s 1 0).toNat (List.getD s 2 0).toNat (List.getD s 3 0).toNat with ⟨c1, e⟩ | ⟨c1, c2, c3, cv, e⟩ | ⟨c1, c2, c3, c4, cv, cs, e⟩ | ⟨c1, c2, c3, c4, c5, cv, cw, e⟩ | e
  · rw [e] at hk
    obtain ⟨rfl, rfl⟩ := Prod.mk.inj hk
    rw [g 0 (by omega)]
    unfold Go.Lib.decodeN
    rw [if_pos c1]
  · rw [e] at hk
    obtain ⟨rfl, rfl⟩ := Prod.mk.inj hk
    rw [g 0 (by omega), g 1 (by omega)]
    unfold Go.Lib.decodeN
    rw [if_neg (by omega), if_pos (by omega), if_pos (by omega)]
  · rw [e] at hk
    obtain ⟨rfl, rfl⟩ := Prod.mk.inj hk
    rw [g 0 (by omega), g 1 (by omega), g 2 (by omega)]
    unfold Go.Lib.decodeN
    rw [if_neg (by omega), if_neg (by omega), if_pos (by omega), if_pos (by omega)]
  · rw [e] at hk
    obtain ⟨rfl, rfl⟩ := Prod.mk.inj hk
    rw [g 0 (by omega), g 1 (by omega), g 2 (by omega), g 3 (by omega)]
    unfold Go.Lib.decodeN
    rw [if_neg (by omega), if_neg (by omega), if_neg (by omega), if_pos (by omega), if_pos (by omega)]
  · rw [e] at hk
    exact absurd ⟨(Prod.mk.inj hk).1.symm, (Prod.mk.inj hk).2.symm⟩ hb
theorem runes_clean (s : Bytes) : runesS (cleanS s) = (runesS s).filter okR := by
  refine runes_ind (p := fun s => runesS (((runesS s).filter okR).map (·.2)).flatten = (runesS s).filter okR) rfl (fun s hs ih => ?_) s
  have hd := dec_ok (s := s) (pos := 0) (List.length_pos_iff.2 hs)
  rw [runes_cons hs, List.filter_cons]
  split
  · rename_i h
    have h' : runeOk ((decS s 0).1 : Int) = true := h
    have hr := rune_iff.1 h'
    have hb : ¬ ((decS s 0).1 = 65533 ∧ (decS s 0).2 = 1) := by omega
    rw [List.map_cons, List.flatten_cons]
    generalize ht : (((runesS (List.drop (decS s 0).2 s)).filter okR).map (·.2)).flatten = t at ih ⊢
    have hda := dec_again hs hb t
    have hlt : (List.take (decS s 0).2 s).length = (decS s 0).2 := by rw [List.length_take]; omega
    have hne : List.take (decS s 0).2 s ++ t ≠ [] := by intro e; have := congrArg List.length e; rw [List.length_append, hlt] at this; simp at this; omega
    show runesS (List.take (decS s 0).2 s ++ t) = _
    rw [runes_cons hne, hda, List.take_append_of_le_length (by omega), List.take_of_length_le (by omega), List.drop_append_of_le_length (by omega), List.drop_of_length_le (by omega), List.nil_append, ih]
  · exact ih
theorem clean_all (s : Bytes) : (runesS (cleanS s)).all okR = true := by
  rw [runes_clean, List.all_eq_true]
  exact fun x hx => (List.mem_filter.1 hx).2
theorem clean_count (s : Bytes) : (countS (cleanS s)).2 = 0 := by
  unfold countS
  show (if _ then (4 : Int) else 0) = 0
  rw [if_neg]
  rw [Bool.not_eq_true, List.any_eq_false]
  intro x hx
  have h := List.all_eq_true.1 (clean_all s) x hx
  have hr := rune_iff.1 (show runeOk (x.1 : Int) = true from h)
  unfold badR
  rw [decide_eq_false (show ¬ x.1 = 65533 by omega), Bool.false_and]; decide
theorem clean_clean (s : Bytes) : cleanS (cleanS s) = cleanS s := by
  have h : (runesS (cleanS s)).filter okR = runesS (cleanS s) := List.filter_eq_self.2 fun x hx => List.all_eq_true.1 (clean_all s) x hx
  have h2 : cleanS (cleanS s) = (((runesS (cleanS s)).filter okR).map (·.2)).flatten := rfl
  rw [h2, h, runes_flat]
theorem runes_zero {s : Bytes} : (runesS s).length = 0 ↔ s = [] := by
  constructor
  · intro h
    have := runes_flat s
    rw [List.eq_nil_of_length_eq_zero h] at this
    exact this.symm
  · rintro rfl; rfl
theorem clean_part (s : Bytes) : decide (partS (cleanS s) = 0) = ((((decide (0 < (countS (cleanS s)).1) && decide ((countS (cleanS s)).1 ≤ 12)) && !decide (cleanS s = [46])) && !decide (cleanS s = [46, 46])) && !decide (cleanS s = [45])) := by
  have hA := clean_all s
  generalize cleanS s = c at hA ⊢
  have h0 := runes_zero (s := c)
  have hn : (countS c).1 = ((runesS c).length : Int) := rfl
  rw [hn, Bool.eq_iff_iff]
  simp only [Bool.and_eq_true, decide_eq_true_eq, Bool.not_eq_true', decide_eq_false_iff_not]
  by_cases h1 : c = [] ∨ c = [46] ∨ c = [46, 46] ∨ c = [45]
  · rw [part_1 h1]
    constructor
    · intro h; omega
    · rintro ⟨⟨⟨⟨q1, q2⟩, q3⟩, q4⟩, q5⟩
      rcases h1 with e | e | e | e
      · have := h0.2 e; omega
      · exact absurd e q3
      · exact absurd e q4
      · exact absurd e q5
  · by_cases h2 : 12 < (runesS c).length
    · rw [part_3 h1 hA h2]
      constructor
      · intro h; omega
      · rintro ⟨⟨⟨⟨q1, q2⟩, _⟩, _⟩, _⟩; omega
    · rw [part_4 h1 hA h2]
      simp only [not_or] at h1
      have : (runesS c).length ≠ 0 := fun e => h1.1 (h0.1 e)
      exact ⟨fun _ => ⟨⟨⟨⟨by omega, by omega⟩, h1.2.1⟩, h1.2.2.1⟩, h1.2.2.2⟩, fun _ => rfl⟩
theorem clean_le (s : Bytes) : (cleanS s).length ≤ s.length := by
  have h2 := flat_filter (runesS s)
  rw [runes_flat] at h2
  exact h2
end AL.Route
