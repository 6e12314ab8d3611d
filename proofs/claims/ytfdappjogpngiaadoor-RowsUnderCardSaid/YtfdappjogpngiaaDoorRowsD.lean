/- rows: what its functions compute, in plain Lean. No condition. -/
import Derived.Test.YtfdappjogpngiaaDoorRouteD
import Derived.Test.YtfdappjogpngiaaDoorSecretD
import Derived.Test.YtfdappjogpngiaaDoorUnderD
namespace AL.Rows
open Go AL
open AL.Secret (Sec RowV loose rowR)
open AL.Under (hasP trimP)
set_option linter.unusedVariables false
set_option linter.unusedSimpArgs false

/-! ### bytes -/
def b8 (n : Int) : UInt8 := UInt8.ofNat n.toNat
theorem b8_nat {n : Int} (h : 0 ≤ n) (h2 : n < 256) : ((b8 n).toNat : Int) = n := by
  unfold b8
  rw [UInt8.toNat_ofNat']
  omega
theorem b8_byte (b : UInt8) : b8 (b.toNat : Int) = b := by
  unfold b8
  rw [Int.toNat_natCast]
  exact UInt8.ofNat_toNat
theorem wrap8 {n : Int} (h : 0 ≤ n) (h2 : n < 256) : IntKind.wrap .u8 n = ((b8 n).toNat : Int) := by
  rw [b8_nat h h2]
  simp [IntKind.wrap, IntKind.signed, IntKind.bits]
  omega
def bitS (b : Bool) : UInt8 := if b then 1 else 0
def flagB (x : RowV) : UInt8 := (if x.2.1 then 1 else 0) + (if x.2.2 then 2 else 0)
theorem flag_or (x : RowV) : IntKind.wrap .u8 ((BitVec.ofInt 8 ((bitS x.2.1).toNat : Int) ||| BitVec.ofInt 8 (IntKind.wrap .u8 (((bitS x.2.2).toNat : Int) * 2 ^ (min (1 : Int).toNat (IntKind.bits .u8))))).toNat) = ((flagB x).toNat : Int) := by
  unfold flagB bitS
  cases x.2.1 <;> cases x.2.2 <;> decide
theorem two_u8 {x y : UInt8} {A B : Int} (hA : A = (x.toNat : Int)) (hB : B = (y.toNat : Int)) : flat 1 rowU8 [x, y] = [AC.s (u8 A), AC.s (u8 B)] := by subst hA; subst hB; rfl
theorem four_u8 {x y z v : UInt8} {A B C D : Int} (hA : A = (x.toNat : Int)) (hB : B = (y.toNat : Int)) (hC : C = (z.toNat : Int)) (hD : D = (v.toNat : Int)) : flat 1 rowU8 [x, y, z, v] = [AC.s (u8 A), AC.s (u8 B), AC.s (u8 C), AC.s (u8 D)] := by
  subst hA; subst hB; subst hC; subst hD; rfl

/-! ### names -/
def nameB (b : UInt8) : Bool := (decide (97 ≤ b.toNat) && decide (b.toNat ≤ 122)) || (decide (48 ≤ b.toNat) && decide (b.toNat ≤ 57))
theorem nameB_iff {b : UInt8} : nameB b = true ↔ (97 ≤ b.toNat ∧ b.toNat ≤ 122) ∨ (48 ≤ b.toNat ∧ b.toNat ≤ 57) := by
  unfold nameB
  simp only [Bool.or_eq_true, Bool.and_eq_true, decide_eq_true_eq]
def namedS (s : Bytes) : Bool := decide (1 ≤ s.length) && (decide (s.length ≤ 8) && s.all nameB)
theorem named_size {s : Bytes} (h : s = [] ∨ 8 < s.length) : namedS s = false := by
  unfold namedS
  rcases h with h | h
  · subst h; rfl
  · rw [decide_eq_false (p := s.length ≤ 8) (by omega)]; simp
/-- What is left of a name from a place on. -/
def LeftNm (s : Bytes) (pos : Nat) : Prop := s.all nameB = (List.drop pos s).all nameB
theorem nm_0 (s : Bytes) : LeftNm s 0 := by unfold LeftNm; rw [List.drop_zero]
theorem nm_byte {s : Bytes} {pos : Nat} (h : pos < s.length) (hN : LeftNm s pos) (hb : nameB (List.getD s pos 0) = true) : LeftNm s (pos + 1) := by
  unfold LeftNm at *
  rw [hN, Lib.drop_cons 0 s pos h, List.all_cons, hb, Bool.true_and]
theorem nm_not {s : Bytes} {pos : Nat} (h : pos < s.length) (hb : nameB (List.getD s pos 0) = false) : namedS s = false := by
  unfold namedS
  have : s.all nameB = false := by
    rw [List.all_eq_false]
    exact ⟨_, Lib.getD_mem 0 s pos h, by rw [hb]; decide⟩
  rw [this]; simp
theorem nm_end {s : Bytes} {pos : Nat} (h : s.length ≤ pos) (hN : LeftNm s pos) (h1 : ¬ s = []) (h2 : ¬ 8 < s.length) : namedS s = true := by
  unfold LeftNm at hN
  rw [List.drop_of_length_le h] at hN
  unfold namedS
  have hl := List.length_pos_iff.2 h1
  rw [hN, decide_eq_true (by omega), decide_eq_true (by omega)]
  rfl
theorem dec_low {s : Bytes} {pos : Nat} (h : pos < s.length) (hb : (List.getD s pos 0).toNat < 128) : decS s pos = ((List.getD s pos 0).toNat, 1) := by
  rw [Rune.dec_N]
  unfold Go.Lib.decodeN
  rw [if_pos hb]
theorem dec_high {s : Bytes} {pos : Nat} (h : pos < s.length) (hb : ¬ (List.getD s pos 0).toNat < 128) : 128 ≤ (decS s pos).1 := by
  rw [Rune.dec_N]
  have q0 := Rune.byte_lt s pos
  unfold Go.Lib.decodeN
  rw [if_neg hb]
  repeat' split
  all_goals (simp only []; omega)
theorem nm_step {s : Bytes} {pos : Nat} (h : pos < s.length) (hN : LeftNm s pos) (hc : ¬ ((((decS s pos).1 : Int) < 97 ∨ 122 < ((decS s pos).1 : Int)) ∧ (((decS s pos).1 : Int) < 48 ∨ 57 < ((decS s pos).1 : Int)))) : LeftNm s (pos + (decS s pos).2) := by
  by_cases hb : (List.getD s pos 0).toNat < 128
  · rw [dec_low h hb] at hc ⊢
    refine nm_byte h hN (nameB_iff.2 ?_)
    simp only [] at hc
    omega
  · have := dec_high h hb
    omega
theorem nm_bad {s : Bytes} {pos : Nat} (h : pos < s.length) (hc : (((decS s pos).1 : Int) < 97 ∨ 122 < ((decS s pos).1 : Int)) ∧ (((decS s pos).1 : Int) < 48 ∨ 57 < ((decS s pos).1 : Int))) : namedS s = false := by
  refine nm_not h ?_
  rw [Bool.eq_false_iff]
  intro hb
  have hb := nameB_iff.1 hb
  rw [dec_low h (by omega)] at hc
  simp only [] at hc
  omega

/-! ### keys -/
abbrev KeyV := Int × Bytes × Int
def rowK (k : KeyV) (i : Nat) : SC := match i with | 0 => u8 k.1 | 1 => st k.2.1 | _ => i6 k.2.2
abbrev slK (l : List KeyV) : SC := .sl 3 KeyV (0, [], 0) rowK l
def MayK (k : KeyV) : Prop :=
  (k.1 = 1 ∧ Route.checkS k.2.1 = 0 ∧ k.2.2 = 0) ∨ (k.1 = 2 ∧ Route.checkS k.2.1 = 0 ∧ 1 ≤ k.2.2 ∧ k.2.2 ≤ 30) ∨ (k.1 = 3 ∧ namedS k.2.1 = true ∧ k.2.2 = 0) ∨ ((k.1 = 4 ∨ k.1 = 5) ∧ k.2.1 = [] ∧ k.2.2 = 0)
instance (k : KeyV) : Decidable (MayK k) := inferInstanceAs (Decidable (_ ∨ _))
def checkK (k : KeyV) : Int := if k.1 < 1 ∨ 5 < k.1 then 22 else if MayK k then 0 else 2
theorem check_kind {k : KeyV} (h : k.1 < 1 ∨ 5 < k.1) : checkK k = 22 := if_pos h
theorem check_ok {k : KeyV} (h : MayK k) : checkK k = 0 := by
  unfold checkK
  rw [if_neg (by unfold MayK at h; omega), if_pos h]
theorem check_no {k : KeyV} (h : ¬ (k.1 < 1 ∨ 5 < k.1)) (h2 : ¬ MayK k) : checkK k = 2 := by
  unfold checkK
  rw [if_neg h, if_neg h2]
theorem check_may {k : KeyV} : checkK k = 0 ↔ MayK k := by
  refine ⟨fun h => ?_, check_ok⟩
  unfold checkK at h
  split at h
  · omega
  · split at h
    · assumption
    · omega
def wholeM : Bytes := [115, 47, 109, 111, 117, 110, 116, 115]
def wholeR : Bytes := [115, 47, 114, 105, 110, 103]
def textOf (k : KeyV) : Bytes :=
  if k.1 = 1 then [109, 47] ++ k.2.1 else if k.1 = 2 then ([100, 47] ++ k.2.1) ++ [0, b8 k.2.2] else if k.1 = 3 then [116, 47] ++ k.2.1 else if k.1 = 4 then wholeM else wholeR
def textS (k : KeyV) : Bytes × Int := if checkK k = 0 then (textOf k, 0) else ([], checkK k)
theorem text_no {k : KeyV} (h : ¬ checkK k = 0) : textS k = ([], checkK k) := if_neg h
theorem text_ok {k : KeyV} (h : checkK k = 0) : textS k = (textOf k, 0) := if_pos h
theorem text_len (k : KeyV) : (textS k).1.length ≤ k.2.1.length + 8 := by
  unfold textS
  split
  · unfold textOf wholeM wholeR
    repeat' split
    all_goals (simp only [List.length_append, List.length_cons, List.length_nil]; omega)
  · simp
def guessS (s : Bytes) : KeyV :=
  if s = wholeM then (4, [], 0) else if s = wholeR then (5, [], 0) else if hasP s [109, 47] = true then (1, trimP s [109, 47], 0) else if hasP s [116, 47] = true then (3, trimP s [116, 47], 0) else
  if hasP s [100, 47] = true ∧ 2 < (trimP s [100, 47]).length ∧ (List.getD (trimP s [100, 47]) ((trimP s [100, 47]).length - 2) 0).toNat = 0 then
    (2, List.take ((trimP s [100, 47]).length - 2) (trimP s [100, 47]), ((List.getD (trimP s [100, 47]) ((trimP s [100, 47]).length - 1) 0).toNat : Int)) else (0, [], 0)
def parseS (s : Bytes) : KeyV × Int := if checkK (guessS s) = 0 then (guessS s, 0) else ((0, [], 0), 4)
theorem has2 (a b : UInt8) (s : Bytes) : hasP s [a, b] = true ↔ ∃ r, s = a :: b :: r := by
  rw [Under.hasP_iff]
  constructor
  · rintro ⟨r, rfl⟩; exact ⟨r, rfl⟩
  · rintro ⟨r, rfl⟩; exact ⟨r, rfl⟩
theorem has2_yes (a b : UInt8) (r : Bytes) : hasP (a :: b :: r) [a, b] = true := (has2 _ _ _).2 ⟨r, rfl⟩
theorem has2_no {a b c : UInt8} (d : UInt8) (r : Bytes) (h : a ≠ c) : hasP (a :: d :: r) [c, b] = false := by
  rw [Bool.eq_false_iff]
  intro hh
  obtain ⟨q, hq⟩ := (has2 _ _ _).1 hh
  injection hq with h1 _
  exact h h1
theorem trim2 (a b : UInt8) (r : Bytes) : trimP (a :: b :: r) [a, b] = r := by
  unfold trimP
  rw [if_pos (has2_yes a b r)]
  rfl
theorem check_nil : Route.checkS [] = 4 := by decide +kernel
theorem guess_m (r : Bytes) : guessS (109 :: 47 :: r) = (1, r, 0) := by
  unfold guessS
  rw [if_neg (by intro e; injection e with e _; exact absurd e (by decide)), if_neg (by intro e; injection e with e _; exact absurd e (by decide)), if_pos (has2_yes _ _ _), trim2]
theorem guess_t (r : Bytes) : guessS (116 :: 47 :: r) = (3, r, 0) := by
  unfold guessS
  rw [if_neg (by intro e; injection e with e _; exact absurd e (by decide)), if_neg (by intro e; injection e with e _; exact absurd e (by decide)), if_neg (by rw [has2_no _ _ (by decide)]; decide), if_pos (has2_yes _ _ _), trim2]
theorem guess_d (r : Bytes) : guessS (100 :: 47 :: r) = if 2 < r.length ∧ (List.getD r (r.length - 2) 0).toNat = 0 then (2, List.take (r.length - 2) r, ((List.getD r (r.length - 1) 0).toNat : Int)) else (0, [], 0) := by
  unfold guessS
  rw [if_neg (by intro e; injection e with e _; exact absurd e (by decide)), if_neg (by intro e; injection e with e _; exact absurd e (by decide)), if_neg (by rw [has2_no _ _ (by decide)]; decide), if_neg (by rw [has2_no _ _ (by decide)]; decide), trim2]
  have := has2_yes 100 47 r
  simp only [this, true_and]
theorem may_name {k : KeyV} (h : MayK k) (h2 : k.1 = 2) : 0 < k.2.1.length ∧ 1 ≤ k.2.2 ∧ k.2.2 ≤ 30 := by
  unfold MayK at h
  rcases h with h | h | h | h
  · omega
  · refine ⟨?_, h.2.2⟩
    rcases Nat.eq_zero_or_pos k.2.1.length with e | e
    · have e2 := List.eq_nil_of_length_eq_zero e
      have h3 := h.2.1
      rw [e2, check_nil] at h3
      omega
    · exact e
  · omega
  · omega
/-- A key that may be is told by its text. -/
theorem guess_text {k : KeyV} (h : MayK k) : guessS (textOf k) = k := by
  obtain ⟨c, n, v⟩ := k
  have h' := h
  unfold MayK at h
  unfold textOf
  simp only at *
  rcases h with ⟨h1, h2, h3⟩ | ⟨h1, h2, h3, h4⟩ | ⟨h1, h2, h3⟩ | ⟨h1, h2, h3⟩
  · subst h1; subst h3; exact guess_m n
  · subst h1
    have hn := (may_name h' rfl).1
    simp only at hn
    rw [if_neg (by decide), if_pos rfl]
    show guessS (100 :: 47 :: (n ++ [0, b8 v])) = _
    have l1 : (n ++ [0, b8 v]).length = n.length + 2 := by simp
    have l2 : List.getD (n ++ [0, b8 v]) n.length 0 = 0 := by simp [List.getD_eq_getElem?_getD]
    have l3 : List.getD (n ++ [0, b8 v]) (n.length + 1) 0 = b8 v := by simp [List.getD_eq_getElem?_getD, List.getElem?_append_right]
    rw [guess_d, l1, Nat.add_sub_cancel, show n.length + 2 - 1 = n.length + 1 from rfl, l2, l3, if_pos ⟨by omega, rfl⟩, b8_nat (by omega) (by omega), List.take_left]
  · subst h1; subst h3; exact guess_t n
  · subst h2; subst h3
    rcases h1 with h1 | h1
    · subst h1; rfl
    · subst h1; rfl
theorem byte_0 {b : UInt8} (h : b.toNat = 0) : b = 0 := by apply UInt8.toNat_inj.1; exact h
/-- The keys that a text may be of. -/
def triesS (s : Bytes) : List KeyV := [(1, List.drop 2 s, 0), (3, List.drop 2 s, 0), (4, [], 0), (5, [], 0)] ++ if 4 ≤ s.length then [(2, List.drop 2 (List.take (s.length - 2) s), ((List.getD s (s.length - 1) 0).toNat : Int))] else []
theorem guess_ok {s : Bytes} (h : checkK (guessS s) = 0) : textOf (guessS s) = s ∧ guessS s ∈ triesS s := by
  have key : s = wholeM ∨ s = wholeR ∨ (∃ r, s = 109 :: 47 :: r) ∨ (∃ r, s = 116 :: 47 :: r) ∨ (∃ r, s = 100 :: 47 :: r ∧ 2 < r.length ∧ (List.getD r (r.length - 2) 0).toNat = 0) := by
    apply Classical.byContradiction
    intro hn
    simp only [not_or] at hn
    obtain ⟨h1, h2, h3, h4, h5⟩ := hn
    unfold guessS at h
    rw [if_neg h1, if_neg h2, if_neg (fun e => h3 ((has2 _ _ _).1 e)), if_neg (fun e => h4 ((has2 _ _ _).1 e)), if_neg] at h
    · exact absurd h (by decide)
    · rintro ⟨e, e2, e3⟩
      obtain ⟨r, rfl⟩ := (has2 _ _ _).1 e
      rw [trim2] at e2 e3
      exact h5 ⟨r, rfl, e2, e3⟩
  rcases key with rfl | rfl | ⟨r, rfl⟩ | ⟨r, rfl⟩ | ⟨r, rfl, h2, h3⟩
  · exact ⟨rfl, by decide⟩
  · exact ⟨rfl, by decide⟩
  · rw [guess_m]; exact ⟨rfl, List.mem_cons_self ..⟩
  · rw [guess_t]; exact ⟨rfl, List.mem_cons_of_mem _ (List.mem_cons_self ..)⟩
  · have hk : guessS (100 :: 47 :: r) = (2, List.take (r.length - 2) r, ((List.getD r (r.length - 1) 0).toNat : Int)) := by rw [guess_d, if_pos ⟨h2, h3⟩]
    rw [hk]
    constructor
    · unfold textOf
      simp only [if_neg (show ¬ (2 : Int) = 1 by decide), if_true]
      have e1 := Lib.take_cons 0 r (r.length - 2) (by omega)
      have e2 := Lib.drop_cons 0 r (r.length - 1) (by omega)
      rw [byte_0 h3] at e1
      rw [show r.length - 2 + 1 = r.length - 1 by omega, e2, List.drop_of_length_le (by omega)] at e1
      rw [b8_byte]
      show 100 :: 47 :: (List.take (r.length - 2) r ++ [0, List.getD r (r.length - 1) 0]) = _
      rw [← e1]
    · unfold triesS
      rw [if_pos (by simp only [List.length_cons]; omega)]
      refine List.mem_append_right _ ?_
      rw [List.mem_singleton]
      have e3 : (100 :: 47 :: r : Bytes).length - 2 = r.length := rfl
      have e4 : (100 :: 47 :: r : Bytes).length - 1 = (r.length - 1) + 2 := by simp only [List.length_cons]; omega
      rw [e3, e4]
      have e5 : List.getD (100 :: 47 :: r : Bytes) (r.length - 1 + 2) 0 = List.getD r (r.length - 1) 0 := rfl
      rw [e5]
      have e6 : List.take r.length (100 :: 47 :: r : Bytes) = 100 :: 47 :: List.take (r.length - 2) r := by
        obtain ⟨m, hm⟩ : ∃ m, r.length = m + 2 := ⟨r.length - 2, by omega⟩
        rw [hm]; rfl
      rw [e6]; rfl
theorem parse_text {k : KeyV} (h : checkK k = 0) : parseS (textOf k) = (k, 0) := by
  unfold parseS
  rw [guess_text (check_may.1 h), if_pos h]
theorem text_eq {k : KeyV} {s : Bytes} (h1 : (textS k).2 = 0) (h2 : (textS k).1 = s) : parseS s = (k, 0) := by
  by_cases hc : checkK k = 0
  · rw [text_ok hc] at h2
    rw [← h2]; exact parse_text hc
  · rw [text_no hc] at h1
    exact absurd h1 hc
theorem parse_none {s : Bytes} (h : ∀ k ∈ triesS s, ¬ ((textS k).2 = 0 ∧ (textS k).1 = s)) : parseS s = ((0, [], 0), 4) := by
  unfold parseS
  refine if_neg fun hc => ?_
  obtain ⟨h1, h2⟩ := guess_ok hc
  exact h _ h2 ⟨by rw [text_ok hc], by rw [text_ok hc]; exact h1⟩
theorem parse_short {s : Bytes} (h : s.length < 2) : parseS s = ((0, [], 0), 4) := by
  unfold parseS
  refine if_neg fun hc => ?_
  obtain ⟨h1, h2⟩ := guess_ok hc
  have hm := check_may.1 hc
  have : 2 ≤ (textOf (guessS s)).length := by
    unfold textOf wholeM wholeR
    repeat' split
    all_goals (simp only [List.length_append, List.length_cons, List.length_nil]; omega)
  rw [h1] at this
  omega
theorem text_inj {a b : KeyV} (ha : checkK a = 0) (hb : checkK b = 0) : textOf a = textOf b ↔ a = b :=
  ⟨fun h => by rw [← guess_text (check_may.1 ha), h, guess_text (check_may.1 hb)], fun h => by rw [h]⟩

/-! ### what is known of a secret -/
def packR (l : List RowV) : Bytes := l.flatMap fun x => [b8 x.1, flagB x]
def headB (s : Sec) : Bytes := [b8 s.1, bitS s.2.1, b8 s.2.2.1, b8 (s.2.2.2.length : Int)]
def packB (s : Sec) : Bytes := headB s ++ packR s.2.2.2
def packS (s : Sec) : Bytes × Int := if Secret.checkS s loose = 0 then (packB s, 0) else ([], 2)
theorem pack_no {s : Sec} (h : ¬ Secret.checkS s loose = 0) : packS s = ([], 2) := if_neg h
theorem pack_ok {s : Sec} (h : Secret.checkS s loose = 0) : packS s = (packB s, 0) := if_pos h
theorem packR_len (l : List RowV) : (packR l).length = 2 * l.length := by
  induction l with
  | nil => rfl
  | cons x l ih => unfold packR at *; rw [List.flatMap_cons, List.length_append, ih]; simp only [List.length_cons, List.length_nil]; omega
theorem packR_step (l : List RowV) (k : Nat) (hk : k < l.length) : packR (List.take k l) ++ [b8 (List.getD l k (0, false, false)).1, flagB (List.getD l k (0, false, false))] = packR (List.take (k + 1) l) := by
  rw [Lib.take_succ (0, false, false) l k hk]
  unfold packR
  rw [List.flatMap_append, List.flatMap_cons, List.flatMap_nil, List.append_nil]
theorem pack_len (s : Sec) : (packB s).length = 4 + 2 * s.2.2.2.length := by
  unfold packB headB
  rw [List.length_append, packR_len]; rfl
theorem check_rows {s : Sec} (h : Secret.checkS s loose = 0) : 0 ≤ s.1 ∧ s.1 ≤ 6 ∧ 0 ≤ s.2.2.1 ∧ s.2.2.1 ≤ 30 ∧ s.2.2.2.length ≤ 6 ∧ ∀ x ∈ s.2.2.2, 1 ≤ x.1 ∧ x.1 ≤ 30 := by
  obtain ⟨h1, h2, h3, h4⟩ := Secret.check_may.1 h
  have hk := Secret.keep_ok h1
  unfold Secret.RangeS at h1
  refine ⟨by omega, by omega, by omega, by omega, by omega, fun x hx => ?_⟩
  have := Secret.rise_mem h3 x hx
  have := Secret.rise_new h3 x hx
  omega
theorem getD_packR : ∀ (l : List RowV) (i : Nat), i < l.length → List.getD (packR l) (2 * i) 0 = b8 (List.getD l i (0, false, false)).1 ∧ List.getD (packR l) (2 * i + 1) 0 = flagB (List.getD l i (0, false, false))
  | [], i, h => by simp at h
  | x :: l, 0, h => ⟨rfl, rfl⟩
  | x :: l, i + 1, h => by
    have ih := getD_packR l i (by simp only [List.length_cons] at h; omega)
    have e : packR (x :: l) = b8 x.1 :: flagB x :: packR l := rfl
    rw [e, show 2 * (i + 1) = 2 * i + 1 + 1 by omega]
    exact ih
theorem getD_pack {s : Sec} {i : Nat} (h : i < s.2.2.2.length) : List.getD (packB s) (4 + 2 * i) 0 = b8 (List.getD s.2.2.2 i (0, false, false)).1 ∧ List.getD (packB s) (5 + 2 * i) 0 = flagB (List.getD s.2.2.2 i (0, false, false)) := by
  have e : ∀ j, List.getD (packB s) (4 + j) 0 = List.getD (packR s.2.2.2) j 0 := fun j => by
    unfold packB headB
    rw [show 4 + j = j + 1 + 1 + 1 + 1 by omega]; rfl
  rw [e, show 5 + 2 * i = 4 + (2 * i + 1) by omega, e]
  exact getD_packR _ _ h
def cntS (s : Bytes) : Nat := (List.getD s 3 0).toNat
def flS (s : Bytes) (i : Nat) : Nat := (List.getD s (5 + 2 * i) 0).toNat
def rowAt (s : Bytes) (i : Nat) : RowV := (((List.getD s (4 + 2 * i) 0).toNat : Int), decide ((flS s i : Int) % 2 = 1), decide ((flS s i : Int) / 2 = 1))
def rowPt (s : Bytes) (i : Nat) : RowV := (((List.getD s (4 + 2 * i) 0).toNat : Int), decide ((flS s i : Int) % 2 = 1), decide ((flS s i : Int) / 2 % 2 = 1))
def rowsA (s : Bytes) (j : Nat) : List RowV := (List.range j).map (rowAt s)
def rowsP (s : Bytes) (j : Nat) : List RowV := (List.range j).map (rowPt s)
theorem rowsA_step (s : Bytes) (j : Nat) : rowsA s j ++ [rowAt s j] = rowsA s (j + 1) := by unfold rowsA; rw [List.range_succ, List.map_append]; rfl
theorem rowsP_step (s : Bytes) (j : Nat) : rowsP s j ++ [rowPt s j] = rowsP s (j + 1) := by unfold rowsP; rw [List.range_succ, List.map_append]; rfl
theorem rowsA_len (s : Bytes) (j : Nat) : (rowsA s j).length = j := by unfold rowsA; rw [List.length_map, List.length_range]
theorem rowsP_len (s : Bytes) (j : Nat) : (rowsP s j).length = j := by unfold rowsP; rw [List.length_map, List.length_range]
def secA (s : Bytes) : Sec := (((List.getD s 0 0).toNat : Int), decide (((List.getD s 1 0).toNat : Int) = 1), ((List.getD s 2 0).toNat : Int), rowsA s (cntS s))
def secP (s : Bytes) : Sec := (((List.getD s 0 0).toNat : Int), decide (((List.getD s 1 0).toNat : Int) = 1), ((List.getD s 2 0).toNat : Int), rowsP s (cntS s))
def oddS (s : Bytes) (j : Nat) : Bool := decide ((1 : Int) < (List.getD s 1 0).toNat) || (List.range j).any fun i => decide ((3 : Int) < flS s i)
theorem odd_step (s : Bytes) (j : Nat) : (oddS s j || decide ((3 : Int) < flS s j)) = oddS s (j + 1) := by
  unfold oddS
  rw [List.range_succ, List.any_append, List.any_cons, List.any_nil, Bool.or_false, Bool.or_assoc]
def unpackS (s : Bytes) : Sec × Int := if s.length < 4 ∨ s.length < 4 + 2 * cntS s then ((0, false, 0, []), 3) else if packS (secA s) = (s, 0) then (secA s, 0) else ((0, false, 0, []), 4)
theorem odd_iff {s : Bytes} {j : Nat} : oddS s j = false ↔ (List.getD s 1 0).toNat ≤ 1 ∧ ∀ i, i < j → flS s i ≤ 3 := by
  unfold oddS
  rw [Bool.or_eq_false_iff, decide_eq_false_iff_not, List.any_eq_false]
  simp only [List.mem_range, decide_eq_true_eq]
  constructor
  · rintro ⟨h1, h2⟩
    exact ⟨by omega, fun i hi => by have := h2 i hi; omega⟩
  · rintro ⟨h1, h2⟩
    exact ⟨by omega, fun i hi => by have := h2 i hi; omega⟩
theorem sec_same {s : Bytes} (h : oddS s (cntS s) = false) : secP s = secA s := by
  have h := (odd_iff.1 h).2
  unfold secP secA rowsP rowsA
  have : (List.range (cntS s)).map (rowPt s) = (List.range (cntS s)).map (rowAt s) := by
    refine List.map_congr_left fun i hi => ?_
    have := h i (List.mem_range.1 hi)
    unfold rowPt rowAt
    rw [show (flS s i : Int) / 2 % 2 = (flS s i : Int) / 2 by omega]
  rw [this]
theorem flag_le (x : RowV) : (flagB x).toNat ≤ 3 := by unfold flagB; cases x.2.1 <;> cases x.2.2 <;> decide
theorem flag_of {n : Nat} (h : n ≤ 3) (a : Int) : (flagB (a, decide ((n : Int) % 2 = 1), decide ((n : Int) / 2 = 1))).toNat = n := by
  have : n = 0 ∨ n = 1 ∨ n = 2 ∨ n = 3 := by omega
  rcases this with q | q | q | q <;> subst q <;> rfl
theorem flag_bits : ∀ b c : Bool, decide (((flagB (0, b, c)).toNat : Int) % 2 = 1) = b ∧ decide (((flagB (0, b, c)).toNat : Int) / 2 = 1) = c := by decide
theorem take_pairs (s : Bytes) : ∀ c, 4 + 2 * c ≤ s.length → List.take (4 + 2 * c) s = List.take 4 s ++ (List.range c).flatMap (fun i => [List.getD s (4 + 2 * i) 0, List.getD s (5 + 2 * i) 0])
  | 0, _ => by simp
  | c + 1, h => by
    rw [show 4 + 2 * (c + 1) = 4 + 2 * c + 1 + 1 by omega, Lib.take_succ 0 s _ (by omega), Lib.take_succ 0 s _ (by omega), take_pairs s c (by omega), List.range_succ, List.flatMap_append, show 4 + 2 * c + 1 = 5 + 2 * c by omega]
    simp
theorem take_four {s : Bytes} (h : 4 ≤ s.length) : List.take 4 s = [List.getD s 0 0, List.getD s 1 0, List.getD s 2 0, List.getD s 3 0] := by
  match s, h with
  | a :: b :: c :: d :: r, _ => rfl
theorem unpack_iff {s : Bytes} (h : ¬ (s.length < 4 ∨ s.length < 4 + 2 * cntS s)) : packS (secA s) = (s, 0) ↔ s.length = 4 + 2 * cntS s ∧ oddS s (cntS s) = false ∧ Secret.checkS (secP s) loose = 0 := by
  constructor
  · intro hp
    have hc : Secret.checkS (secA s) loose = 0 := by
      apply Classical.byContradiction
      intro hn
      rw [pack_no hn] at hp
      have := congrArg Prod.snd hp
      simp at this
    rw [pack_ok hc] at hp
    have hb : packB (secA s) = s := congrArg Prod.fst hp
    have hlen := pack_len (secA s)
    have hl2 : (secA s).2.2.2.length = cntS s := rowsA_len s _
    rw [hb, hl2] at hlen
    have ho : oddS s (cntS s) = false := by
      refine odd_iff.2 ⟨?_, fun i hi => ?_⟩
      · have e : List.getD s 1 0 = bitS (decide (((List.getD s 1 0).toNat : Int) = 1)) := by
          have : List.getD (packB (secA s)) 1 0 = bitS (secA s).2.1 := rfl
          rw [hb] at this
          exact this
        rw [e]
        unfold bitS
        split <;> decide
      · have := (getD_pack (s := secA s) (i := i) (by rw [hl2]; exact hi)).2
        rw [hb] at this
        unfold flS
        rw [this]
        exact flag_le _
    exact ⟨hlen, ho, by rw [sec_same ho]; exact hc⟩
  · rintro ⟨h1, h2, h3⟩
    rw [sec_same h2] at h3
    rw [pack_ok h3]
    refine Prod.ext ?_ rfl
    show packB (secA s) = s
    obtain ⟨o1, o2⟩ := odd_iff.1 h2
    have e := take_pairs s (cntS s) (by omega)
    rw [List.take_of_length_le (by omega), take_four (by omega)] at e
    conv => rhs; rw [e]
    unfold packB headB
    have a1 : b8 (secA s).1 = List.getD s 0 0 := b8_byte _
    have a2 : bitS (secA s).2.1 = List.getD s 1 0 := by
      show bitS (decide (((List.getD s 1 0).toNat : Int) = 1)) = _
      unfold bitS
      apply UInt8.toNat_inj.1
      by_cases q : (List.getD s 1 0).toNat = 1
      · rw [q]; rfl
      · rw [show (List.getD s 1 0).toNat = 0 by omega]; rfl
    have a3 : b8 (secA s).2.2.1 = List.getD s 2 0 := b8_byte _
    have a4 : b8 ((secA s).2.2.2.length : Int) = List.getD s 3 0 := by
      show b8 ((rowsA s (cntS s)).length : Int) = _
      rw [rowsA_len]; exact b8_byte _
    rw [a1, a2, a3, a4]
    congr 1
    show packR (rowsA s (cntS s)) = _
    unfold packR rowsA
    rw [List.flatMap_map]
    rw [List.flatMap_def, List.flatMap_def]
    congr 1
    refine List.map_congr_left fun i hi => ?_
    have q := o2 i (List.mem_range.1 hi)
    have r1 : b8 (rowAt s i).1 = List.getD s (4 + 2 * i) 0 := b8_byte _
    have r2 : flagB (rowAt s i) = List.getD s (5 + 2 * i) 0 := by
      apply UInt8.toNat_inj.1
      exact flag_of q _
    rw [r1, r2]
theorem unpack_back {x : Sec} (h : Secret.checkS x loose = 0) : unpackS (packB x) = (x, 0) := by
  obtain ⟨c1, c2, c3, c4, c5, c6⟩ := check_rows h
  have e0 : (List.getD (packB x) 0 0).toNat = (b8 x.1).toNat := rfl
  have e1 : List.getD (packB x) 1 0 = bitS x.2.1 := rfl
  have e2 : (List.getD (packB x) 2 0).toNat = (b8 x.2.2.1).toNat := rfl
  have e3 : cntS (packB x) = x.2.2.2.length := by
    have : cntS (packB x) = (b8 (x.2.2.2.length : Int)).toNat := rfl
    have q := b8_nat (n := (x.2.2.2.length : Int)) (by omega) (by omega)
    omega
  have hr : rowsA (packB x) x.2.2.2.length = x.2.2.2 := by
    unfold rowsA
    refine List.ext_getElem (by simp) fun i h1 h2 => ?_
    rw [List.getElem_map, List.getElem_range]
    have g := getD_pack (s := x) h2
    have hx := c6 _ (List.getElem_mem h2)
    rw [Lib.getD_lt _ _ _ h2] at g
    unfold rowAt flS
    rw [g.1, g.2, b8_nat (by omega) (by omega)]
    generalize x.2.2.2[i] = y
    obtain ⟨n, a, b⟩ := y
    exact Prod.ext rfl (Prod.ext (flag_bits a b).1 (flag_bits a b).2)
  have hs : secA (packB x) = x := by
    unfold secA
    rw [e3, hr, e0, e2, e1, b8_nat (by omega) (by omega), b8_nat (by omega) (by omega)]
    obtain ⟨a, b, c, d⟩ := x
    cases b <;> rfl
  unfold unpackS
  rw [if_neg (by rw [pack_len, e3]; omega), hs, if_pos (pack_ok h)]
theorem pack_inj {a b : Sec} (ha : Secret.checkS a loose = 0) (hb : Secret.checkS b loose = 0) : packB a = packB b ↔ a = b := by
  constructor
  · intro h
    have h1 := unpack_back ha
    rw [h, unpack_back hb] at h1
    exact (congrArg Prod.fst h1).symm
  · rintro rfl; rfl
theorem unpack_len (s : Bytes) (h : s.length ≤ 100000) : (unpackS s).1.2.2.2.length ≤ 255 := by
  unfold unpackS
  split
  · simp
  · split
    · show (rowsA s (cntS s)).length ≤ 255
      rw [rowsA_len]
      unfold cntS
      have := Rune.byte_lt s 3
      omega
    · simp

/-! ### scanning -/
/-- Where a scan stands, and what is wrong, when so many bytes were asked one by one. -/
def atS (s : Bytes) (i : Nat) : Int := if i ≤ s.length then (i : Int) else (s.length : Int)
def badS (s : Bytes) (i : Nat) : Int := if i ≤ s.length then 0 else 3
theorem at_rng (s : Bytes) (i : Nat) : 0 ≤ atS s i ∧ atS s i ≤ s.length := by unfold atS; split <;> omega
theorem at_ok {s : Bytes} {i : Nat} (h : badS s i = 0) : atS s i = i ∧ i ≤ s.length := by
  unfold badS at h
  unfold atS
  split at h
  · rename_i q; rw [if_pos q]; exact ⟨rfl, q⟩
  · omega
theorem byte_out {s : Bytes} {i : Nat} (h : s.length ≤ i) : (List.getD s i 0).toNat = 0 := by
  rw [List.getD_eq_getElem?_getD, List.getElem?_eq_none h]; rfl
def endS (s : Bytes) (i : Nat) : Int := if s.length < i then 3 else if i < s.length then 4 else 0

theorem unpack_3 {s : Bytes} (h : endS s (4 + 2 * cntS s) = 3) : unpackS s = ((0, false, 0, []), 3) := by
  unfold endS at h
  unfold unpackS
  refine if_pos ?_
  split at h
  · omega
  · split at h <;> omega
theorem unpack_4 {s : Bytes} (h : ¬ endS s (4 + 2 * cntS s) = 3) (h2 : (¬ endS s (4 + 2 * cntS s) = 0 ∨ oddS s (cntS s) = true) ∨ ¬ Secret.checkS (secP s) loose = 0) : unpackS s = ((0, false, 0, []), 4) := by
  have hl : ¬ (s.length < 4 ∨ s.length < 4 + 2 * cntS s) := by
    unfold endS at h
    split at h
    · omega
    · omega
  unfold unpackS
  rw [if_neg hl, if_neg]
  rw [unpack_iff hl]
  rintro ⟨q1, q2, q3⟩
  rcases h2 with (h2 | h2) | h2
  · refine h2 ?_
    unfold endS
    rw [if_neg (by omega), if_neg (by omega)]
  · rw [q2] at h2; cases h2
  · exact h2 q3
theorem unpack_0 {s : Bytes} (h : endS s (4 + 2 * cntS s) = 0) (h2 : oddS s (cntS s) = false) (h3 : Secret.checkS (secP s) loose = 0) : unpackS s = (secP s, 0) := by
  have hl : s.length = 4 + 2 * cntS s := by
    unfold endS at h
    split at h
    · omega
    · split at h <;> omega
  have hn : ¬ (s.length < 4 ∨ s.length < 4 + 2 * cntS s) := by omega
  unfold unpackS
  rw [if_neg hn, if_pos ((unpack_iff hn).2 ⟨hl, h2, h3⟩), sec_same h2]
theorem unpack_short {s : Bytes} (h : s.length < 4 ∨ s.length < 4 + 2 * cntS s) : unpackS s = ((0, false, 0, []), 3) := if_pos h
theorem unpack_not {s : Bytes} (h : ¬ (s.length < 4 ∨ s.length < 4 + 2 * cntS s)) (h2 : ¬ (packS (secA s)).2 = 0 ∨ ¬ (packS (secA s)).1 = s) : unpackS s = ((0, false, 0, []), 4) := by
  unfold unpackS
  rw [if_neg h, if_neg]
  intro e
  rcases h2 with h2 | h2
  · exact h2 (by rw [e])
  · exact h2 (by rw [e])
theorem unpack_yes {s : Bytes} (h : ¬ (s.length < 4 ∨ s.length < 4 + 2 * cntS s)) (h2 : (packS (secA s)).2 = 0) (h3 : (packS (secA s)).1 = s) : unpackS s = (secA s, 0) := by
  unfold unpackS
  rw [if_neg h, if_pos (Prod.ext h3 h2)]

/-! ### what a scan tells of one byte -/
abbrev ScanV := Bytes × Int × Int
def numV (x : ScanV) : Int × ScanV :=
  if ¬ x.2.2 = 0 then (0, x) else if x.2.1 < 0 ∨ (x.1.length : Int) < x.2.1 then (0, (x.1, x.2.1, 2)) else if (x.1.length : Int) - x.2.1 < 1 then (0, (x.1, x.2.1, 3)) else
  (((List.getD x.1 x.2.1.toNat 0).toNat : Int), (x.1, x.2.1 + 1, x.2.2))
theorem num_rng (x : ScanV) : 0 ≤ (numV x).1 ∧ (numV x).1 < 256 := by
  have := Rune.byte_lt x.1 x.2.1.toNat
  unfold numV
  repeat' split
  all_goals (simp only []; omega)
theorem num_def (s : Bytes) (a b : Int) : numV (s, a, b) = if ¬ b = 0 then (0, (s, a, b)) else if a < 0 ∨ (s.length : Int) < a then (0, (s, a, 2)) else if (s.length : Int) - a < 1 then (0, (s, a, 3)) else (((List.getD s a.toNat 0).toNat : Int), (s, a + 1, b)) := rfl
theorem num_at (s : Bytes) (i : Nat) : numV (s, atS s i, badS s i) = (((List.getD s i 0).toNat : Int), (s, atS s (i + 1), badS s (i + 1))) := by
  rw [num_def]
  unfold atS badS
  rcases Nat.lt_trichotomy i s.length with h | h | h
  · rw [if_pos (show i ≤ s.length by omega), if_pos (show i ≤ s.length by omega), if_pos (show i + 1 ≤ s.length by omega), if_pos (show i + 1 ≤ s.length by omega), if_neg (by omega), if_neg (by omega), if_neg (by omega), Int.toNat_natCast]
    rfl
  · subst h
    rw [byte_out (Nat.le_refl _), if_pos (Nat.le_refl s.length), if_pos (Nat.le_refl s.length), if_neg (show ¬ s.length + 1 ≤ s.length by omega), if_neg (show ¬ s.length + 1 ≤ s.length by omega), if_neg (by omega), if_neg (by omega), if_pos (by omega)]
    rfl
  · rw [byte_out (show s.length ≤ i by omega), if_neg (show ¬ i ≤ s.length by omega), if_neg (show ¬ i ≤ s.length by omega), if_neg (show ¬ i + 1 ≤ s.length by omega), if_neg (show ¬ i + 1 ≤ s.length by omega), if_pos (by omega)]
    rfl
def foldV (x : ScanV) (k : Nat) : Int := if k = 0 then 0 else ((List.getD x.1 x.2.1.toNat 0).toNat : Int)
theorem or_byte : ∀ n : Nat, n < 256 → IntKind.wrap .u64 ((BitVec.ofInt 64 (IntKind.wrap .u64 ((0 : Int) * 2 ^ (min (8 : Int).toNat (IntKind.bits .u64)))) ||| BitVec.ofInt 64 (n : Int)).toNat) = (n : Int) := by decide +kernel
theorem slice_byte {s : Bytes} {a : Int} (h : 0 ≤ a) : List.getD (List.drop a.toNat (List.take (a + 1).toNat s)) 0 0 = List.getD s a.toNat 0 := by
  rw [List.getD_eq_getElem?_getD, List.getElem?_drop, List.getElem?_take, if_pos (by omega), List.getD_eq_getElem?_getD]
  rfl
theorem bit_1 : ∀ n : Nat, n < 256 → (!decide (IntKind.wrap .i64 ((BitVec.ofInt 64 (n : Int) &&& BitVec.ofInt 64 1).toNat) = 0)) = decide ((n : Int) % 2 = 1) := by decide +kernel
theorem bit_2 : ∀ n : Nat, n < 256 → (!decide (IntKind.wrap .i64 ((BitVec.ofInt 64 (n : Int) &&& BitVec.ofInt 64 2).toNat) = 0)) = decide ((n : Int) / 2 % 2 = 1) := by decide +kernel
theorem rem_2 : ∀ n : Nat, n < 256 → decide (Int.tmod (n : Int) 2 = 1) = decide ((n : Int) % 2 = 1) := by decide +kernel
theorem quo_2 : ∀ n : Nat, n < 256 → decide (IntKind.wrap .u8 (Int.tdiv (n : Int) 2) = 1) = decide ((n : Int) / 2 = 1) := by decide +kernel
theorem tries_len (s : Bytes) : ∀ k ∈ triesS s, k.2.1.length ≤ s.length := by
  intro k hk
  unfold triesS at hk
  rcases List.mem_append.1 hk with hk | hk
  · simp only [List.mem_cons, List.not_mem_nil, or_false] at hk
    rcases hk with rfl | rfl | rfl | rfl <;> simp
  · split at hk
    · rw [List.mem_singleton] at hk
      subst hk
      simp
      omega
    · cases hk
theorem begins_eq (s t : Bytes) : (decide ((List.length t : Int) ≤ (List.length s : Int)) && decide (List.take (List.length t) s = t)) = hasP s t := by
  rw [Bool.eq_iff_iff, Bool.and_eq_true, decide_eq_true_eq, decide_eq_true_eq, Under.hasP_iff]
  constructor
  · rintro ⟨_, h⟩
    rw [← h]; exact List.take_prefix _ _
  · intro h
    exact ⟨by have := h.length_le; omega, (List.prefix_iff_eq_take.1 h).symm⟩
theorem tries_size (s : Bytes) : (triesS s).length ≤ 5 := by
  unfold triesS
  rw [List.length_append]
  split <;> simp
theorem at_0 (s : Bytes) : (0 : Int) = atS s 0 := by unfold atS; rw [if_pos (Nat.zero_le _)]; rfl
theorem bad_0 (s : Bytes) : (0 : Int) = badS s 0 := by unfold badS; rw [if_pos (Nat.zero_le _)]
theorem odd_0 (s : Bytes) : oddS s 0 = decide ((1 : Int) < (List.getD s 1 0).toNat) := by unfold oddS; rw [List.range_zero, List.any_nil, Bool.or_false]
theorem fl_eq (s : Bytes) (j : Nat) : flS s j = (List.getD s (4 + 2 * j + 1) 0).toNat := by unfold flS; rw [show 5 + 2 * j = 4 + 2 * j + 1 by omega]
theorem rowPt_eq (s : Bytes) (j : Nat) : ((((List.getD s (4 + 2 * j) 0).toNat : Int), !decide (IntKind.wrap .i64 ((BitVec.ofInt 64 ((List.getD s (4 + 2 * j + 1) 0).toNat : Int) &&& BitVec.ofInt 64 1).toNat) = 0), !decide (IntKind.wrap .i64 ((BitVec.ofInt 64 ((List.getD s (4 + 2 * j + 1) 0).toNat : Int) &&& BitVec.ofInt 64 2).toNat) = 0)) : RowV) = rowPt s j := by
  rw [bit_1 _ (Rune.byte_lt _ _), bit_2 _ (Rune.byte_lt _ _), ← fl_eq]
  rfl
theorem end_1 {s : Bytes} {i : Nat} (h : ¬ badS s i = 0) : endS s i = badS s i := by
  unfold badS at *
  unfold endS
  split at h
  · omega
  · rename_i q; rw [if_pos (by omega), if_neg q]
theorem end_4 {s : Bytes} {i : Nat} (h : badS s i = 0) (h2 : 0 < (List.length s : Int) - atS s i) : endS s i = 4 := by
  obtain ⟨q1, q2⟩ := at_ok h
  rw [q1] at h2
  unfold endS
  rw [if_neg (by omega), if_pos (by omega)]
theorem end_0 {s : Bytes} {i : Nat} (h : badS s i = 0) (h2 : ¬ 0 < (List.length s : Int) - atS s i) : endS s i = 0 := by
  obtain ⟨q1, q2⟩ := at_ok h
  rw [q1] at h2
  unfold endS
  rw [if_neg (by omega), if_neg (by omega)]
theorem rowAt_eq (s : Bytes) (i : Nat) : ((((List.getD s (4 + 2 * i) 0).toNat : Int), decide (Int.tmod ((List.getD s (5 + 2 * i) 0).toNat : Int) 2 = 1), decide (IntKind.wrap .u8 (Int.tdiv ((List.getD s (5 + 2 * i) 0).toNat : Int) 2) = 1)) : RowV) = rowAt s i := by
  rw [rem_2 _ (Rune.byte_lt _ _), quo_2 _ (Rune.byte_lt _ _)]
  rfl
def underS (top : Bytes) : List Bytes := [[109, 47] ++ top ++ [47], [100, 47] ++ top ++ [47]]
theorem underS_len (top : Bytes) : (underS top).length = 2 := rfl
theorem underS_0 (top : Bytes) : List.getD (underS top) 0 [] = [109, 47] ++ top ++ [47] := rfl
theorem underS_1 (top : Bytes) : List.getD (underS top) 1 [] = [100, 47] ++ top ++ [47] := rfl
def costS (key : Bytes) (n : Int) : Int := 36 + (key.length : Int) + max 0 (min n 1048576)
def lengthS (n : Int) : Int := if n < 0 ∨ 6 < n then 0 else 4 + 2 * n

/-! ### beginnings -/
theorem below_of {path top : Bytes} (ht : Route.checkS top = 0) : Under.belowS path top = hasP path (top ++ [47]) := by
  have h0 : top ≠ [] := fun e => by rw [e, check_nil] at ht; omega
  rw [Bool.eq_iff_iff, Under.below_iff, Under.hasP_iff]
  constructor
  · rintro ⟨_, h | h⟩
    · exact absurd h h0
    · exact h
  · intro h
    refine ⟨fun e => ?_, .inr h⟩
    have := h.length_le
    rw [e] at this
    simp at this
    try omega
theorem begin_m (a b : UInt8) (p t : Bytes) : hasP ([a, b] ++ p) ([a, b] ++ t) = hasP p t := by
  rw [Bool.eq_iff_iff, Under.hasP_iff, Under.hasP_iff]
  simp
theorem begin_no {a b c d : UInt8} (p t : Bytes) (h : a ≠ c) : hasP (a :: b :: p) (c :: d :: t) = false := by
  rw [Bool.eq_false_iff, Ne, Under.hasP_iff]
  intro hh
  rw [List.cons_prefix_cons] at hh
  exact h hh.1.symm
theorem begin_d {p t : Bytes} {v : UInt8} (hv : v.toNat < 47) : hasP (p ++ [0, v]) (t ++ [47]) = hasP p (t ++ [47]) := by
  rw [Bool.eq_iff_iff, Under.hasP_iff, Under.hasP_iff]
  constructor
  · intro h
    have hl := h.length_le
    simp only [List.length_append, List.length_cons, List.length_nil] at hl
    rcases Nat.lt_or_ge t.length p.length with q | q
    · exact List.prefix_of_prefix_length_le h (List.prefix_append _ _) (by simp; omega)
    · exfalso
      obtain ⟨r, hr⟩ := h
      have e := congrArg (fun l => l[t.length]?) hr
      simp only [List.append_assoc] at e
      rw [List.getElem?_append_right (Nat.le_refl _), List.getElem?_append_right q, Nat.sub_self] at e
      have : t.length - p.length = 0 ∨ t.length - p.length = 1 := by omega
      rcases this with z | z
      · rw [z] at e
        simp at e
      · rw [z] at e
        simp at e
        rw [← e] at hv
        exact absurd hv (by decide)
  · intro h
    exact h.trans (List.prefix_append _ _)
theorem text_meta {p : Bytes} (h : Route.checkS p = 0) : textS (1, p, 0) = ([109, 47] ++ p, 0) := by
  rw [text_ok (check_ok (.inl ⟨rfl, h, rfl⟩))]; rfl
theorem text_data {p : Bytes} {v : Int} (h : Route.checkS p = 0) (h1 : 1 ≤ v) (h2 : v ≤ 30) : textS (2, p, v) = (([100, 47] ++ p) ++ [0, b8 v], 0) := by
  rw [text_ok (check_ok (.inr (.inl ⟨rfl, h, h1, h2⟩)))]; rfl
theorem begin_mm {p t : Bytes} (ht : Route.checkS t = 0) : hasP ([109, 47] ++ p) (List.getD (underS t) 0 []) = Under.belowS p t := by
  rw [underS_0, List.append_assoc, begin_m, below_of ht]
theorem begin_dd {p t : Bytes} {v : Int} (ht : Route.checkS t = 0) (h1 : 1 ≤ v) (h2 : v ≤ 30) : hasP (([100, 47] ++ p) ++ [0, b8 v]) (List.getD (underS t) 1 []) = Under.belowS p t := by
  have := b8_nat (n := v) (by omega) (by omega)
  rw [underS_1, List.append_assoc, List.append_assoc, begin_m, begin_d (by omega), below_of ht]
theorem begin_md {p t : Bytes} : hasP ([109, 47] ++ p) (List.getD (underS t) 1 []) = false := by
  rw [underS_1]; exact begin_no _ _ (by decide)
theorem begin_dm {p t : Bytes} {v : UInt8} : hasP (([100, 47] ++ p) ++ [0, v]) (List.getD (underS t) 0 []) = false := by
  rw [underS_0]; exact begin_no _ _ (by decide)
theorem begin_k {k : KeyV} {t : Bytes} (h : (textS k).2 = 0) (h3 : ¬ k.1 < 3) : hasP (textS k).1 (List.getD (underS t) 0 []) = false ∧ hasP (textS k).1 (List.getD (underS t) 1 []) = false := by
  have hc : checkK k = 0 := by
    apply Classical.byContradiction
    intro hn
    rw [text_no hn] at h
    exact hn h
  have hm := check_may.1 hc
  rw [text_ok hc, underS_0, underS_1]
  show hasP (textOf k) _ = false ∧ hasP (textOf k) _ = false
  have : (∃ r, textOf k = 116 :: 47 :: r) ∨ (∃ r, textOf k = 115 :: 47 :: r) := by
    unfold textOf wholeM wholeR
    rw [if_neg (by omega), if_neg (by omega)]
    split
    · exact .inl ⟨_, rfl⟩
    · split
      · exact .inr ⟨_, rfl⟩
      · exact .inr ⟨_, rfl⟩
  rcases this with ⟨r, e⟩ | ⟨r, e⟩
  · rw [e]; exact ⟨begin_no _ _ (by decide), begin_no _ _ (by decide)⟩
  · rw [e]; exact ⟨begin_no _ _ (by decide), begin_no _ _ (by decide)⟩
theorem v_rng (n : Int) : 0 ≤ Int.tmod (IntKind.wrap .u64 n) 30 ∧ Int.tmod (IntKind.wrap .u64 n) 30 < 30 := by
  have h : 0 ≤ IntKind.wrap .u64 n := by
    simp [IntKind.wrap, IntKind.signed, IntKind.bits]
    omega
  exact ⟨Int.tmod_nonneg _ h, Int.tmod_lt_of_pos _ (by decide)⟩
theorem text_may {x : KeyV} (h : (textS x).2 = 0) : checkK x = 0 := by
  apply Classical.byContradiction
  intro hn
  rw [text_no hn] at h
  exact hn h
theorem pack_may {s : Sec} (h : (packS s).2 = 0) : Secret.checkS s loose = 0 := by
  apply Classical.byContradiction
  intro hn
  rw [pack_no hn] at h
  exact absurd h (by decide)
theorem parse_of {x : KeyV} (h : (textS x).2 = 0) : parseS (textS x).1 = (x, 0) := by
  rw [text_ok (text_may h)]; exact parse_text (text_may h)
theorem apart_eq {x y : KeyV} (hx : (textS x).2 = 0) (hy : (textS y).2 = 0) : (textS x).1 = (textS y).1 ↔ x.1 = y.1 ∧ x.2.1 = y.2.1 ∧ x.2.2 = y.2.2 := by
  rw [text_ok (text_may hx), text_ok (text_may hy)]
  refine (text_inj (text_may hx) (text_may hy)).trans ⟨fun h => by subst h; exact ⟨rfl, rfl, rfl⟩, fun h => Prod.ext h.1 (Prod.ext h.2.1 h.2.2)⟩
theorem packS_len (s : Sec) : (packS s).1.length ≤ 4 + 2 * s.2.2.2.length := by
  unfold packS
  split
  · show (packB s).length ≤ _
    rw [pack_len]; exact Nat.le_refl _
  · simp
theorem unpack_of {s : Sec} (h : (packS s).2 = 0) : unpackS (packS s).1 = (s, 0) := by
  rw [pack_ok (pack_may h)]; exact unpack_back (pack_may h)
theorem pack_length {s : Sec} (h : (packS s).2 = 0) : ((packS s).1.length : Int) = lengthS (s.2.2.2.length : Int) := by
  have hr := check_rows (pack_may h)
  rw [pack_ok (pack_may h)]
  show ((packB s).length : Int) = _
  rw [pack_len]
  unfold lengthS
  rw [if_neg (by omega)]
  omega
theorem pack_eq {s t : Sec} (hs : (packS s).2 = 0) (ht : (packS t).2 = 0) : (packS s).1 = (packS t).1 ↔ s = t := by
  rw [pack_ok (pack_may hs), pack_ok (pack_may ht)]
  exact pack_inj (pack_may hs) (pack_may ht)
theorem pack_nil {s : Sec} (h : ¬ (packS s).2 = 0) : (packS s).1 = [] := by
  rw [pack_no fun hc => h (by rw [pack_ok hc])]
theorem apart_end {s t : Sec} (hs : (packS s).2 = 0) : ((!decide ((packS t).2 = 0) || (decide ((packS s).1 = (packS t).1) == decide (s = t))) && true) = true := by
  by_cases ht : (packS t).2 = 0
  · have e : decide ((packS s).1 = (packS t).1) = decide (s = t) := by rw [decide_eq_decide]; exact pack_eq hs ht
    rw [e]; simp
  · simp [ht]
end AL.Rows
