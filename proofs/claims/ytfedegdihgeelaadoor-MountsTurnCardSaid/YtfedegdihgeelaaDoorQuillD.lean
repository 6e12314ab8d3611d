/- quill: numbers and rows as bytes, in plain Lean. No condition. -/
import Derived.Test.YtfedegdihgeelaaDoorRuneD
namespace AL.Quill
open Go AL
set_option linter.unusedVariables false
set_option linter.unusedSimpArgs false

/-- Where one is in a text: the text, the place, the error. -/
abbrev ScanV := Bytes × Int × Int
/-- A number, its highest byte first. -/
def bigS (l : Bytes) : Int := l.foldl (fun n b => 256 * n + (b.toNat : Int)) 0
theorem big_snoc (l : Bytes) (b : UInt8) : bigS (l ++ [b]) = 256 * bigS l + (b.toNat : Int) := by
  unfold bigS; rw [List.foldl_append]; rfl
theorem big_step (l : Bytes) (k : Nat) (h : k < l.length) : bigS (List.take (k + 1) l) = 256 * bigS (List.take k l) + ((List.getD l k 0).toNat : Int) := by
  rw [Lib.take_succ 0 l k h, big_snoc]
theorem big_rng : ∀ (n : Nat) (l : Bytes), l.length ≤ n → 0 ≤ bigS l ∧ bigS l < 256 ^ n
  | 0, l, h => by
    obtain rfl := List.eq_nil_of_length_eq_zero (Nat.le_zero.1 h)
    exact ⟨Int.le_refl _, by decide⟩
  | n + 1, l, h => by
    rcases List.eq_nil_or_concat l with rfl | ⟨l', b, rfl⟩
    · refine ⟨Int.le_refl _, ?_⟩
      show (0 : Int) < _
      exact Int.pow_pos (by decide)
    · rw [List.concat_eq_append] at *
      rw [List.length_append] at h
      have q := big_rng n l' (by simpa using h)
      have hb := UInt8.toNat_lt b
      rw [big_snoc, Int.pow_succ]
      omega
theorem big_2 {l : Bytes} (h : l.length ≤ 2) : 0 ≤ bigS l ∧ bigS l < 65536 := big_rng 2 l h
theorem wrap_64 {n : Int} (h : 0 ≤ n) (h2 : n < 18446744073709551616) : IntKind.wrap .u64 n = n := by
  simp [IntKind.wrap, IntKind.signed, IntKind.bits]
  omega
theorem pow_8 : (2 : Int) ^ (min (8 : Int).toNat (IntKind.bits .u64)) = 256 := by decide
theorem or_big {n : Int} {b : Nat} (h0 : 0 ≤ n) (h1 : n < 4294967296) (hb : b < 256) :
    IntKind.wrap .u64 ((BitVec.ofInt 64 (IntKind.wrap .u64 (n * 2 ^ (min (8 : Int).toNat (IntKind.bits .u64)))) ||| BitVec.ofInt 64 (b : Int)).toNat) = 256 * n + (b : Int) := by
  obtain ⟨m, rfl⟩ := Int.eq_ofNat_of_zero_le h0
  rw [pow_8, wrap_64 (n := (m : Int) * 256) (by omega) (by omega)]
  have e1 : ((m : Int) * 256) = ((256 * m : Nat) : Int) := by omega
  rw [e1, BitVec.ofInt_natCast, BitVec.ofInt_natCast, BitVec.toNat_or, BitVec.toNat_ofNat, BitVec.toNat_ofNat, Nat.mod_eq_of_lt (by omega), Nat.mod_eq_of_lt (by omega)]
  have e2 : 256 * m ||| b = 256 * m + b := (Nat.two_pow_add_eq_or_of_lt (i := 8) (by omega) m).symm
  rw [e2, wrap_64 (by omega) (by omega)]
  omega
theorem mul_big {n : Int} {b : Nat} (h0 : 0 ≤ n) (h1 : n < 4294967296) (hb : b < 256) : IntKind.wrap .u64 (IntKind.wrap .u64 (256 * n) + (b : Int)) = 256 * n + (b : Int) := by
  rw [wrap_64 (n := 256 * n) (by omega) (by omega), wrap_64 (by omega) (by omega)]

/-! ### scanning -/
def numQ (x : ScanV) (n : Int) : Int × ScanV :=
  if ¬ x.2.2 = 0 then (0, x) else if x.2.1 < 0 ∨ (x.1.length : Int) < x.2.1 then (0, (x.1, x.2.1, 2)) else if (x.1.length : Int) - x.2.1 < n then (0, (x.1, x.2.1, 3)) else
  (bigS (List.drop x.2.1.toNat (List.take (x.2.1 + n).toNat x.1)), (x.1, x.2.1 + n, 0))
theorem num_1 {x : ScanV} {n : Int} (h : ¬ x.2.2 = 0) : numQ x n = (0, x) := if_pos h
theorem num_2 {x : ScanV} {n : Int} (h : x.2.2 = 0) (h2 : x.2.1 < 0 ∨ (x.1.length : Int) < x.2.1) : numQ x n = (0, (x.1, x.2.1, 2)) := by
  unfold numQ; rw [if_neg (fun q => q h), if_pos h2]
theorem num_3 {x : ScanV} {n : Int} (h : x.2.2 = 0) (h2 : 0 ≤ x.2.1 ∧ x.2.1 ≤ (x.1.length : Int)) (h3 : (x.1.length : Int) - x.2.1 < n) : numQ x n = (0, (x.1, x.2.1, 3)) := by
  unfold numQ; rw [if_neg (fun q => q h), if_neg (by omega), if_pos h3]
theorem num_4 {x : ScanV} {n : Int} (h : x.2.2 = 0) (h2 : 0 ≤ x.2.1 ∧ x.2.1 ≤ (x.1.length : Int)) (h3 : ¬ (x.1.length : Int) - x.2.1 < n) : numQ x n = (bigS (List.drop x.2.1.toNat (List.take (x.2.1 + n).toNat x.1)), (x.1, x.2.1 + n, 0)) := by
  unfold numQ; rw [if_neg (fun q => q h), if_neg (by omega), if_neg h3]
theorem num_len (x : ScanV) (n : Int) : (numQ x n).2.1 = x.1 := by
  unfold numQ; (repeat' split) <;> rfl
theorem num_cases (x : ScanV) {n : Int} (h1 : 1 ≤ n) (h2 : n ≤ 2) : (numQ x n).1 = 0 ∧ ¬ (numQ x n).2.2.2 = 0 ∨ (x.2.2 = 0 ∧ 0 ≤ x.2.1 ∧ x.2.1 + n ≤ (x.1.length : Int) ∧ (numQ x n).2 = (x.1, x.2.1 + n, 0) ∧ 0 ≤ (numQ x n).1 ∧ (numQ x n).1 < 65536) := by
  by_cases h : x.2.2 = 0
  · by_cases q : x.2.1 < 0 ∨ (x.1.length : Int) < x.2.1
    · left; rw [num_2 h q]; exact ⟨rfl, fun z => absurd (show (2 : Int) = 0 from z) (by decide)⟩
    · by_cases q2 : (x.1.length : Int) - x.2.1 < n
      · left; rw [num_3 h (by omega) q2]; exact ⟨rfl, fun z => absurd (show (3 : Int) = 0 from z) (by decide)⟩
      · right; rw [num_4 h (by omega) q2]
        have z := big_2 (l := List.drop x.2.1.toNat (List.take (x.2.1 + n).toNat x.1)) (by rw [List.length_drop, List.length_take]; omega)
        exact ⟨h, by omega, by omega, rfl, z.1, z.2⟩
  · left; rw [num_1 h]; exact ⟨rfl, h⟩
def rowQ (x : ScanV) : Bytes × ScanV :=
  if ¬ (numQ x 2).2.2.2 = 0 then ([], (numQ x 2).2) else if ((numQ x 2).2.1.length : Int) - (numQ x 2).2.2.1 < (numQ x 2).1 then ([], (x.1, x.2.1, 3)) else
  (List.drop (numQ x 2).2.2.1.toNat (List.take ((numQ x 2).2.2.1 + (numQ x 2).1).toNat x.1), (x.1, (numQ x 2).2.2.1 + (numQ x 2).1, 0))
theorem row_1 {x : ScanV} (h : ¬ (numQ x 2).2.2.2 = 0) : rowQ x = ([], (numQ x 2).2) := if_pos h
theorem row_2 {x : ScanV} (h : (numQ x 2).2.2.2 = 0) (h2 : ((numQ x 2).2.1.length : Int) - (numQ x 2).2.2.1 < (numQ x 2).1) : rowQ x = ([], (x.1, x.2.1, 3)) := by
  unfold rowQ; rw [if_neg (fun q => q h), if_pos h2]
theorem row_3 {x : ScanV} (h : (numQ x 2).2.2.2 = 0) (h2 : ¬ ((numQ x 2).2.1.length : Int) - (numQ x 2).2.2.1 < (numQ x 2).1) : rowQ x = (List.drop (numQ x 2).2.2.1.toNat (List.take ((numQ x 2).2.2.1 + (numQ x 2).1).toNat x.1), (x.1, (numQ x 2).2.2.1 + (numQ x 2).1, 0)) := by
  unfold rowQ; rw [if_neg (fun q => q h), if_neg h2]
theorem row_cases (x : ScanV) : ((rowQ x).1 = [] ∧ ¬ (rowQ x).2.2.2 = 0 ∧ (rowQ x).2.1 = x.1) ∨ (x.2.2 = 0 ∧ 0 ≤ x.2.1 ∧ (rowQ x).2 = (x.1, x.2.1 + 2 + ((rowQ x).1.length : Int), 0) ∧ x.2.1 + 2 + ((rowQ x).1.length : Int) ≤ (x.1.length : Int) ∧ (rowQ x).1.length < 65536) := by
  rcases num_cases x (n := 2) (by decide) (by decide) with ⟨_, h⟩ | ⟨h1, h2, h3, h4, h5, h6⟩
  · left; rw [row_1 h]; exact ⟨rfl, h, num_len x 2⟩
  · have h0 : (numQ x 2).2.2.2 = 0 := by rw [h4]
    by_cases q : ((numQ x 2).2.1.length : Int) - (numQ x 2).2.2.1 < (numQ x 2).1
    · left; rw [row_2 h0 q]; exact ⟨rfl, fun z => absurd (show (3 : Int) = 0 from z) (by decide), rfl⟩
    · right
      rw [row_3 h0 q]
      rw [h4] at q ⊢
      have e : (List.drop (x.2.1 + 2).toNat (List.take (x.2.1 + 2 + (numQ x 2).1).toNat x.1)).length = (numQ x 2).1.toNat := by
        rw [List.length_drop, List.length_take]
        simp only [] at q
        omega
      simp only [] at q ⊢
      rw [e]
      refine ⟨h1, h2, ?_, by omega, by omega⟩
      rw [show ((numQ x 2).1.toNat : Int) = (numQ x 2).1 by omega]

/-! ### laying -/
/-- A number as two bytes. -/
def be2 (n : Int) : Bytes := [UInt8.ofNat (n / 256 % 256).toNat, UInt8.ofNat (n % 256).toNat]
theorem byte_of {n : Int} (h : 0 ≤ n) : (UInt8.ofNat (n % 256).toNat).toNat = (n % 256).toNat := by
  rw [UInt8.toNat_ofNat']; omega
theorem wrap_8 (n : Int) : IntKind.wrap .u8 n = ((UInt8.ofNat (n % 256).toNat).toNat : Int) := by
  rw [UInt8.toNat_ofNat']
  simp [IntKind.wrap, IntKind.signed, IntKind.bits]
  omega
theorem be2_len (n : Int) : (be2 n).length = 2 := rfl
theorem shift_8 : (2 : Int) ^ (min (8 : Int).toNat (IntKind.bits .u64)) = 256 := by decide
theorem lay_at {n : Int} {j : Nat} (hj : j < 2) : flat 1 rowU8 [List.getD (be2 n) j 0] = [AC.s (u8 (IntKind.wrap .u8 (Int.fdiv n (2 ^ (min (8 - 8 * (j : Int)).toNat (IntKind.bits .u64))))))] := by
  have h : j = 0 ∨ j = 1 := by omega
  rcases h with rfl | rfl
  · rw [show (2 : Int) ^ (min (8 - 8 * ((0 : Nat) : Int)).toNat (IntKind.bits .u64)) = 256 by decide, wrap_8, Int.fdiv_eq_ediv_of_nonneg _ (by decide)]; rfl
  · rw [show (2 : Int) ^ (min (8 - 8 * ((1 : Nat) : Int)).toNat (IntKind.bits .u64)) = 1 by decide, wrap_8, Int.fdiv_eq_ediv_of_nonneg _ (by decide), Int.ediv_one]; rfl
theorem lay_step (b : Bytes) (n : Int) {j : Nat} (hj : j < 2) : (b ++ List.take j (be2 n)) ++ [List.getD (be2 n) j 0] = b ++ List.take (j + 1) (be2 n) := by
  rw [Lib.take_succ 0 (be2 n) j (by rw [be2_len]; exact hj), List.append_assoc]
theorem lay_end (b : Bytes) (n : Int) {j : Nat} (hj : 2 ≤ j) : b ++ List.take j (be2 n) = b ++ be2 n := by
  rw [List.take_of_length_le (by rw [be2_len]; exact hj)]
theorem big_be2 {n : Int} (h : 0 ≤ n) (h2 : n < 65536) : bigS (be2 n) = n := by
  unfold bigS be2
  simp only [List.foldl_cons, List.foldl_nil]
  rw [byte_of h, byte_of (by omega)]
  omega
def rowB (s : Bytes) : Bytes := be2 (s.length : Int) ++ s
theorem rowB_len (s : Bytes) : (rowB s).length = 2 + s.length := by unfold rowB; rw [List.length_append, be2_len]

/-! ### the reference's laying: the lowest byte by division -/
def divs (n : Int) : Nat → Int
  | 0 => n
  | k + 1 => divs n k / 256

theorem divs_rng {n : Int} (h0 : 0 ≤ n) (h1 : n < 65536) : ∀ k, 0 ≤ divs n k ∧ divs n k < 65536
  | 0 => ⟨h0, h1⟩
  | k + 1 => by
    have := divs_rng h0 h1 k
    unfold divs
    omega
theorem divs_step {n : Int} (h0 : 0 ≤ n) (h1 : n < 65536) (k : Nat) : IntKind.wrap .u64 (Int.tdiv (divs n k) 256) = divs n (k + 1) := by
  have := divs_rng h0 h1 k
  rw [Int.tdiv_eq_ediv_of_nonneg this.1, wrap_64 (by omega) (by omega)]; rfl
theorem divs_at {n : Int} (h0 : 0 ≤ n) (h1 : n < 65536) {j k : Nat} (hk : ¬ (k : Int) < 1 - (j : Int)) (hj : (k : Int) ≤ 1 - (j : Int)) : flat 1 rowU8 [List.getD (be2 n) j 0] = [AC.s (u8 (IntKind.wrap .u8 (Int.tmod (divs n k) 256)))] := by
  have h : (j = 0 ∧ k = 1) ∨ (j = 1 ∧ k = 0) := by omega
  have q := divs_rng h0 h1 k
  rw [wrap_8, Int.tmod_eq_emod_of_nonneg q.1, Int.emod_emod_of_dvd _ (by decide)]
  rcases h with ⟨rfl, rfl⟩ | ⟨rfl, rfl⟩ <;> rfl
theorem slice_at {s : Bytes} {a n : Int} {i : Nat} (ha : 0 ≤ a) (hi : (i : Int) < n) : List.getD (List.drop a.toNat (List.take (a + n).toNat s)) i 0 = List.getD s (a + (i : Int)).toNat 0 := by
  rw [List.getD_eq_getElem?_getD, List.getElem?_drop, List.getElem?_take, if_pos (by omega), List.getD_eq_getElem?_getD, show (a + (i : Int)).toNat = a.toNat + i by omega]
/-! ### what is laid is scanned -/
/-- A scan that stands between two texts. -/
theorem num_lay (a b c : Bytes) {n : Int} (hb : (b.length : Int) = n) : numQ (a ++ (b ++ c), (a.length : Int), 0) n = (bigS b, (a ++ (b ++ c), ((a ++ b).length : Int), 0)) := by
  rw [num_4 rfl (by simp only [List.length_append]; omega) (by simp only [List.length_append]; omega)]
  have e : List.drop ((a.length : Int)).toNat (List.take ((a.length : Int) + n).toNat (a ++ (b ++ c))) = b := by
    rw [← hb, show ((a.length : Int) + (b.length : Int)).toNat = (a ++ b).length by rw [List.length_append]; omega, ← List.append_assoc, List.take_left, Int.toNat_natCast, List.drop_left]
  simp only [] at e ⊢
  rw [e, ← hb, List.length_append]
  simp
theorem row_lay (a s c : Bytes) (hs : s.length < 65536) : rowQ (a ++ (rowB s ++ c), (a.length : Int), 0) = (s, (a ++ (rowB s ++ c), ((a ++ rowB s).length : Int), 0)) := by
  have h := num_lay a (be2 (s.length : Int)) (s ++ c) (n := 2) rfl
  rw [← List.append_assoc (be2 (s.length : Int)) s c] at h
  rw [big_be2 (by omega) (by omega)] at h
  have h0 : (numQ (a ++ (rowB s ++ c), (a.length : Int), 0) 2) = ((s.length : Int), (a ++ (rowB s ++ c), ((a ++ be2 (s.length : Int)).length : Int), 0)) := h
  rw [row_3 (by rw [h0]) (by rw [h0]; simp only [List.length_append, rowB, be2_len]; omega), h0]
  have e : List.drop (((a ++ be2 (s.length : Int)).length : Int)).toNat (List.take (((a ++ be2 (s.length : Int)).length : Int) + (s.length : Int)).toNat (a ++ (rowB s ++ c))) = s := by
    rw [show a ++ (rowB s ++ c) = (a ++ be2 (s.length : Int)) ++ (s ++ c) by unfold rowB; simp only [List.append_assoc], show (((a ++ be2 (s.length : Int)).length : Int) + (s.length : Int)).toNat = ((a ++ be2 (s.length : Int)) ++ s).length by simp only [List.length_append]; omega, ← List.append_assoc, List.take_left, Int.toNat_natCast, List.drop_left]
  simp only [] at e ⊢
  rw [e]
  simp only [List.length_append, rowB, be2_len]
  refine Prod.ext rfl (Prod.ext rfl (Prod.ext ?_ rfl))
  simp only []
  omega
end AL.Quill
