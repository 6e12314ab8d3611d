/- ask: numbers, digits and letters, in plain Lean. No condition. -/
import Derived.Test.YtiiiecdfganahaaDoorRowsD
import Derived.Test.YtiiiecdfganahaaDoorPolicyD
namespace AL.Ask
open Go AL
open AL.Sep (splitC joinC)
open AL.Policy (RuleV)
set_option linter.unusedVariables false
set_option linter.unusedSimpArgs false

/-! ### numbers -/
def dg (k : Int) : UInt8 := UInt8.ofNat (48 + k.toNat)
def numS (n : Int) : Bytes := if n < 10 then [dg n] else if n < 100 then [dg (n / 10), dg (n % 10)] else [dg (n / 100), dg (n / 10 % 10), dg (n % 10)]
def digB (b : UInt8) : Bool := decide (48 ≤ b.toNat) && decide (b.toNat ≤ 57)
theorem digB_iff {b : UInt8} : digB b = true ↔ 48 ≤ b.toNat ∧ b.toNat ≤ 57 := by unfold digB; simp only [Bool.and_eq_true, decide_eq_true_eq]
def valS (s : Bytes) : Int := s.foldl (fun n b => 10 * n + ((b.toNat : Int) - 48)) 0
def sizeB (s : Bytes) : Bool := !(decide (s = []) || (decide (3 < s.length) || (decide (1 < s.length) && decide (List.getD s 0 0 = 48))))
def scanN (s : Bytes) : Int := if sizeB s = true ∧ s.all digB = true then valS s else -1
theorem num_big : ∀ n : Nat, n < 1000 → numS (n : Int) ≠ [] ∧ (numS (n : Int)).length ≤ 3 ∧ sizeB (numS (n : Int)) = true ∧ (numS (n : Int)).all digB = true ∧ valS (numS (n : Int)) = (n : Int) := by decide +kernel
theorem num_one : ∀ a, a < 10 → numS (valS [UInt8.ofNat (48 + a)]) = [UInt8.ofNat (48 + a)] ∧ valS [UInt8.ofNat (48 + a)] = (a : Int) := by decide +kernel
theorem num_two : ∀ a, a < 10 → ∀ b, b < 10 → valS [UInt8.ofNat (48 + a), UInt8.ofNat (48 + b)] = (10 * a + b : Nat) ∧ (a ≠ 0 → numS ((10 * a + b : Nat) : Int) = [UInt8.ofNat (48 + a), UInt8.ofNat (48 + b)]) := by decide +kernel
theorem num_three : ∀ a, a < 10 → ∀ b, b < 10 → ∀ c, c < 10 → valS [UInt8.ofNat (48 + a), UInt8.ofNat (48 + b), UInt8.ofNat (48 + c)] = (100 * a + 10 * b + c : Nat) ∧ (a ≠ 0 → numS ((100 * a + 10 * b + c : Nat) : Int) = [UInt8.ofNat (48 + a), UInt8.ofNat (48 + b), UInt8.ofNat (48 + c)]) := by decide +kernel
theorem dig_of {b : UInt8} (h : digB b = true) : ∃ a, a < 10 ∧ b = UInt8.ofNat (48 + a) := by
  have h := digB_iff.1 h
  refine ⟨b.toNat - 48, by omega, ?_⟩
  rw [show 48 + (b.toNat - 48) = b.toNat by omega]
  exact (UInt8.ofNat_toNat).symm
theorem scan_num {n : Int} (h0 : 0 ≤ n) (h1 : n ≤ 999) : scanN (numS n) = n := by
  obtain ⟨m, rfl⟩ := Int.eq_ofNat_of_zero_le h0
  obtain ⟨_, _, h3, h4, h5⟩ := num_big m (by omega)
  unfold scanN
  rw [if_pos ⟨h3, h4⟩, h5]
theorem num_len {n : Int} (h0 : 0 ≤ n) (h1 : n ≤ 999) : numS n ≠ [] ∧ (numS n).length ≤ 3 ∧ (numS n).all digB = true := by
  obtain ⟨m, rfl⟩ := Int.eq_ofNat_of_zero_le h0
  obtain ⟨h1, h2, _, h4, _⟩ := num_big m (by omega)
  exact ⟨h1, h2, h4⟩
theorem num_le3 (n : Int) : (numS n).length ≤ 3 := by
  unfold numS
  split
  · simp
  · split <;> simp
/-- A text that is a number's is told by its number. -/
theorem num_scan {s : Bytes} (h : 0 ≤ scanN s) : numS (scanN s) = s ∧ scanN s ≤ 999 ∧ s.length ≤ 3 := by
  unfold scanN at *
  split at h
  · rename_i q
    rw [if_pos q]
    obtain ⟨q1, q2⟩ := q
    have q3 : ¬ s = [] ∧ s.length ≤ 3 ∧ (1 < s.length → ¬ List.getD s 0 0 = 48) := by
      unfold sizeB at q1
      simp only [Bool.not_eq_true', Bool.or_eq_false_iff, Bool.and_eq_false_iff, decide_eq_false_iff_not] at q1
      refine ⟨q1.1, by omega, fun h2 => ?_⟩
      rcases q1.2.2 with z | z
      · omega
      · exact z
    obtain ⟨q4, q5, q6⟩ := q3
    match s, q4, q5, q6, q2 with
    | [a], _, _, _, q2 =>
      simp only [List.all_cons, List.all_nil, Bool.and_true] at q2
      obtain ⟨x, hx, rfl⟩ := dig_of q2
      have := num_one x hx
      exact ⟨this.1, by rw [this.2]; omega, by simp⟩
    | [a, b], _, _, q6, q2 =>
      simp only [List.all_cons, List.all_nil, Bool.and_true, Bool.and_eq_true] at q2
      obtain ⟨x, hx, rfl⟩ := dig_of q2.1
      obtain ⟨y, hy, rfl⟩ := dig_of q2.2
      have := num_two x hx y hy
      rw [this.1]
      refine ⟨this.2 fun e => q6 (by simp) (by subst e; rfl), by omega, by simp⟩
    | [a, b, c], _, _, q6, q2 =>
      simp only [List.all_cons, List.all_nil, Bool.and_true, Bool.and_eq_true] at q2
      obtain ⟨x, hx, rfl⟩ := dig_of q2.1
      obtain ⟨y, hy, rfl⟩ := dig_of q2.2.1
      obtain ⟨z, hz, rfl⟩ := dig_of q2.2.2
      have := num_three x hx y hy z hz
      rw [this.1]
      refine ⟨this.2 fun e => q6 (by simp) (by subst e; rfl), by omega, by simp⟩
  · omega
theorem scan_ge (s : Bytes) : -1 ≤ scanN s ∧ scanN s ≤ 999 := by
  by_cases h : 0 ≤ scanN s
  · have := num_scan h; omega
  · unfold scanN at *
    split
    · rename_i q
      rw [if_pos q] at h
      exfalso
      apply h
      have key : ∀ (l : Bytes) (n : Int), l.all digB = true → 0 ≤ n → 0 ≤ l.foldl (fun n b => 10 * n + ((b.toNat : Int) - 48)) n := by
        intro l
        induction l with
        | nil => intro n _ h; exact h
        | cons b l ih =>
          intro n ha hn
          simp only [List.all_cons, Bool.and_eq_true] at ha
          have := digB_iff.1 ha.1
          exact ih _ ha.2 (show 0 ≤ 10 * n + ((b.toNat : Int) - 48) by omega)
      exact key s 0 q.2 (by omega)
    · omega
theorem val_step (s : Bytes) (k : Nat) (h : k < s.length) : valS (List.take (k + 1) s) = 10 * valS (List.take k s) + (((List.getD s k 0).toNat : Int) - 48) := by
  rw [Lib.take_succ 0 s k h]
  unfold valS
  rw [List.foldl_append]; rfl
theorem val_rng (s : Bytes) : ∀ k, k ≤ 3 → k ≤ s.length → (List.take k s).all digB = true → 0 ≤ valS (List.take k s) ∧ valS (List.take k s) ≤ 10 ^ k - 1 := by
  intro k
  induction k with
  | zero => intro _ _ _; rw [List.take_zero]; exact ⟨Int.le_refl _, by decide⟩
  | succ k ih =>
    intro h3 hk ha
    rw [Lib.take_succ 0 s k (by omega), List.all_append, Bool.and_eq_true] at ha
    have hd := digB_iff.1 (show digB (List.getD s k 0) = true by
      have q := ha.2
      simp only [List.all_cons, List.all_nil, Bool.and_true] at q
      exact q)
    have := ih (by omega) (by omega) ha.1
    rw [val_step s k (by omega), Int.pow_succ]
    omega

/-! ### a number, laid digit by digit from behind -/
def NumAt (n m : Int) (s : Bytes) : Prop := numS n = (if m = 0 then [] else numS m) ++ s
theorem numat_step : ∀ m : Nat, m < 100 → m ≠ 0 → numS (m : Int) = (if (m : Int) / 10 = 0 then [] else numS ((m : Int) / 10)) ++ [dg ((m : Int) % 10)] := by decide +kernel
theorem numat_first : ∀ n : Nat, n < 1000 → numS (n : Int) = (if (n : Int) / 10 = 0 then [] else numS ((n : Int) / 10)) ++ [dg ((n : Int) % 10)] := by decide +kernel
theorem NumAt.first {n : Int} (h0 : 0 ≤ n) (h1 : n ≤ 999) : NumAt n (n / 10) [dg (n % 10)] := by
  obtain ⟨m, rfl⟩ := Int.eq_ofNat_of_zero_le h0
  exact numat_first m (by omega)
theorem NumAt.step {n m : Int} {s : Bytes} (h : NumAt n m s) (h0 : 0 < m) (h1 : m ≤ 99) : NumAt n (m / 10) ([dg (m % 10)] ++ s) := by
  obtain ⟨k, rfl⟩ := Int.eq_ofNat_of_zero_le (Int.le_of_lt h0)
  unfold NumAt at *
  rw [h, if_neg (by omega), numat_step k (by omega) (by omega), List.append_assoc]
theorem NumAt.last {n m : Int} {s : Bytes} (h : NumAt n m s) (h0 : ¬ 0 < m) (h1 : 0 ≤ m) : s = numS n := by
  unfold NumAt at h
  rw [h, if_pos (by omega)]; rfl

/-! ### digits of bytes -/
def hexD : Bytes := [48, 49, 50, 51, 52, 53, 54, 55, 56, 57, 97, 98, 99, 100, 101, 102]
def hexB (b : UInt8) : Bytes := [List.getD hexD (b.toNat / 16) 0, List.getD hexD (b.toNat % 16) 0]
def hexS (s : Bytes) : Bytes := s.flatMap hexB
def isH (b : UInt8) : Bool := (decide (48 ≤ b.toNat) && decide (b.toNat ≤ 57)) || (decide (97 ≤ b.toNat) && decide (b.toNat ≤ 102))
def digV (b : UInt8) : Int := if 48 ≤ b.toNat ∧ b.toNat ≤ 57 then (b.toNat : Int) - 48 else if 97 ≤ b.toNat ∧ b.toNat ≤ 102 then (b.toNat : Int) - 97 + 10 else -1
def pairB (a b : UInt8) : UInt8 := UInt8.ofNat (16 * digV a + digV b).toNat
def unpairs : Bytes → Bytes
  | a :: b :: r => pairB a b :: unpairs r
  | _ => []
def unhexS (s : Bytes) : Bytes × Bool := if s.length % 2 = 0 ∧ s.all isH = true then (unpairs s, true) else ([], false)
theorem dig_is (b : UInt8) : isH b = true ↔ 0 ≤ digV b := by
  unfold isH digV
  simp only [Bool.or_eq_true, Bool.and_eq_true, decide_eq_true_eq]
  constructor
  · rintro (h | h)
    · rw [if_pos h]; omega
    · split
      · omega
      · first
        | omega
        | (rw [if_pos h]; omega)
  · intro h
    split at h
    · rename_i q; exact .inl q
    · split at h
      · rename_i q; exact .inr q
      · omega
theorem dig_rng (b : UInt8) : -1 ≤ digV b ∧ digV b ≤ 15 := by
  unfold digV
  split
  · omega
  · split <;> omega
theorem hex_len (s : Bytes) : (hexS s).length = 2 * s.length := by
  induction s with
  | nil => rfl
  | cons b s ih => unfold hexS at *; rw [List.flatMap_cons, List.length_append, ih]; simp only [hexB, List.length_cons, List.length_nil]; omega
theorem hex_step (s : Bytes) (k : Nat) (h : k < s.length) : hexS (List.take k s) ++ hexB (List.getD s k 0) = hexS (List.take (k + 1) s) := by
  rw [Lib.take_succ 0 s k h]
  unfold hexS
  rw [List.flatMap_append, List.flatMap_cons, List.flatMap_nil, List.append_nil]
theorem hex_pair : ∀ n, n < 256 → pairB (List.getD hexD (n / 16) 0) (List.getD hexD (n % 16) 0) = UInt8.ofNat n ∧ isH (List.getD hexD (n / 16) 0) = true ∧ isH (List.getD hexD (n % 16) 0) = true := by decide +kernel
theorem hex_all (s : Bytes) : (hexS s).all isH = true := by
  induction s with
  | nil => rfl
  | cons b s ih =>
    unfold hexS at *
    have := hex_pair b.toNat b.toNat_lt
    rw [List.flatMap_cons, List.all_append, ih]
    simp only [hexB, List.all_cons, List.all_nil, this.2.1, this.2.2, Bool.and_true]
theorem un_hex (s : Bytes) : unpairs (hexS s) = s := by
  induction s with
  | nil => rfl
  | cons b s ih =>
    have := (hex_pair b.toNat b.toNat_lt).1
    show pairB (List.getD hexD (b.toNat / 16) 0) (List.getD hexD (b.toNat % 16) 0) :: unpairs (hexS s) = b :: s
    rw [ih, this, UInt8.ofNat_toNat]
theorem unhex_hex (s : Bytes) : unhexS (hexS s) = (s, true) := by
  unfold unhexS
  rw [if_pos ⟨by rw [hex_len]; omega, hex_all s⟩, un_hex]
theorem pair_hex : ∀ a, a < 256 → isH (UInt8.ofNat a) = true → ∀ b, b < 256 → isH (UInt8.ofNat b) = true → hexB (pairB (UInt8.ofNat a) (UInt8.ofNat b)) = [UInt8.ofNat a, UInt8.ofNat b] := by
  have key : ∀ a ∈ hexD, ∀ b ∈ hexD, hexB (pairB a b) = [a, b] := by decide +kernel
  have mem : ∀ a, a < 256 → isH (UInt8.ofNat a) = true → UInt8.ofNat a ∈ hexD := by decide +kernel
  intro a ha h b hb h2
  exact key _ (mem a ha h) _ (mem b hb h2)
theorem hex_un : ∀ (n : Nat) (s : Bytes), s.length = 2 * n → s.all isH = true → hexS (unpairs s) = s
  | 0, s, h, _ => by rw [List.eq_nil_of_length_eq_zero (by omega : s.length = 0)]; rfl
  | n + 1, a :: b :: r, h, ha => by
    simp only [List.all_cons, Bool.and_eq_true] at ha
    have h1 := hex_un n r (by simp only [List.length_cons] at h; omega) ha.2.2
    have h2 := pair_hex a.toNat a.toNat_lt (by rw [UInt8.ofNat_toNat]; exact ha.1) b.toNat b.toNat_lt (by rw [UInt8.ofNat_toNat]; exact ha.2.1)
    rw [UInt8.ofNat_toNat, UInt8.ofNat_toNat] at h2
    show hexB (pairB a b) ++ hexS (unpairs r) = _
    rw [h1, h2]; rfl
  | n + 1, [], h, _ => by simp at h
  | n + 1, [a], h, _ => by simp only [List.length_cons, List.length_nil] at h; omega
/-- Digits that are some bytes' tell them, and are told by them. -/
theorem hex_unhex {s : Bytes} (h : (unhexS s).2 = true) : hexS (unhexS s).1 = s := by
  unfold unhexS at *
  split at h
  · rename_i q
    rw [if_pos q]
    exact hex_un (s.length / 2) s (by omega) q.2
  · cases h
theorem un_len : ∀ (s : Bytes), (unpairs s).length ≤ s.length
  | [] => Nat.le_refl _
  | [a] => Nat.zero_le _
  | a :: b :: r => by
    have := un_len r
    show (pairB a b :: unpairs r).length ≤ _
    simp only [List.length_cons]; omega
theorem unhex_len (s : Bytes) : (unhexS s).1.length ≤ s.length := by
  unfold unhexS
  split
  · exact un_len s
  · exact Nat.zero_le _
theorem un_step : ∀ (k : Nat) (s : Bytes), 2 * k + 1 < s.length → unpairs (List.take (2 * k) s) ++ [pairB (List.getD s (2 * k) 0) (List.getD s (2 * k + 1) 0)] = unpairs (List.take (2 * (k + 1)) s)
  | 0, a :: b :: r, _ => rfl
  | k + 1, a :: b :: r, h => by
    have ih := un_step k r (by simp only [List.length_cons] at h; omega)
    rw [show 2 * (k + 1) = 2 * k + 2 by omega, show 2 * (k + 1 + 1) = 2 * (k + 1) + 2 by omega]
    show pairB a b :: unpairs (List.take (2 * k) r) ++ [pairB (List.getD r (2 * k) 0) (List.getD r (2 * k + 1) 0)] = pairB a b :: unpairs (List.take (2 * (k + 1)) r)
    rw [← ih]; rfl
  | _, [], h => by simp at h
  | _, [a], h => by simp only [List.length_cons, List.length_nil] at h; omega
def HexTo (s : Bytes) (k : Nat) : Prop := (List.take (2 * k) s).all isH = true
theorem hexto_step {s : Bytes} {k : Nat} (h : 2 * k + 1 < s.length) (hN : HexTo s k) (h1 : ¬ digV (List.getD s (2 * k) 0) < 0) (h2 : ¬ digV (List.getD s (2 * k + 1) 0) < 0) : HexTo s (k + 1) := by
  unfold HexTo at *
  rw [show 2 * (k + 1) = 2 * k + 1 + 1 by omega, Lib.take_succ 0 s _ (by omega), Lib.take_succ 0 s _ (by omega), List.all_append, List.all_append, hN]
  simp only [List.all_cons, List.all_nil, Bool.and_true, Bool.true_and, Bool.and_eq_true]
  exact ⟨(dig_is _).2 (by omega), (dig_is _).2 (by omega)⟩
theorem unhex_bad {s : Bytes} {k : Nat} (h : k < s.length) (h1 : digV (List.getD s k 0) < 0) : unhexS s = ([], false) := by
  refine if_neg fun q => ?_
  have := (dig_is _).1 (List.all_eq_true.1 q.2 _ (Lib.getD_mem 0 s k h))
  omega
theorem unhex_odd {s : Bytes} (h : ¬ s.length % 2 = 0) : unhexS s = ([], false) := if_neg fun q => h q.1
theorem unhex_end {s : Bytes} {k : Nat} (h : s.length = 2 * k) (hN : HexTo s k) : unhexS s = (unpairs (List.take (2 * k) s), true) := by
  unfold HexTo at hN
  rw [List.take_of_length_le (by omega)] at *
  exact if_pos ⟨by omega, hN⟩
/-- The reference: what it makes of any pairs. -/
def pairR (a b : UInt8) : Int := (16 : Int) * (if 97 ≤ a.toNat then (a.toNat : Int) - 87 else (a.toNat : Int) - 48) + (if 97 ≤ b.toNat then (b.toNat : Int) - 87 else (b.toNat : Int) - 48)
theorem ref_unhex {s t : Bytes} (h : s.length % 2 = 0 → s.all isH = true → t = unpairs s) : unhexS s = if ¬ hexS t = s then ([], false) else (t, true) := by
  by_cases q : s.length % 2 = 0 ∧ s.all isH = true
  · have e := h q.1 q.2
    have h1 : (unhexS s).2 = true := by unfold unhexS; rw [if_pos q]
    have h2 := hex_unhex h1
    have h3 : unhexS s = (unpairs s, true) := if_pos q
    rw [h3] at h2 ⊢
    rw [if_neg (by rw [e]; exact fun z => z h2), e]
  · have h3 : unhexS s = ([], false) := if_neg q
    rw [h3, if_pos]
    intro e
    refine q ⟨?_, ?_⟩
    · rw [← e, hex_len]; omega
    · rw [← e]; exact hex_all t
end AL.Ask
