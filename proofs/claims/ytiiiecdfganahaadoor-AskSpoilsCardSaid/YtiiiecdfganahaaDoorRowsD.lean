/- rows: what its functions compute, in plain Lean. No condition. -/
import Derived.Test.YtiiiecdfganahaaDoorRouteD
namespace AL.Rows
open Go AL
set_option linter.unusedVariables false
set_option linter.unusedSimpArgs false

/-! ### bytes -/
def b8 (n : Int) : UInt8 := UInt8.ofNat n.toNat
theorem b8_nat {n : Int} (h : 0 ≤ n) (h2 : n < 256) : ((b8 n).toNat : Int) = n := by
  unfold b8
  rw [UInt8.toNat_ofNat']
  omega
theorem b8_byte (b : UInt8) : b8 (b.toNat : Int) = b := by
  unfold b8
  rw [Int.toNat_natCast]
  exact UInt8.ofNat_toNat
theorem wrap8 {n : Int} (h : 0 ≤ n) (h2 : n < 256) : IntKind.wrap .u8 n = ((b8 n).toNat : Int) := by
  rw [b8_nat h h2]
  simp [IntKind.wrap, IntKind.signed, IntKind.bits]
  omega
theorem two_u8 {x y : UInt8} {A B : Int} (hA : A = (x.toNat : Int)) (hB : B = (y.toNat : Int)) : flat 1 rowU8 [x, y] = [AC.s (u8 A), AC.s (u8 B)] := by subst hA; subst hB; rfl
theorem four_u8 {x y z v : UInt8} {A B C D : Int} (hA : A = (x.toNat : Int)) (hB : B = (y.toNat : Int)) (hC : C = (z.toNat : Int)) (hD : D = (v.toNat : Int)) : flat 1 rowU8 [x, y, z, v] = [AC.s (u8 A), AC.s (u8 B), AC.s (u8 C), AC.s (u8 D)] := by
  subst hA; subst hB; subst hC; subst hD; rfl

/-! ### names -/
def nameB (b : UInt8) : Bool := (decide (97 ≤ b.toNat) && decide (b.toNat ≤ 122)) || (decide (48 ≤ b.toNat) && decide (b.toNat ≤ 57))
theorem nameB_iff {b : UInt8} : nameB b = true ↔ (97 ≤ b.toNat ∧ b.toNat ≤ 122) ∨ (48 ≤ b.toNat ∧ b.toNat ≤ 57) := by
  unfold nameB
  simp only [Bool.or_eq_true, Bool.and_eq_true, decide_eq_true_eq]
def namedS (s : Bytes) : Bool := decide (1 ≤ s.length) && (decide (s.length ≤ 8) && s.all nameB)
theorem named_size {s : Bytes} (h : s = [] ∨ 8 < s.length) : namedS s = false := by
  unfold namedS
  rcases h with h | h
  · subst h; rfl
  · rw [decide_eq_false (p := s.length ≤ 8) (by omega)]; simp
/-- What is left of a name from a place on. -/
def LeftNm (s : Bytes) (pos : Nat) : Prop := s.all nameB = (List.drop pos s).all nameB
theorem nm_0 (s : Bytes) : LeftNm s 0 := by unfold LeftNm; rw [List.drop_zero]
theorem nm_byte {s : Bytes} {pos : Nat} (h : pos < s.length) (hN : LeftNm s pos) (hb : nameB (List.getD s pos 0) = true) : LeftNm s (pos + 1) := by
  unfold LeftNm at *
  rw [hN, Lib.drop_cons 0 s pos h, List.all_cons, hb, Bool.true_and]
theorem nm_not {s : Bytes} {pos : Nat} (h : pos < s.length) (hb : nameB (List.getD s pos 0) = false) : namedS s = false := by
  unfold namedS
  have : s.all nameB = false := by
    rw [List.all_eq_false]
    exact ⟨_, Lib.getD_mem 0 s pos h, by rw [hb]; decide⟩
  rw [this]; simp
theorem nm_end {s : Bytes} {pos : Nat} (h : s.length ≤ pos) (hN : LeftNm s pos) (h1 : ¬ s = []) (h2 : ¬ 8 < s.length) : namedS s = true := by
  unfold LeftNm at hN
  rw [List.drop_of_length_le h] at hN
  unfold namedS
  have hl := List.length_pos_iff.2 h1
  rw [hN, decide_eq_true (by omega), decide_eq_true (by omega)]
  rfl
theorem dec_low {s : Bytes} {pos : Nat} (h : pos < s.length) (hb : (List.getD s pos 0).toNat < 128) : decS s pos = ((List.getD s pos 0).toNat, 1) := by
  rw [Rune.dec_N]
  unfold Go.Lib.decodeN
  rw [if_pos hb]
theorem dec_high {s : Bytes} {pos : Nat} (h : pos < s.length) (hb : ¬ (List.getD s pos 0).toNat < 128) : 128 ≤ (decS s pos).1 := by
  rw [Rune.dec_N]
  have q0 := Rune.byte_lt s pos
  unfold Go.Lib.decodeN
  rw [if_neg hb]
  repeat' split
  all_goals (simp only []; omega)
theorem nm_step {s : Bytes} {pos : Nat} (h : pos < s.length) (hN : LeftNm s pos) (hc : ¬ ((((decS s pos).1 : Int) < 97 ∨ 122 < ((decS s pos).1 : Int)) ∧ (((decS s pos).1 : Int) < 48 ∨ 57 < ((decS s pos).1 : Int)))) : LeftNm s (pos + (decS s pos).2) := by
  by_cases hb : (List.getD s pos 0).toNat < 128
  · rw [dec_low h hb] at hc ⊢
    refine nm_byte h hN (nameB_iff.2 ?_)
    simp only [] at hc
    omega
  · have := dec_high h hb
    omega
theorem nm_bad {s : Bytes} {pos : Nat} (h : pos < s.length) (hc : (((decS s pos).1 : Int) < 97 ∨ 122 < ((decS s pos).1 : Int)) ∧ (((decS s pos).1 : Int) < 48 ∨ 57 < ((decS s pos).1 : Int))) : namedS s = false := by
  refine nm_not h ?_
  rw [Bool.eq_false_iff]
  intro hb
  have hb := nameB_iff.1 hb
  rw [dec_low h (by omega)] at hc
  simp only [] at hc
  omega

/-! ### keys -/
abbrev KeyV := Int × Bytes × Int
def rowK (k : KeyV) (i : Nat) : SC := match i with | 0 => u8 k.1 | 1 => st k.2.1 | _ => i6 k.2.2
abbrev slK (l : List KeyV) : SC := .sl 3 KeyV (0, [], 0) rowK l
def MayK (k : KeyV) : Prop :=
  (k.1 = 1 ∧ Route.checkS k.2.1 = 0 ∧ k.2.2 = 0) ∨ (k.1 = 2 ∧ Route.checkS k.2.1 = 0 ∧ 1 ≤ k.2.2 ∧ k.2.2 ≤ 30) ∨ (k.1 = 3 ∧ namedS k.2.1 = true ∧ k.2.2 = 0) ∨ ((k.1 = 4 ∨ k.1 = 5) ∧ k.2.1 = [] ∧ k.2.2 = 0)
instance (k : KeyV) : Decidable (MayK k) := inferInstanceAs (Decidable (_ ∨ _))
def checkK (k : KeyV) : Int := if k.1 < 1 ∨ 5 < k.1 then 22 else if MayK k then 0 else 2
theorem check_kind {k : KeyV} (h : k.1 < 1 ∨ 5 < k.1) : checkK k = 22 := if_pos h
theorem check_ok {k : KeyV} (h : MayK k) : checkK k = 0 := by
  unfold checkK
  rw [if_neg (by unfold MayK at h; omega), if_pos h]
theorem check_no {k : KeyV} (h : ¬ (k.1 < 1 ∨ 5 < k.1)) (h2 : ¬ MayK k) : checkK k = 2 := by
  unfold checkK
  rw [if_neg h, if_neg h2]
theorem check_may {k : KeyV} : checkK k = 0 ↔ MayK k := by
  refine ⟨fun h => ?_, check_ok⟩
  unfold checkK at h
  split at h
  · omega
  · split at h
    · assumption
    · omega
theorem check_nil : Route.checkS [] = 4 := by decide +kernel
end AL.Rows
