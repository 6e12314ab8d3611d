/- ask: the reference's Unhex, in plain Lean. No condition. -/
import Derived.Test.YtiiiecdfganahaaDoorAskI
namespace AL.Ask
open Go AL
set_option linter.unusedVariables false
set_option linter.unusedSimpArgs false

def rV (b : UInt8) : Int := if 97 ≤ b.toNat then (b.toNat : Int) - 87 else (b.toNat : Int) - 48
def accR (s : Bytes) (i : Nat) : Nat → Int
  | 0 => 0
  | j + 1 => 16 * accR s i j + rV (List.getD s (i + j) 0)
theorem rV_rng (b : UInt8) : -48 ≤ rV b ∧ rV b ≤ 168 := by
  have := b.toNat_lt
  unfold rV
  split <;> omega
theorem acc_rng (s : Bytes) (i : Nat) {j : Nat} (h : j ≤ 2) : -1000 ≤ accR s i j ∧ accR s i j ≤ 3000 := by
  have h0 := rV_rng (List.getD s (i + 0) 0)
  have h1 := rV_rng (List.getD s (i + 1) 0)
  have : j = 0 ∨ j = 1 ∨ j = 2 := by omega
  rcases this with q | q | q <;> subst q <;> simp only [accR] <;> omega
theorem acc_t {s : Bytes} {i j : Nat} (h : 97 ≤ ((List.getD s (i + j) 0).toNat : Int)) : 16 * accR s i j + ((List.getD s (i + j) 0).toNat : Int) - 87 = accR s i (j + 1) := by
  show _ = 16 * accR s i j + rV (List.getD s (i + j) 0)
  unfold rV
  rw [if_pos (by omega)]; omega
theorem acc_f {s : Bytes} {i j : Nat} (h : ¬ 97 ≤ ((List.getD s (i + j) 0).toNat : Int)) : 16 * accR s i j + ((List.getD s (i + j) 0).toNat : Int) - 48 = accR s i (j + 1) := by
  show _ = 16 * accR s i j + rV (List.getD s (i + j) 0)
  unfold rV
  rw [if_neg (by omega)]; omega
def refB (s : Bytes) (k : Nat) : UInt8 := UInt8.ofNat (IntKind.wrap .u8 (accR s (2 * k) 2)).toNat
theorem one_ref (s : Bytes) (k : Nat) : flat 1 rowU8 [refB s k] = [AC.s (u8 (IntKind.wrap .u8 (accR s (2 * k) 2)))] := by
  have h : 0 ≤ IntKind.wrap .u8 (accR s (2 * k) 2) ∧ IntKind.wrap .u8 (accR s (2 * k) 2) < 256 := by
    simp [IntKind.wrap, IntKind.signed, IntKind.bits]
    omega
  have e : IntKind.wrap .u8 (accR s (2 * k) 2) = ((refB s k).toNat : Int) := by
    unfold refB
    rw [UInt8.toNat_ofNat']
    omega
  rw [e]; rfl
def refU (s : Bytes) (k : Nat) : Bytes := (List.range k).map (refB s)
theorem refU_step (s : Bytes) (k : Nat) : refU s k ++ [refB s k] = refU s (k + 1) := by unfold refU; rw [List.range_succ, List.map_append]; rfl
theorem refU_len (s : Bytes) (k : Nat) : (refU s k).length = k := by unfold refU; rw [List.length_map, List.length_range]
theorem r_dig {b : UInt8} (h : isH b = true) : rV b = digV b := by
  unfold isH at h
  simp only [Bool.or_eq_true, Bool.and_eq_true, decide_eq_true_eq] at h
  unfold rV digV
  rcases h with h | h
  · rw [if_neg (by omega), if_pos h]
  · rw [if_pos (by omega), if_neg (by omega), if_pos h]; omega
theorem ref_pair {s : Bytes} {k : Nat} (h : 2 * k + 1 < s.length) (ha : s.all isH = true) : refB s k = pairB (List.getD s (2 * k) 0) (List.getD s (2 * k + 1) 0) := by
  have h1 := List.all_eq_true.1 ha _ (Lib.getD_mem 0 s (2 * k) (by omega))
  have h2 := List.all_eq_true.1 ha _ (Lib.getD_mem 0 s (2 * k + 1) (by omega))
  have d1 := (dig_is _).1 h1
  have d2 := (dig_is _).1 h2
  have r1 := dig_rng (List.getD s (2 * k) 0)
  have r2 := dig_rng (List.getD s (2 * k + 1) 0)
  have e : accR s (2 * k) 2 = 16 * digV (List.getD s (2 * k) 0) + digV (List.getD s (2 * k + 1) 0) := by
    simp only [accR]
    rw [Nat.add_zero, r_dig h1, r_dig h2]; omega
  unfold refB pairB
  rw [e, wrap_u8 (by omega) (by omega)]
theorem ref_all {s : Bytes} (ha : s.all isH = true) : ∀ k, 2 * k ≤ s.length → refU s k = unpairs (List.take (2 * k) s)
  | 0, _ => rfl
  | k + 1, h => by
    rw [← refU_step, ref_all ha k (by omega), ref_pair (by omega) ha, un_step k s (by omega)]
theorem ref_fin {s : Bytes} {k : Nat} (h1 : 2 * k ≤ s.length) (h2 : s.length ≤ 2 * k + 1) : unhexS s = if ¬ hexS (refU s k) = s then ([], false) else (refU s k, true) :=
  ref_unhex fun he ha => by
    rw [ref_all ha k h1, List.take_of_length_le (by omega)]
end AL.Ask
