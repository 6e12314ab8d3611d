/- ask: facts of its loops, in plain Lean. No condition. -/
import Derived.Test.YtiiiecdfganahaaDoorAskH
namespace AL.Ask
open Go AL
open AL.Sep (splitC joinC)
open AL.Policy (RuleV textP parseP checkP)
open AL.Rows (namedS)
set_option linter.unusedVariables false
set_option linter.unusedSimpArgs false

theorem named_key (s : Bytes) : decide (Rows.checkK ((3, s, 0) : Rows.KeyV) = 0) = namedS s := by
  rw [Bool.eq_iff_iff, decide_eq_true_eq, Rows.check_may]
  unfold Rows.MayK
  constructor
  · rintro (h | h | h | h)
    · exact absurd (show (3 : Int) = 1 from h.1) (by decide)
    · exact absurd (show (3 : Int) = 2 from h.1) (by decide)
    · exact h.2.1
    · rcases h.1 with q | q
      · exact absurd (show (3 : Int) = 4 from q) (by decide)
      · exact absurd (show (3 : Int) = 5 from q) (by decide)
  · intro h; exact .inr (.inr (.inl ⟨rfl, h, rfl⟩))
theorem okNs_idx (l : List Int) : ((decide ((List.length l : Int) ≤ 6)) && (!decide (0 ≤ Lib.idxS (fun x : Int => !(withinI x 1 999)) l))) = okNs l := by
  unfold okNs
  have h1 : decide ((List.length l : Int) ≤ 6) = decide (l.length ≤ 6) := by rw [decide_eq_decide]; omega
  have h2 : (!decide (0 ≤ Lib.idxS (fun x : Int => !(withinI x 1 999)) l)) = l.all fun n => withinI n 1 999 := by
    rw [Bool.eq_iff_iff, Bool.not_eq_true', decide_eq_false_iff_not, List.all_eq_true]
    constructor
    · intro h x hx
      have := Lib.idx_neg (p := fun x : Int => !(withinI x 1 999)) (by omega) x hx
      simpa using this
    · intro h
      rw [Lib.idx_none fun x hx => by rw [h x hx]; rfl]; decide
  rw [h1, h2]

/-! ### numbers -/
theorem tmod_10 {n : Int} (h : 0 ≤ n) : Int.tmod n 10 = n % 10 ∧ 0 ≤ n % 10 ∧ n % 10 < 10 := ⟨Int.tmod_eq_emod_of_nonneg h, by omega, by omega⟩
theorem tdiv_10 {n : Int} (h : 0 ≤ n) : Int.tdiv n 10 = n / 10 := Int.tdiv_eq_ediv_of_nonneg h
theorem dg_at : ∀ k, k < 10 → List.getD ([48, 49, 50, 51, 52, 53, 54, 55, 56, 57, 97, 98, 99, 100, 101, 102] : List UInt8) k 0 = dg (k : Int) := by decide
theorem one_dg {n : Int} (h : 0 ≤ n) : flat 1 rowU8 [dg (n % 10)] = [AC.s (u8 ((List.getD ([48, 49, 50, 51, 52, 53, 54, 55, 56, 57, 97, 98, 99, 100, 101, 102] : List UInt8) (Int.tmod n 10).toNat 0).toNat : Int))] := by
  obtain ⟨h1, h2, h3⟩ := tmod_10 h
  rw [h1, dg_at _ (by omega), Int.toNat_of_nonneg h2]; rfl
theorem NumAt.len {n m : Int} {t : Bytes} (h : NumAt n m t) : t.length ≤ 3 := by
  have := num_le3 n
  unfold NumAt at h
  rw [h, List.length_append] at this
  omega
theorem pow_le3 {p : Nat} (h : p ≤ 3) : (10 : Int) ^ p ≤ 1000 := by
  have : p = 0 ∨ p = 1 ∨ p = 2 ∨ p = 3 := by omega
  rcases this with q | q | q | q <;> subst q <;> decide
theorem byte_dec {s : Bytes} {pos : Nat} (h : pos < s.length) (hc : 48 ≤ ((decS s pos).1 : Int) ∧ ((decS s pos).1 : Int) ≤ 57) : decS s pos = ((List.getD s pos 0).toNat, 1) ∧ digB (List.getD s pos 0) = true := by
  by_cases hb : (List.getD s pos 0).toNat < 128
  · have e := Policy.dec_low h hb
    rw [e] at hc
    simp only [] at hc
    exact ⟨e, digB_iff.2 (by omega)⟩
  · have := Policy.dec_high h hb
    omega
theorem val_dec {s : Bytes} {pos : Nat} (h : pos < s.length) (hc : 48 ≤ ((decS s pos).1 : Int) ∧ ((decS s pos).1 : Int) ≤ 57) : 10 * valS (List.take pos s) + (((decS s pos).1 : Int) - 48) = valS (List.take (pos + (decS s pos).2) s) := by
  rw [(byte_dec h hc).1]
  exact (val_step s pos h).symm
theorem dig_dec {s : Bytes} {pos : Nat} (h : pos < s.length) (hD : (List.take pos s).all digB = true) (hc : 48 ≤ ((decS s pos).1 : Int) ∧ ((decS s pos).1 : Int) ≤ 57) : (List.take (pos + (decS s pos).2) s).all digB = true := by
  obtain ⟨e, hd⟩ := byte_dec h hc
  rw [e]
  show (List.take (pos + 1) s).all digB = true
  rw [Lib.take_succ 0 s pos h, List.all_append, hD]
  simp only [List.all_cons, List.all_nil, hd, Bool.and_true]
theorem scan_size {s : Bytes} (h : (s = [] ∨ (3 : Int) < (List.length s : Int)) ∨ ((1 : Int) < (List.length s : Int) ∧ ((List.getD s 0 0).toNat : Int) = 48)) : scanN s = -1 := by
  unfold scanN
  refine if_neg fun q => ?_
  have q := q.1
  unfold sizeB at q
  simp only [Bool.not_eq_true', Bool.or_eq_false_iff, Bool.and_eq_false_iff, decide_eq_false_iff_not] at q
  rcases h with (h | h) | h
  · exact q.1 h
  · omega
  · rcases q.2.2 with z | z
    · omega
    · exact z (UInt8.toNat_inj.1 (by have : (48 : UInt8).toNat = 48 := rfl; omega))
theorem scan_not {s : Bytes} {pos : Nat} (h : pos < s.length) (hc : ((decS s pos).1 : Int) < 48 ∨ 57 < ((decS s pos).1 : Int)) : scanN s = -1 := by
  unfold scanN
  refine if_neg fun q => ?_
  have := digB_iff.1 (List.all_eq_true.1 q.2 _ (Lib.getD_mem 0 s pos h))
  rw [Policy.dec_low h (by omega)] at hc
  simp only [] at hc
  omega
theorem scan_fin {s : Bytes} {pos : Nat} (h : (¬ s = [] ∧ ¬ (3 : Int) < (List.length s : Int)) ∧ (¬ (1 : Int) < (List.length s : Int) ∨ ¬ ((List.getD s 0 0).toNat : Int) = 48)) (hp : s.length ≤ pos) (hD : (List.take pos s).all digB = true) : scanN s = valS (List.take pos s) := by
  rw [List.take_of_length_le hp] at hD ⊢
  unfold scanN
  rw [if_pos]
  refine ⟨?_, hD⟩
  unfold sizeB
  simp only [Bool.not_eq_true', Bool.or_eq_false_iff, Bool.and_eq_false_iff, decide_eq_false_iff_not]
  refine ⟨h.1.1, by omega, ?_⟩
  rcases h.2 with z | z
  · exact .inl (by omega)
  · exact .inr fun e => z (by rw [e]; rfl)
theorem nums_step (l : List Int) (k : Nat) (h : k < l.length) : List.set ((List.take k l).map numS ++ List.replicate (l.length - k) []) k (numS (List.getD l k 0)) = (List.take (k + 1) l).map numS ++ List.replicate (l.length - (k + 1)) [] := by
  have := Sep.fill_set ([] : Bytes) (l.map numS) k (by rw [List.length_map]; exact h)
  have e : List.getD (l.map numS) k [] = numS (List.getD l k 0) := by
    rw [Lib.getD_lt _ _ _ (by rw [List.length_map]; exact h), Lib.getD_lt _ _ _ h, List.getElem_map]
  rw [List.length_map, e] at this
  rw [List.map_take, List.map_take]
  exact this
theorem nums_end (l : List Int) (k : Nat) (h : l.length ≤ k) : (List.take k l).map numS ++ List.replicate (l.length - k) [] = l.map numS := by
  rw [List.take_of_length_le h, show l.length - k = 0 by omega]; simp
theorem list_len (l : List Int) : (joinC 44 (l.map numS)).length ≤ l.length * 4 := by
  have := Sep.join_max (c := 44) (n := 3) (l.map numS) (fun p hp => by
    obtain ⟨n, _, rfl⟩ := List.mem_map.1 hp
    exact num_le3 n)
  rwa [List.length_map] at this
theorem scans_step (l : List Bytes) (k : Nat) (h : k < l.length) : (List.take k l).map scanN ++ [scanN (List.getD l k [])] = (List.take (k + 1) l).map scanN := by
  rw [Lib.take_succ [] l k h, List.map_append]; rfl
theorem ns_in {l : List Int} (h : okNs l = true) : ∀ n ∈ l, 0 ≤ n ∧ n ≤ 999 := fun n hn => by
  have := (ns_mem h).2 n hn; omega

/-! ### digits -/
theorem wrap_u8 {n : Int} (h : 0 ≤ n) (h2 : n < 256) : IntKind.wrap .u8 n = n := by
  simp [IntKind.wrap, IntKind.signed, IntKind.bits]
  omega
theorem dig_1 {b : UInt8} (h : 48 ≤ (b.toNat : Int) ∧ (b.toNat : Int) ≤ 57) : digV b = (b.toNat : Int) - 48 := if_pos (by omega)
theorem dig_2 {b : UInt8} (h : 97 ≤ (b.toNat : Int) ∧ (b.toNat : Int) ≤ 102) : digV b = (b.toNat : Int) - 97 + 10 := by
  unfold digV; rw [if_neg (by omega), if_pos (by omega)]
theorem dig_3 {b : UInt8} (h : ¬ (48 ≤ (b.toNat : Int) ∧ (b.toNat : Int) ≤ 57) ∧ ¬ (97 ≤ (b.toNat : Int) ∧ (b.toNat : Int) ≤ 102)) : digV b = -1 := by
  unfold digV; rw [if_neg (by omega), if_neg (by omega)]
theorem hex_idx : ∀ n : Nat, n < 256 → (0 ≤ Int.fdiv (n : Int) (2 ^ (min (4 : Int).toNat (IntKind.bits .u8))) ∧ Int.fdiv (n : Int) (2 ^ (min (4 : Int).toNat (IntKind.bits .u8))) < 16) ∧ 0 ≤ IntKind.wrap .u8 ((BitVec.ofInt 8 (n : Int) &&& BitVec.ofInt 8 15).toNat) ∧ IntKind.wrap .u8 ((BitVec.ofInt 8 (n : Int) &&& BitVec.ofInt 8 15).toNat) < 16 := by decide +kernel
theorem hex_ix : ∀ n : Nat, n < 256 → (Int.fdiv (n : Int) (2 ^ (min (4 : Int).toNat (IntKind.bits .u8)))).toNat = n / 16 ∧ (IntKind.wrap .u8 ((BitVec.ofInt 8 (n : Int) &&& BitVec.ofInt 8 15).toNat)).toNat = n % 16 := by decide +kernel
theorem hex_two (b : UInt8) : flat 1 rowU8 (hexB b) = [AC.s (u8 ((List.getD ([48, 49, 50, 51, 52, 53, 54, 55, 56, 57, 97, 98, 99, 100, 101, 102] : List UInt8) (Int.fdiv (b.toNat : Int) (2 ^ (min (4 : Int).toNat (IntKind.bits .u8)))).toNat 0).toNat : Int)), AC.s (u8 ((List.getD ([48, 49, 50, 51, 52, 53, 54, 55, 56, 57, 97, 98, 99, 100, 101, 102] : List UInt8) (IntKind.wrap .u8 ((BitVec.ofInt 8 (b.toNat : Int) &&& BitVec.ofInt 8 15).toNat)).toNat 0).toNat : Int))] := by
  obtain ⟨h1, h2⟩ := hex_ix b.toNat b.toNat_lt
  rw [h1, h2]; rfl
theorem hex_idr : ∀ n : Nat, n < 256 → (0 ≤ IntKind.wrap .u8 (Int.tdiv (n : Int) 16) ∧ IntKind.wrap .u8 (Int.tdiv (n : Int) 16) < 16) ∧ 0 ≤ Int.tmod (n : Int) 16 ∧ Int.tmod (n : Int) 16 < 16 := by decide +kernel
theorem hex_ir : ∀ n : Nat, n < 256 → (IntKind.wrap .u8 (Int.tdiv (n : Int) 16)).toNat = n / 16 ∧ (Int.tmod (n : Int) 16).toNat = n % 16 := by decide +kernel
theorem hex_twr (b : UInt8) : flat 1 rowU8 (hexB b) = [AC.s (u8 ((List.getD ([48, 49, 50, 51, 52, 53, 54, 55, 56, 57, 97, 98, 99, 100, 101, 102] : List UInt8) (IntKind.wrap .u8 (Int.tdiv (b.toNat : Int) 16)).toNat 0).toNat : Int)), AC.s (u8 ((List.getD ([48, 49, 50, 51, 52, 53, 54, 55, 56, 57, 97, 98, 99, 100, 101, 102] : List UInt8) (Int.tmod (b.toNat : Int) 16).toNat 0).toNat : Int))] := by
  obtain ⟨h1, h2⟩ := hex_ir b.toNat b.toNat_lt
  rw [h1, h2]; rfl
theorem pair_val : ∀ x : Nat, x < 16 → ∀ y : Nat, y < 16 → IntKind.wrap .u8 (IntKind.wrap .i64 ((BitVec.ofInt 64 ((x : Int) * 2 ^ (min (4 : Int).toNat (IntKind.bits .i64))) ||| BitVec.ofInt 64 (y : Int)).toNat)) = ((UInt8.ofNat (16 * x + y)).toNat : Int) := by decide +kernel
theorem one_pair {a b : UInt8} (h1 : 0 ≤ digV a) (h2 : 0 ≤ digV b) : flat 1 rowU8 [pairB a b] = [AC.s (u8 (IntKind.wrap .u8 (IntKind.wrap .i64 ((BitVec.ofInt 64 (digV a * 2 ^ (min (4 : Int).toNat (IntKind.bits .i64))) ||| BitVec.ofInt 64 (digV b)).toNat))))] := by
  have ra := dig_rng a
  have rb := dig_rng b
  unfold pairB
  obtain ⟨x, hx⟩ := Int.eq_ofNat_of_zero_le h1
  obtain ⟨y, hy⟩ := Int.eq_ofNat_of_zero_le h2
  rw [hx, hy, pair_val x (by omega) y (by omega), show (16 * (x : Int) + (y : Int)).toNat = 16 * x + y by omega]; rfl
theorem same_eq {a b : AskV} (h : a.ns = b.ns ∧ a.rules = b.rules) : decide (a = b) = (((((((((decide (a.op = b.op)) && (decide (a.token = b.token))) && (decide (a.path = b.path))) && (decide (a.other = b.other))) && (decide (a.n = b.n))) && (decide (a.cas = b.cas))) && (a.flag == b.flag)) && (decide (a.data = b.data))) && (decide (a.key = b.key))) := by
  rw [Bool.eq_iff_iff]
  simp only [decide_eq_true_eq, Bool.and_eq_true, beq_iff_eq]
  rw [AskV.eq_iff]
  constructor
  · rintro ⟨h1, h2, h3, h4, h5, h6, h7, _, h8, _, h9⟩
    exact ⟨⟨⟨⟨⟨⟨⟨⟨h1, h2⟩, h3⟩, h4⟩, h5⟩, h6⟩, h7⟩, h8⟩, h9⟩
  · rintro ⟨⟨⟨⟨⟨⟨⟨⟨h1, h2⟩, h3⟩, h4⟩, h5⟩, h6⟩, h7⟩, h8⟩, h9⟩
    exact ⟨h1, h2, h3, h4, h5, h6, h7, h.1, h8, h.2, h9⟩
theorem tmod_2 (n : Nat) : Int.tmod (n : Int) 2 = ((n % 2 : Nat) : Int) := by rw [Int.tmod_eq_emod_of_nonneg (by omega)]; omega
theorem tdiv_2 (n : Nat) : Int.tdiv (n : Int) 2 = ((n / 2 : Nat) : Int) := by rw [Int.tdiv_eq_ediv_of_nonneg (by omega)]; omega
theorem key16 (k : Bytes) : decide ((List.length k : Int) = 16) = decide (k.length = 16) := by rw [decide_eq_decide]; omega
end AL.Ask
