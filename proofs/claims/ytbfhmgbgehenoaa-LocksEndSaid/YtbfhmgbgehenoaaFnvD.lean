/- fnv: what its functions compute, in plain Lean. No condition. -/
import Derived.Test.YtbfhmgbgehenoaaALe
namespace AL.Fnv
open Go AL
set_option linter.unusedVariables false
set_option linter.unusedSimpArgs false

def addS (sum b : Int) : Int := IntKind.u64.wrap (IntKind.u64.wrap (BitVec.ofInt 64 sum ^^^ BitVec.ofInt 64 b).toNat * 1099511628211)
def undoS (sum b : Int) : Int := IntKind.u64.wrap (BitVec.ofInt 64 (IntKind.u64.wrap (sum * 14886173955864302971)) ^^^ BitVec.ofInt 64 b).toNat
def sumS (h : Int) : Bytes → Int
  | [] => h
  | b :: l => sumS (addS h b.toNat) l
def start : Int := 14695981039346656037
theorem sumS_append (h : Int) (a b : Bytes) : sumS h (a ++ b) = sumS (sumS h a) b := by
  induction a generalizing h with
  | nil => rfl
  | cons x a ih => exact ih _
theorem take_succ {α : Type} (d : α) (l : List α) (k : Nat) (h : k < l.length) : List.take (k + 1) l = List.take k l ++ [List.getD l k d] := by
  rw [List.take_succ_eq_append_getElem h]; simp [List.getD, List.getElem?_eq_getElem h]
theorem sumS_step (h : Int) (t : Bytes) (k : Nat) (hk : k < t.length) : addS (sumS h (List.take k t)) ((List.getD t k 0).toNat : Int) = sumS h (List.take (k + 1) t) := by
  rw [take_succ 0 t k hk, sumS_append]; rfl
theorem wrap64 (n : Int) : 0 ≤ IntKind.u64.wrap n ∧ IntKind.u64.wrap n < 18446744073709551616 := by
  have : IntKind.u64.wrap n = n % 18446744073709551616 := by
    simp [IntKind.wrap, IntKind.signed, IntKind.bits]
  omega
theorem sumS_range (h : Int) (h0 : 0 ≤ h ∧ h < 18446744073709551616) (t : Bytes) : 0 ≤ sumS h t ∧ sumS h t < 18446744073709551616 := by
  induction t generalizing h with
  | nil => exact h0
  | cons b l ih => exact ih _ (wrap64 _)

/-- Both halves of a sum, one over the other. -/
def xr (u : Int) : Int := ((u.toNat / 4294967296) ^^^ (u.toNat % 4294967296) : Nat)
theorem xr_range (u : Int) (h : 0 ≤ u ∧ u < 18446744073709551616) : 0 ≤ xr u ∧ xr u < 4294967296 := by
  obtain ⟨n, rfl⟩ : ∃ n : Nat, u = n := ⟨u.toNat, by omega⟩
  unfold xr
  refine ⟨by omega, ?_⟩
  have : (n / 4294967296) ^^^ (n % 4294967296) < 2 ^ 32 := Nat.xor_lt_two_pow (by omega) (by omega)
  simp only [Int.toNat_natCast]
  omega
theorem wrap32_nat (n : Nat) : IntKind.u32.wrap (n : Int) = ((n % 4294967296 : Nat) : Int) := by
  simp [IntKind.wrap, IntKind.signed, IntKind.bits]
theorem wrap64_nat (n : Nat) : IntKind.u64.wrap (n : Int) = ((n % 18446744073709551616 : Nat) : Int) := by
  simp [IntKind.wrap, IntKind.signed, IntKind.bits]
theorem xr_a (u : Int) (h : 0 ≤ u ∧ u < 18446744073709551616) :
    IntKind.u32.wrap ((BitVec.ofInt 32 (IntKind.u32.wrap (Int.fdiv u (2 ^ (min (32 : Int).toNat (IntKind.bits .u64))))) ^^^ BitVec.ofInt 32 (IntKind.u32.wrap u)).toNat) = xr u := by
  obtain ⟨n, rfl⟩ : ∃ n : Nat, u = n := ⟨u.toNat, by omega⟩
  have e : Int.fdiv (n : Int) (2 ^ (min (32 : Int).toNat (IntKind.bits .u64))) = ((n / 4294967296 : Nat) : Int) := by
    rw [show (2 : Int) ^ (min (32 : Int).toNat (IntKind.bits .u64)) = ((4294967296 : Nat) : Int) by decide +kernel]
    rw [Int.fdiv_eq_ediv_of_nonneg _ (by omega)]
    rfl
  have q : ∀ m : Nat, m < 4294967296 → (BitVec.ofInt 32 (m : Int)).toNat = m := fun m hm => by
    rw [BitVec.ofInt_natCast, BitVec.toNat_ofNat]; exact Nat.mod_eq_of_lt hm
  have h1 : n / 4294967296 < 4294967296 := by omega
  have h2 : n % 4294967296 < 4294967296 := by omega
  rw [e, wrap32_nat (n / 4294967296), wrap32_nat n, BitVec.toNat_xor, Nat.mod_eq_of_lt h1, q _ h1, q _ h2, wrap32_nat]
  unfold xr
  rw [Int.toNat_natCast]
  congr 1
  exact Nat.mod_eq_of_lt (Nat.xor_lt_two_pow (n := 32) h1 h2)
theorem xr_b (u : Int) (h : 0 ≤ u ∧ u < 18446744073709551616) :
    IntKind.u64.wrap ((BitVec.ofInt 64 (IntKind.u64.wrap (Int.tdiv u 4294967296)) ^^^ BitVec.ofInt 64 (Int.tmod u 4294967296)).toNat) = xr u := by
  obtain ⟨n, rfl⟩ : ∃ n : Nat, u = n := ⟨u.toNat, by omega⟩
  have e1 : Int.tdiv (n : Int) 4294967296 = ((n / 4294967296 : Nat) : Int) := rfl
  have e2 : Int.tmod (n : Int) 4294967296 = ((n % 4294967296 : Nat) : Int) := rfl
  have q : ∀ m : Nat, m < 4294967296 → (BitVec.ofInt 64 (m : Int)).toNat = m := fun m hm => by
    rw [BitVec.ofInt_natCast, BitVec.toNat_ofNat]; exact Nat.mod_eq_of_lt (by omega)
  have h1 : n / 4294967296 < 4294967296 := by omega
  have h2 : n % 4294967296 < 4294967296 := by omega
  rw [e1, e2, wrap64_nat (n / 4294967296), Nat.mod_eq_of_lt (show n / 4294967296 < 18446744073709551616 by omega), BitVec.toNat_xor, q _ h1, q _ h2, wrap64_nat]
  unfold xr
  rw [Int.toNat_natCast]
  congr 1
  have := Nat.xor_lt_two_pow (n := 32) h1 h2
  exact Nat.mod_eq_of_lt (by omega)

def mayS (n : Int) : Bool := decide (1 ≤ n) && decide (n ≤ 8)
theorem may_t {n : Int} (h : mayS n = true) : 1 ≤ n ∧ n ≤ 8 := by simpa [mayS] using h
def shardS (t : Bytes) (n : Int) : Int := if mayS n then Int.tmod (xr (sumS start t)) n else 0
theorem start_range : 0 ≤ start ∧ start < 18446744073709551616 := by unfold start; omega
theorem shard_a (t : Bytes) (n : Int) (h : mayS n = true) :
    Int.tmod (IntKind.u32.wrap ((BitVec.ofInt 32 (IntKind.u32.wrap (Int.fdiv (sumS start t) (2 ^ (min (32 : Int).toNat (IntKind.bits .u64))))) ^^^ BitVec.ofInt 32 (IntKind.u32.wrap (sumS start t))).toNat)) n = shardS t n := by
  rw [xr_a _ (sumS_range _ start_range t)]; unfold shardS; rw [if_pos h]
theorem shard_b (t : Bytes) (n : Int) (h : 1 ≤ n ∧ n ≤ 8) :
    Int.tmod (IntKind.u64.wrap ((BitVec.ofInt 64 (IntKind.u64.wrap (Int.tdiv (sumS start t) 4294967296)) ^^^ BitVec.ofInt 64 (Int.tmod (sumS start t) 4294967296)).toNat)) (IntKind.u64.wrap n) = shardS t n := by
  rw [xr_b _ (sumS_range _ start_range t)]
  have : IntKind.u64.wrap n = n := by
    obtain ⟨m, rfl⟩ : ∃ m : Nat, n = m := ⟨n.toNat, by omega⟩
    rw [wrap64_nat]; congr 1; omega
  rw [this]; unfold shardS; rw [if_pos (by simp [mayS]; omega)]
theorem shard_0 (t : Bytes) (n : Int) (h : mayS n = false) : shardS t n = 0 := by unfold shardS; rw [h]; rfl
theorem shard_lt (t : Bytes) (n : Int) (h : 1 ≤ n ∧ n ≤ 8) : 0 ≤ shardS t n ∧ shardS t n < n := by
  unfold shardS
  rw [if_pos (by simp [mayS]; omega)]
  have := xr_range _ (sumS_range _ start_range t)
  exact ⟨Int.tmod_nonneg _ this.1, Int.tmod_lt_of_pos _ (by omega)⟩

def rowI (n : Int) (_ : Nat) : SC := i6 n
def rowB (b : Bool) (_ : Nat) : SC := bo b
def rowS (s : Bytes) (_ : Nat) : SC := st s
abbrev slI (l : List Int) : SC := .sl 1 Int 0 rowI l
abbrev slS (l : List Bytes) : SC := .sl 1 Bytes [] rowS l
def ints (n : Nat) : List Int := (List.range n).map fun (i : Nat) => (i : Int)
def allS (n : Int) : List Int := if mayS n then ints n.toNat else []
theorem ints_length (n : Nat) : (ints n).length = n := by simp [ints]
theorem ints_succ (n : Nat) : ints (n + 1) = ints n ++ [(n : Int)] := by simp [ints, List.range_succ]
theorem ints_set (n k : Nat) (h : k < n) : List.set (ints k ++ List.replicate (n - k) 0) k (k : Int) = ints (k + 1) ++ List.replicate (n - (k + 1)) 0 := by
  rw [List.set_append_right _ _ (by rw [ints_length]; omega), ints_length, Nat.sub_self, ints_succ, List.append_assoc]
  congr 1
  obtain ⟨m, hm⟩ : ∃ m, n - k = m + 1 := ⟨n - k - 1, by omega⟩
  rw [hm, show n - (k + 1) = m by omega]
  rfl

/-- Which shards are marked. -/
def markS (n : Int) (l : List Bytes) : List Bool := l.foldl (fun m s => m.set (shardS s n).toNat true) (List.replicate 8 false)
def outS (m : List Bool) (k : Nat) : List Int := ((List.range k).filter fun i => m.getD i false).map fun (i : Nat) => (i : Int)
def shardsS (n : Int) (l : List Bytes) : List Int := if mayS n then outS (markS n l) 8 else []
theorem mark_step (n : Int) (l : List Bytes) (k : Nat) (hk : k < l.length) : List.set (markS n (List.take k l)) (shardS (List.getD l k []) n).toNat true = markS n (List.take (k + 1) l) := by
  rw [take_succ [] l k hk]; unfold markS; rw [List.foldl_append]; rfl
theorem fold_len (n : Int) (l : List Bytes) (m : List Bool) : (l.foldl (fun m s => m.set (shardS s n).toNat true) m).length = m.length := by
  induction l generalizing m with
  | nil => rfl
  | cons s l ih => rw [List.foldl_cons, ih, List.length_set]
theorem mark_len (n : Int) (l : List Bytes) : (markS n l).length = 8 := by unfold markS; rw [fold_len]; rfl
theorem out_step_t (m : List Bool) (k : Nat) (h : m.getD k false = true) : outS m k ++ [(k : Int)] = outS m (k + 1) := by
  rw [List.getD_eq_getElem?_getD] at h; unfold outS; rw [List.range_succ, List.filter_append, List.map_append]; congr 1; simp [h]
theorem out_step_f (m : List Bool) (k : Nat) (h : m.getD k false = false) : outS m k = outS m (k + 1) := by
  rw [List.getD_eq_getElem?_getD] at h; unfold outS; rw [List.range_succ, List.filter_append, List.map_append]; simp [h]
theorem out_len (m : List Bool) (k : Nat) : (outS m k).length ≤ k := by
  unfold outS; rw [List.length_map]; exact Nat.le_trans (List.length_filter_le _ _) (by simp)
theorem fold_get (n : Int) (l : List Bytes) (j : Nat) (m : List Bool) (hj : j < m.length) : (l.foldl (fun m s => m.set (shardS s n).toNat true) m).getD j false = (m.getD j false || l.any fun s => decide ((shardS s n).toNat = j)) := by
  induction l generalizing m with
  | nil => simp
  | cons s l ih =>
    rw [List.foldl_cons, ih _ (by simpa using hj), List.any_cons, ← Bool.or_assoc]
    congr 1
    simp only [List.getD_eq_getElem?_getD, List.getElem?_set]
    by_cases h : (shardS s n).toNat = j
    · rw [if_pos h, if_pos (by omega)]; simp [h]
    · rw [if_neg h]; simp [h]
theorem mark_get (n : Int) (l : List Bytes) (j : Nat) (hj : j < 8) : (markS n l).getD j false = l.any fun s => decide ((shardS s n).toNat = j) := by
  unfold markS; rw [fold_get _ _ _ _ (by simpa using hj)]
  have : (List.replicate 8 false).getD j false = false := by
    rw [List.getD_eq_getElem?_getD, List.getElem?_replicate]; split <;> rfl
  rw [this, Bool.false_or]

/-- The numbers below k that are some text's shard. -/
def isS (n : Int) (l : List Bytes) (j : Int) : Bool := l.any fun s => decide (shardS s n = j)
def refS (n : Int) (l : List Bytes) (k : Nat) : List Int := ((List.range k).filter fun (i : Nat) => isS n l i).map fun (i : Nat) => (i : Int)
theorem ref_step_t (n : Int) (l : List Bytes) (k : Nat) (h : isS n l k = true) : refS n l k ++ [(k : Int)] = refS n l (k + 1) := by
  unfold refS; rw [List.range_succ, List.filter_append, List.map_append]; congr 1; simp [h]
theorem ref_step_f (n : Int) (l : List Bytes) (k : Nat) (h : isS n l k = false) : refS n l k = refS n l (k + 1) := by
  unfold refS; rw [List.range_succ, List.filter_append, List.map_append]; simp [h]
theorem ref_len (n : Int) (l : List Bytes) (k : Nat) : (refS n l k).length ≤ k := by
  unfold refS; rw [List.length_map]; exact Nat.le_trans (List.length_filter_le _ _) (by simp)
theorem is_step (n : Int) (l : List Bytes) (k : Nat) (j : Int) (hk : k < l.length) : (isS n (List.take k l) j || decide (shardS (List.getD l k []) n = j)) = isS n (List.take (k + 1) l) j := by
  rw [take_succ [] l k hk]; unfold isS; rw [List.any_append]; simp
theorem ref_eq (n : Int) (l : List Bytes) (h : 1 ≤ n ∧ n ≤ 8) : refS n l n.toNat = shardsS n l := by
  unfold shardsS
  rw [if_pos (by simp [mayS]; omega)]
  have e : ∀ d, refS n l (n.toNat + d) = refS n l n.toNat := by
    intro d
    induction d with
    | zero => rfl
    | succ d ih =>
      rw [← Nat.add_assoc, ← ref_step_f n l _ ?_, ih]
      unfold isS
      rw [List.any_eq_false]
      intro s _
      have := shard_lt s n h
      simp; omega
  have e8 := e (8 - n.toNat)
  rw [show n.toNat + (8 - n.toNat) = 8 by omega] at e8
  rw [← e8]
  unfold refS outS
  congr 1
  refine List.filter_congr fun j hj => ?_
  rw [mark_get n l j (by simpa using hj)]
  unfold isS
  refine List.any_congr rfl fun s => ?_
  have := shard_lt s n h
  rw [Bool.eq_iff_iff]; simp; omega

/-- Are there too many texts, or too long ones? -/
def overS (l : List Bytes) : Int := if 40 < l.length then 1 else if l.any (fun s => decide (200 < s.length)) then 1 else 0

theorem wrap_id (n : Int) (h : 1 ≤ n ∧ n ≤ 8) : IntKind.u64.wrap n = n := by
  obtain ⟨m, rfl⟩ : ∃ m : Nat, n = m := ⟨n.toNat, by omega⟩
  rw [wrap64_nat]; congr 1; omega
theorem all_0 (n : Int) (h : mayS n = false) : allS n = [] := by unfold allS; rw [h]; rfl
theorem all_end (n : Int) (k : Nat) (h : mayS n = true) (hk : k = n.toNat) : ints k ++ List.replicate (n.toNat - k) 0 = allS n := by
  subst hk; unfold allS; rw [if_pos h, Nat.sub_self]; simp
theorem shards_0 (n : Int) (l : List Bytes) (h : mayS n = false) : shardsS n l = [] := by unfold shardsS; rw [h]; rfl
theorem shards_end (n : Int) (l : List Bytes) (i : Nat) (h : mayS n = true) (hi : i = 8) : outS (markS n l) i = shardsS n l := by subst hi; unfold shardsS; rw [if_pos h]
theorem take_same (a b : List Int) (i : Nat) (ha : i < a.length) (hb : i < b.length) (h : List.take i a = List.take i b) (he : List.getD a i 0 = List.getD b i 0) : List.take (i + 1) a = List.take (i + 1) b := by
  rw [take_succ 0 a i ha, take_succ 0 b i hb, h, he]
theorem same_end (a b : List Int) (i : Nat) (h : List.take i a = List.take i b) (ha : a.length ≤ i) (hb : b.length ≤ i) : a = b := by
  rwa [List.take_of_length_le ha, List.take_of_length_le hb] at h
theorem any_step {α : Type} (d : α) (l : List α) (p : α → Bool) (i : Nat) (hi : i < l.length) (h : (List.take i l).any p = false) (hp : p (List.getD l i d) = false) : (List.take (i + 1) l).any p = false := by
  rw [take_succ d l i hi, List.any_append, h]; simpa using hp
theorem any_f {α : Type} (d : α) (l : List α) (p : α → Bool) (i : Nat) (hi : l.length ≤ i) (h : (List.take i l).any p = false) : l.any p = false := by
  rwa [List.take_of_length_le hi] at h
theorem any_t {α : Type} (d : α) (l : List α) (p : α → Bool) (i : Nat) (hi : i < l.length) (hp : p (List.getD l i d) = true) : l.any p = true := by
  rw [List.any_eq_true]
  refine ⟨_, ?_, hp⟩
  rw [List.getD_eq_getElem?_getD, List.getElem?_eq_getElem hi]; exact List.getElem_mem hi
theorem over_step (l : List Bytes) (i : Nat) (hi : i < l.length) (h : (List.take i l).any (fun s => decide (200 < s.length)) = false) (hp : ¬ (200 : Int) < ((List.getD l i []).length : Int)) : (List.take (i + 1) l).any (fun s => decide (200 < s.length)) = false :=
  any_step [] l _ i hi h (by simp only [decide_eq_false_iff_not]; omega)
theorem over_0 (l : List Bytes) (i : Nat) (h4 : l.length ≤ 40) (hi : l.length ≤ i) (h : (List.take i l).any (fun s => decide (200 < s.length)) = false) : overS l = 0 := by
  unfold overS; rw [if_neg (by omega), any_f [] l _ i hi h]; rfl
theorem over_1 (l : List Bytes) (h4 : 40 < l.length) : overS l = 1 := by unfold overS; rw [if_pos h4]
theorem over_2 (l : List Bytes) (i : Nat) (hi : i < l.length) (hp : (200 : Int) < ((List.getD l i []).length : Int)) : overS l = 1 := by
  unfold overS
  rw [any_t [] l (fun s => decide (200 < s.length)) i hi (by simp only [decide_eq_true_eq]; omega)]
  simp
theorem all_len (n : Int) (h : 1 ≤ n ∧ n ≤ 8) : ((allS n).length : Int) = n := by
  unfold allS; rw [if_pos (by simp [mayS]; omega), ints_length]; omega
theorem all_get (n : Int) (i : Nat) (h : i < (allS n).length) : List.getD (allS n) i 0 = (i : Int) := by
  unfold allS at h ⊢
  split at h
  · rename_i hm
    rw [if_pos hm]
    rw [ints_length] at h
    rw [List.getD_eq_getElem?_getD]; simp [ints, h]
  · simp at h

/-! ### Sets of shards -/
def inS (l : List Int) (v : Int) : Bool := l.any fun x => decide (x = v)
theorem inS_iff {l : List Int} {v : Int} : inS l v = true ↔ v ∈ l := by
  unfold inS; rw [List.any_eq_true]; simp
theorem mem_shards (n : Int) (l : List Bytes) (v : Int) (h : 1 ≤ n ∧ n ≤ 8) : v ∈ shardsS n l ↔ ∃ s ∈ l, shardS s n = v := by
  rw [← ref_eq n l h]
  unfold refS isS
  simp only [List.mem_map, List.mem_filter, List.mem_range, List.any_eq_true, decide_eq_true_eq]
  constructor
  · rintro ⟨i, ⟨_, s, hs, he⟩, rfl⟩; exact ⟨s, hs, he⟩
  · rintro ⟨s, hs, rfl⟩
    have := shard_lt s n h
    exact ⟨(shardS s n).toNat, ⟨by omega, s, hs, by omega⟩, by omega⟩
theorem shards_sorted (n : Int) (l : List Bytes) (h : 1 ≤ n ∧ n ≤ 8) : (shardsS n l).Pairwise (· < ·) := by
  rw [← ref_eq n l h]
  unfold refS
  rw [List.pairwise_map]
  refine List.Pairwise.filter _ ?_
  refine List.Pairwise.imp ?_ List.pairwise_lt_range
  intro a b hab
  omega
theorem getD_mem {α : Type} (d : α) (l : List α) (i : Nat) (h : i < l.length) : List.getD l i d ∈ l := by
  rw [List.getD_eq_getElem?_getD, List.getElem?_eq_getElem h]; exact List.getElem_mem h
theorem set_facts (n : Int) (a b : List Bytes) (h : 1 ≤ n ∧ n ≤ 8) (i : Nat) (hi : i < (shardsS n (([] ++ a) ++ b)).length) :
    (0 ≤ List.getD (shardsS n (([] ++ a) ++ b)) i 0 ∧ List.getD (shardsS n (([] ++ a) ++ b)) i 0 < n) ∧
    (0 < i → List.getD (shardsS n (([] ++ a) ++ b)) ((i : Int) - 1).toNat 0 < List.getD (shardsS n (([] ++ a) ++ b)) i 0) ∧
    (inS (shardsS n a) (List.getD (shardsS n (([] ++ a) ++ b)) i 0) = true ∨ inS (shardsS n b) (List.getD (shardsS n (([] ++ a) ++ b)) i 0) = true) := by
  have hm := getD_mem 0 _ i hi
  obtain ⟨s, hs, he⟩ := (mem_shards n _ _ h).1 hm
  refine ⟨?_, fun h0 => ?_, ?_⟩
  · rw [← he]; exact shard_lt s n h
  · have hp := shards_sorted n (([] ++ a) ++ b) h
    rw [List.pairwise_iff_getElem] at hp
    have h1 : ((i : Int) - 1).toNat = i - 1 := by omega
    rw [h1, List.getD_eq_getElem?_getD, List.getD_eq_getElem?_getD, List.getElem?_eq_getElem hi, List.getElem?_eq_getElem (show i - 1 < _ by omega)]
    exact hp (i - 1) i (by omega) hi (by omega)
  · rw [List.nil_append, List.mem_append] at hs
    rcases hs with hs | hs
    · exact .inl (inS_iff.2 ((mem_shards n a _ h).2 ⟨s, hs, he⟩))
    · exact .inr (inS_iff.2 ((mem_shards n b _ h).2 ⟨s, hs, he⟩))
theorem set_a (n : Int) (a b : List Bytes) (h : 1 ≤ n ∧ n ≤ 8) (i : Nat) (hi : i < (shardsS n a).length) : inS (shardsS n (([] ++ a) ++ b)) (List.getD (shardsS n a) i 0) = true := by
  obtain ⟨s, hs, he⟩ := (mem_shards n _ _ h).1 (getD_mem 0 _ i hi)
  exact inS_iff.2 ((mem_shards n _ _ h).2 ⟨s, by simp [hs], he⟩)
theorem set_b (n : Int) (a b : List Bytes) (h : 1 ≤ n ∧ n ≤ 8) (i : Nat) (hi : i < b.length) : inS (shardsS n (([] ++ a) ++ b)) (shardS (List.getD b i []) n) = true :=
  inS_iff.2 ((mem_shards n _ _ h).2 ⟨_, by simp only [List.nil_append, List.mem_append]; exact .inr (getD_mem [] b i hi), rfl⟩)
theorem shards_len (n : Int) (l : List Bytes) : (shardsS n l).length ≤ 8 := by
  unfold shardsS
  split
  · exact out_len _ _
  · simp
theorem over_le (l : List Bytes) (h : overS l ≤ 0) : l.length ≤ 40 := by
  unfold overS at h
  by_cases h4 : 40 < l.length
  · rw [if_pos h4] at h; omega
  · omega

/-! ### Undone -/
theorem wrap_bv (x : BitVec 64) (y : Int) : IntKind.u64.wrap ((x.toNat : Int) * y) = ((x * BitVec.ofInt 64 y).toNat : Int) := by
  have e : ∀ n : Int, IntKind.u64.wrap n = ((BitVec.ofInt 64 n).toNat : Int) := fun n => by
    simp [IntKind.wrap, IntKind.signed, IntKind.bits, BitVec.toNat_ofInt]
    omega
  rw [e, BitVec.ofInt_mul, BitVec.ofInt_natCast, BitVec.ofNat_toNat, BitVec.setWidth_eq]
theorem wrap_toNat (x : BitVec 64) : IntKind.u64.wrap (x.toNat : Int) = (x.toNat : Int) := by
  rw [wrap64_nat]; have := x.isLt; congr 1; omega
theorem ofInt_toNat (x : BitVec 64) : BitVec.ofInt 64 (x.toNat : Int) = x := by
  rw [BitVec.ofInt_natCast, BitVec.ofNat_toNat, BitVec.setWidth_eq]
theorem add_bv (x b : Int) : addS x b = (((BitVec.ofInt 64 x ^^^ BitVec.ofInt 64 b) * 1099511628211#64).toNat : Int) := by
  unfold addS; rw [wrap_toNat, wrap_bv]; rfl
theorem toNat_ofInt64 (x : Int) (h : 0 ≤ x ∧ x < 18446744073709551616) : ((BitVec.ofInt 64 x).toNat : Int) = x := by
  obtain ⟨n, rfl⟩ : ∃ n : Nat, x = n := ⟨x.toNat, by omega⟩
  rw [BitVec.ofInt_natCast, BitVec.toNat_ofNat]; congr 1; omega
theorem undo_bv (x b : Int) (h : 0 ≤ x ∧ x < 18446744073709551616) : undoS x b = (((BitVec.ofInt 64 x * 14886173955864302971#64) ^^^ BitVec.ofInt 64 b).toNat : Int) := by
  unfold undoS
  rw [← toNat_ofInt64 x h, wrap_bv, wrap_toNat, ofInt_toNat, ofInt_toNat]; rfl
theorem fb : 1099511628211#64 * 14886173955864302971#64 = 1#64 := by decide
theorem bf : 14886173955864302971#64 * 1099511628211#64 = 1#64 := by decide
theorem undo_add (x b : Int) (h : 0 ≤ x ∧ x < 18446744073709551616) : undoS (addS x b) b = x := by
  have hr : 0 ≤ addS x b ∧ addS x b < 18446744073709551616 := wrap64 _
  rw [undo_bv _ _ hr, add_bv, ofInt_toNat, BitVec.mul_assoc, fb, BitVec.mul_one, BitVec.xor_assoc, BitVec.xor_self, BitVec.xor_zero, toNat_ofInt64 x h]
theorem add_undo (x b : Int) (h : 0 ≤ x ∧ x < 18446744073709551616) : addS (undoS x b) b = x := by
  rw [undo_bv _ _ h, add_bv, ofInt_toNat, BitVec.xor_assoc, BitVec.xor_self, BitVec.xor_zero, BitVec.mul_assoc, bf, BitVec.mul_one, toNat_ofInt64 x h]
theorem add_inj (x y b : Int) (hx : 0 ≤ x ∧ x < 18446744073709551616) (hy : 0 ≤ y ∧ y < 18446744073709551616) : decide (addS y b = addS x b) = decide (x = y) := by
  by_cases h : x = y
  · subst h; simp
  · rw [decide_eq_false h, decide_eq_false]
    intro e
    have := undo_add x b hx
    rw [← e, undo_add y b hy] at this
    exact h this.symm
theorem add_inj2 (x b c : Int) (hx : 0 ≤ x ∧ x < 18446744073709551616) (hb : 0 ≤ b ∧ b < 256) (hc : 0 ≤ c ∧ c < 256) : decide (addS x c = addS x b) = decide (b = c) := by
  by_cases h : b = c
  · subst h; simp
  · rw [decide_eq_false h, decide_eq_false]
    intro e
    rw [add_bv, add_bv] at e
    have e := BitVec.eq_of_toNat_eq (Int.ofNat_inj.1 e)
    have e2 := congrArg (· * 14886173955864302971#64) e
    simp only [BitVec.mul_assoc, fb, BitVec.mul_one] at e2
    have e3 := congrArg (BitVec.ofInt 64 x ^^^ ·) e2
    simp only [← BitVec.xor_assoc, BitVec.xor_self, BitVec.zero_xor] at e3
    have := congrArg (fun z => (BitVec.toNat z : Int)) e3
    rw [toNat_ofInt64 c (by omega), toNat_ofInt64 b (by omega)] at this
    exact h this.symm
end AL.Fnv
