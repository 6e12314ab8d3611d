/- policy: what its functions compute, in plain Lean. No condition. -/
import Derived.Test.YtiiiecdfganahaaDoorRouteD
import Derived.Test.YtiiiecdfganahaaDoorSepD
namespace AL.Policy
open Go AL AL.Rune
open AL.Sep (splitC joinC cutAt)
set_option linter.unusedVariables false
set_option linter.unusedSimpArgs false

abbrev RuleV := Bytes × Int
def rowP (x : RuleV) (i : Nat) : SC := match i with | 0 => st x.1 | _ => u8 x.2
abbrev slP (l : List RuleV) : SC := .sl 2 RuleV ([], 0) rowP l
def rowPs (l : List RuleV) (_ : Nat) : SC := .sl 2 RuleV ([], 0) rowP l
abbrev slPs (l : List (List RuleV)) : SC := .sl 1 (List RuleV) [] rowPs l

/-! ### may rules be -/
def prefS (l : List RuleV) : List Bytes := l.map (·.1)
def thereS (ahead : List RuleV) (p : Bytes) : Bool := ahead.any fun y => decide (y.1 = p)
def oneC (ahead : List RuleV) (x : RuleV) : Int :=
  if ¬ x.1 = [] ∧ ¬ Route.checkS x.1 = 0 then Route.checkS x.1 else if 63 < x.2 then 2 else if thereS ahead x.1 = true then 20 else 0
def chkC : List RuleV → List RuleV → Int
  | _, [] => 0
  | ahead, x :: l => if oneC ahead x = 0 then chkC (ahead ++ [x]) l else oneC ahead x
def checkP (l : List RuleV) : Int := if 4 < l.length then 24 else chkC [] l
def ChkAt (l : List RuleV) (k : Nat) : Prop := chkC [] l = chkC (List.take k l) (List.drop k l)
theorem chk_0 (l : List RuleV) : ChkAt l 0 := by unfold ChkAt; rw [List.take_zero, List.drop_zero]
theorem chk_step {l : List RuleV} {k : Nat} (h : k < l.length) (hN : ChkAt l k) (h0 : oneC (List.take k l) (List.getD l k ([], 0)) = 0) : ChkAt l (k + 1) := by
  unfold ChkAt at *
  rw [hN, Lib.drop_cons ([], 0) l k h]
  show (if oneC _ _ = 0 then _ else _) = _
  rw [if_pos h0, ← Lib.take_succ ([], 0) l k h]
theorem chk_bad {l : List RuleV} {k : Nat} (h : k < l.length) (hl : ¬ 4 < l.length) (hN : ChkAt l k) (h0 : ¬ oneC (List.take k l) (List.getD l k ([], 0)) = 0) : checkP l = oneC (List.take k l) (List.getD l k ([], 0)) := by
  unfold ChkAt at hN
  unfold checkP
  rw [if_neg hl, hN, Lib.drop_cons ([], 0) l k h]
  show (if oneC _ _ = 0 then _ else _) = _
  rw [if_neg h0]
theorem chk_end {l : List RuleV} {k : Nat} (h : l.length ≤ k) (hl : ¬ 4 < l.length) (hN : ChkAt l k) : checkP l = 0 := by
  unfold ChkAt at hN
  unfold checkP
  rw [if_neg hl, hN, List.drop_of_length_le h]
  rfl
theorem chk_many {l : List RuleV} (h : 4 < l.length) : checkP l = 24 := if_pos h
theorem there_step {l : List RuleV} {p : Bytes} {j : Nat} (h : j < l.length) (hN : thereS (List.take j l) p = false) (h2 : ¬ (List.getD l j ([], 0)).1 = p) : thereS (List.take (j + 1) l) p = false := by
  unfold thereS at *
  rw [Lib.take_succ ([], 0) l j h, List.any_append, hN]
  simp only [List.any_cons, List.any_nil, Bool.or_false, Bool.false_or, decide_eq_false_iff_not]
  exact h2
theorem there_hit {l : List RuleV} {p : Bytes} {j k : Nat} (h : j < k) (hk : k < l.length) (h2 : (List.getD l j ([], 0)).1 = p) : thereS (List.take k l) p = true := by
  unfold thereS
  rw [List.any_eq_true]
  refine ⟨List.getD l j ([], 0), ?_, decide_eq_true h2⟩
  rw [Lib.getD_lt _ _ _ (by omega), List.mem_take_iff_getElem]
  exact ⟨j, by omega, rfl⟩
theorem there_idx (l : List RuleV) (p : Bytes) : decide (0 ≤ Lib.idxS (fun y : RuleV => decide (y.1 = p)) l) = thereS l p := by
  unfold thereS
  rw [Bool.eq_iff_iff, decide_eq_true_eq, List.any_eq_true]
  constructor
  · intro h
    obtain ⟨h1, _⟩ := Lib.idx_pos (([], 0) : RuleV) h
    exact ⟨_, Lib.getD_mem ([], 0) l _ (by have := Lib.idx_lt (fun y : RuleV => decide (y.1 = p)) l; omega), h1⟩
  · rintro ⟨x, hx, hp⟩
    by_cases h : 0 ≤ Lib.idxS (fun y : RuleV => decide (y.1 = p)) l
    · exact h
    · have h2 := Lib.idx_neg (p := fun y : RuleV => decide (y.1 = p)) (by omega) x hx
      exact absurd (h2.symm.trans hp) (by decide)
def OkP (x : RuleV) : Prop := (x.1 = [] ∨ Route.checkS x.1 = 0) ∧ x.2 ≤ 63
theorem one_ok {ahead : List RuleV} {x : RuleV} : oneC ahead x = 0 ↔ OkP x ∧ ∀ y ∈ ahead, ¬ y.1 = x.1 := by
  have ht : thereS ahead x.1 = true ↔ ∃ y ∈ ahead, y.1 = x.1 := by
    unfold thereS
    rw [List.any_eq_true]
    simp only [decide_eq_true_eq]
  unfold oneC OkP
  constructor
  · intro h
    split at h
    · rename_i q; exact absurd h q.2
    · rename_i q
      split at h
      · omega
      · split at h
        · omega
        · rename_i q2 q3
          refine ⟨⟨?_, by omega⟩, fun y hy e => q3 (ht.2 ⟨y, hy, e⟩)⟩
          apply Classical.byContradiction
          intro hn
          rw [not_or] at hn
          exact q hn
  · rintro ⟨⟨h1, h2⟩, h3⟩
    rw [if_neg (by rintro ⟨a, b⟩; rcases h1 with h1 | h1; exact a h1; exact b h1), if_neg (by omega), if_neg]
    intro q
    obtain ⟨y, hy, e⟩ := ht.1 q
    exact h3 y hy e
def MayP (l : List RuleV) : Prop := l.length ≤ 4 ∧ (∀ x ∈ l, OkP x) ∧ (prefS l).Nodup
theorem chk_may : ∀ (l ahead : List RuleV), chkC ahead l = 0 ↔ (∀ x ∈ l, OkP x) ∧ (prefS l).Nodup ∧ ∀ x ∈ l, ∀ y ∈ ahead, ¬ y.1 = x.1 := by
  intro l
  induction l with
  | nil => intro ahead; simp [chkC, prefS]
  | cons x l ih =>
    intro ahead
    have e : chkC ahead (x :: l) = if oneC ahead x = 0 then chkC (ahead ++ [x]) l else oneC ahead x := rfl
    have hp : (prefS (x :: l)).Nodup ↔ (∀ y ∈ l, ¬ x.1 = y.1) ∧ (prefS l).Nodup := by
      unfold prefS
      rw [List.map_cons, List.nodup_cons]
      simp only [List.mem_map, not_exists, not_and]
      exact ⟨fun h => ⟨fun y hy e => h.1 y hy e.symm, h.2⟩, fun h => ⟨fun y hy e => h.1 y hy e.symm, h.2⟩⟩
    rw [e, hp]
    by_cases h0 : oneC ahead x = 0
    · rw [if_pos h0, ih]
      have h1 := one_ok.1 h0
      constructor
      · rintro ⟨a, b, c⟩
        refine ⟨fun y hy => ?_, ⟨fun y hy => c y hy x (by simp), b⟩, fun y hy z hz => ?_⟩
        · rcases List.mem_cons.1 hy with rfl | hy
          · exact h1.1
          · exact a y hy
        · rcases List.mem_cons.1 hy with rfl | hy
          · exact h1.2 z hz
          · exact c y hy z (List.mem_append_left _ hz)
      · rintro ⟨a, ⟨b1, b2⟩, c⟩
        refine ⟨fun y hy => a y (List.mem_cons_of_mem _ hy), b2, fun y hy z hz => ?_⟩
        rcases List.mem_append.1 hz with hz | hz
        · exact c y (List.mem_cons_of_mem _ hy) z hz
        · rw [List.mem_singleton.1 hz]; exact b1 y hy
    · rw [if_neg h0]
      refine ⟨fun h => absurd h h0, fun h => absurd (one_ok.2 ⟨h.1 x (by simp), fun y hy => h.2.2 x (by simp) y hy⟩) h0⟩
theorem check_may {l : List RuleV} : checkP l = 0 ↔ MayP l := by
  unfold checkP MayP
  by_cases h : 4 < l.length
  · rw [if_pos h]; omega
  · rw [if_neg h, chk_may]
    constructor
    · rintro ⟨a, b, c⟩; exact ⟨by omega, a, b⟩
    · rintro ⟨a, b, c⟩; exact ⟨b, c, fun x _ y hy => by cases hy⟩
theorem may_perm {a b : List RuleV} (h : a.Perm b) (ha : MayP a) : MayP b :=
  ⟨by rw [← h.length_eq]; exact ha.1, fun x hx => ha.2.1 x (h.mem_iff.2 hx), (h.map (fun x : RuleV => x.1)).nodup_iff.1 ha.2.2⟩

/-! ### what rules tell of a path -/
theorem pref_getD (l : List RuleV) (k : Nat) : List.getD (prefS l) k [] = (List.getD l k ([], 0)).1 := by
  unfold prefS
  rw [List.getD_eq_getElem?_getD, List.getD_eq_getElem?_getD, List.getElem?_map]
  cases l[k]? <;> rfl
theorem pref_len (l : List RuleV) : (prefS l).length = l.length := List.length_map _
theorem pref_step (l : List RuleV) (k : Nat) (h : k < l.length) : List.set (prefS (List.take k l) ++ List.replicate (l.length - k) []) k (List.getD l k ([], 0)).1 = prefS (List.take (k + 1) l) ++ List.replicate (l.length - (k + 1)) [] := by
  have := Sep.fill_set ([] : Bytes) (prefS l) k (by rw [pref_len]; exact h)
  rw [pref_len, pref_getD] at this
  unfold prefS at *
  rw [List.map_take, List.map_take]
  exact this
theorem pref_end (l : List RuleV) (k : Nat) (h : l.length ≤ k) : prefS (List.take k l) ++ List.replicate (l.length - k) [] = prefS l := by
  rw [List.take_of_length_le h, show l.length - k = 0 by omega]; simp
/-! ### bits -/
def hasB (all some : Int) : Bool := decide (BitVec.ofInt 8 some &&& ~~~(BitVec.ofInt 8 all) = 0#8)
theorem has_iff {all some : Int} : hasB all some = true ↔ ∀ i, i < 8 → (BitVec.ofInt 8 some).getLsbD i = true → (BitVec.ofInt 8 all).getLsbD i = true := by
  unfold hasB
  rw [decide_eq_true_eq]
  constructor
  · intro h i hi h1
    have h2 := congrArg (fun v => BitVec.getLsbD v i) h
    simp only [BitVec.getLsbD_and, BitVec.getLsbD_not, BitVec.getLsbD_zero, h1, Bool.true_and, decide_eq_true hi] at h2
    simpa using h2
  · intro h
    refine BitVec.eq_of_getLsbD_eq fun i hi => ?_
    rw [BitVec.getLsbD_and, BitVec.getLsbD_not, BitVec.getLsbD_zero, decide_eq_true hi, Bool.true_and]
    cases h1 : (BitVec.ofInt 8 some).getLsbD i with
    | false => rfl
    | true => rw [h i hi h1]; rfl
theorem has_refl (a : Int) : hasB a a = true := has_iff.2 fun _ _ h => h
theorem has_trans {a b c : Int} (h1 : hasB b a = true) (h2 : hasB c b = true) : hasB c a = true :=
  has_iff.2 fun i hi h => has_iff.1 h2 i hi (has_iff.1 h1 i hi h)
theorem has_zero (a : Int) : hasB a 0 = true := has_iff.2 fun i hi h => by simp at h
theorem wrap_byte {n : Nat} (h : n < 256) : IntKind.wrap .u8 (n : Int) = (n : Int) := by
  simp [IntKind.wrap, IntKind.signed, IntKind.bits]
  omega
theorem has_val (all some : Int) : decide (IntKind.wrap .u8 ((BitVec.ofInt 8 some &&& ~~~(BitVec.ofInt 8 all)).toNat : Int) = 0) = hasB all some := by
  unfold hasB
  rw [decide_eq_decide, wrap_byte (BitVec.ofInt 8 some &&& ~~~(BitVec.ofInt 8 all)).isLt]
  constructor
  · intro h
    exact BitVec.eq_of_toNat_eq (by rw [show (0#8).toNat = 0 from rfl]; omega)
  · intro h; rw [h]; rfl
def bitN (n : Int) (i : Nat) : Bool := decide (n / 2 ^ i % 2 = 1)
theorem bit_val {n : Int} (h0 : 0 ≤ n) (h1 : n < 256) {i : Nat} (hi : i < 8) : (BitVec.ofInt 8 n).getLsbD i = bitN n i := by
  obtain ⟨m, rfl⟩ := Int.eq_ofNat_of_zero_le h0
  have hm : m < 256 := by omega
  have key : ∀ m : Nat, m < 256 → ∀ i : Nat, i < 8 → (BitVec.ofInt 8 (m : Int)).getLsbD i = bitN (m : Int) i := by decide +kernel
  exact key m hm i hi
theorem has_bits {all some : Int} (h0 : 0 ≤ all ∧ all < 256) (h1 : 0 ≤ some ∧ some < 256) : hasB all some = true ↔ ∀ i, i < 8 → bitN some i = true → bitN all i = true := by
  rw [has_iff]
  constructor
  · intro h i hi q
    have := h i hi (by rw [bit_val h1.1 h1.2 hi]; exact q)
    rwa [bit_val h0.1 h0.2 hi] at this
  · intro h i hi q
    rw [bit_val h1.1 h1.2 hi] at q
    rw [bit_val h0.1 h0.2 hi]
    exact h i hi q
/-- What is left of a number, when so many bits were looked at. -/
def shrN (n : Int) (i : Nat) : Int := n / 2 ^ i
theorem shr_0 (n : Int) : shrN n 0 = n := by unfold shrN; simp
theorem shr_rng {n : Int} (h0 : 0 ≤ n) (h1 : n < 256) (i : Nat) : 0 ≤ shrN n i ∧ shrN n i < 256 := by
  unfold shrN
  refine ⟨Int.ediv_nonneg h0 (Int.pow_nonneg (by decide)), ?_⟩
  exact Int.lt_of_le_of_lt (Int.ediv_le_self _ h0) h1
theorem shr_step {n : Int} (h0 : 0 ≤ n) (h1 : n < 256) (i : Nat) : IntKind.wrap .u8 (Int.tdiv (shrN n i) 2) = shrN n (i + 1) := by
  have hr := shr_rng h0 h1 i
  have e : Int.tdiv (shrN n i) 2 = shrN n (i + 1) := by
    rw [Int.tdiv_eq_ediv_of_nonneg hr.1]
    unfold shrN
    rw [Int.pow_succ, Int.ediv_ediv_of_nonneg (Int.pow_nonneg (by decide))]
  rw [e]
  have hr2 := shr_rng h0 h1 (i + 1)
  simp [IntKind.wrap, IntKind.signed, IntKind.bits]
  omega
theorem shr_bit {n : Int} (h0 : 0 ≤ n) (h1 : n < 256) (i : Nat) : Int.tmod (shrN n i) 2 = 1 ↔ bitN n i = true := by
  have hr := shr_rng h0 h1 i
  unfold bitN
  rw [decide_eq_true_eq, Int.tmod_eq_emod_of_nonneg hr.1]
  exact Iff.rfl
theorem shr_not {n : Int} (h0 : 0 ≤ n) (h1 : n < 256) (i : Nat) : Int.tmod (shrN n i) 2 = 0 ↔ bitN n i = false := by
  have hr := shr_rng h0 h1 i
  unfold bitN
  rw [decide_eq_false_iff_not, Int.tmod_eq_emod_of_nonneg hr.1]
  unfold shrN
  omega

/-! ### letters -/
def lets : Bytes := [114, 119, 100, 120, 108, 115]
def laysN (n : Nat) : Bytes := (List.range 6).flatMap fun i => if n / 2 ^ i % 2 = 1 then [List.getD lets i 0] else []
def layS (n : Int) : Bytes := laysN n.toNat
def layK (n : Int) (k : Nat) : Bytes := (List.range k).flatMap fun i => if bitN n i = true then [List.getD lets i 0] else []
theorem lay_6 {n : Int} (h0 : 0 ≤ n) : layK n 6 = layS n := by
  obtain ⟨m, rfl⟩ := Int.eq_ofNat_of_zero_le h0
  unfold layK layS laysN
  rw [Int.toNat_natCast]
  have e : (fun i => if bitN (m : Int) i = true then [List.getD lets i 0] else []) = fun i => if m / 2 ^ i % 2 = 1 then [List.getD lets i 0] else [] := by
    funext i
    have : bitN (m : Int) i = true ↔ m / 2 ^ i % 2 = 1 := by
      unfold bitN
      rw [decide_eq_true_eq]
      have e2 : ((m : Int) / 2 ^ i % 2) = ((m / 2 ^ i % 2 : Nat) : Int) := by
        rw [Int.natCast_emod, Int.natCast_ediv, Int.natCast_pow]; rfl
      rw [e2]; omega
    by_cases q : m / 2 ^ i % 2 = 1
    · rw [if_pos q, if_pos (this.2 q)]
    · rw [if_neg q, if_neg (fun z => q (this.1 z))]
  rw [e]
theorem lay_t {n : Int} {k : Nat} (h : bitN n k = true) : layK n (k + 1) = layK n k ++ [List.getD lets k 0] := by
  unfold layK
  rw [List.range_succ, List.flatMap_append, List.flatMap_cons, List.flatMap_nil, if_pos h, List.append_nil]
theorem lay_f {n : Int} {k : Nat} (h : bitN n k = false) : layK n (k + 1) = layK n k := by
  unfold layK
  rw [List.range_succ, List.flatMap_append, List.flatMap_cons, List.flatMap_nil, if_neg (by rw [h]; decide), List.append_nil, List.append_nil]
theorem lay_len (n : Int) : ∀ k, (layK n k).length ≤ k := by
  intro k
  induction k with
  | zero => simp [layK]
  | succ k ih =>
    cases h : bitN n k with
    | true => rw [lay_t h, List.length_append]; simp only [List.length_cons, List.length_nil]; omega
    | false => rw [lay_f h]; omega
theorem lay_one (i : Nat) (h : i < 6) : List.drop i (List.take (i + 1) lets) = [List.getD lets i 0] := by
  have : ∀ i, i < 6 → List.drop i (List.take (i + 1) lets) = [List.getD lets i 0] := by decide
  exact this i h
theorem layS_len (n : Int) : (layS n).length ≤ 6 := by
  have := lay_len (n.toNat : Int) 6
  rw [lay_6 (by omega)] at this
  unfold layS at *
  rwa [Int.toNat_natCast] at this
def pieceS (x : RuleV) : Bytes := (x.1 ++ [58]) ++ layS x.2
def textOf (l : List RuleV) : Bytes := joinC 44 (l.map pieceS)
def textP (l : List RuleV) : Bytes × Int := if checkP l = 0 then (textOf l, 0) else ([], checkP l)
theorem text_ok {l : List RuleV} (h : checkP l = 0) : textP l = (textOf l, 0) := if_pos h
theorem text_no {l : List RuleV} (h : ¬ checkP l = 0) : textP l = ([], checkP l) := if_neg h
theorem text_may {l : List RuleV} (h : (textP l).2 = 0) : checkP l = 0 := by
  apply Classical.byContradiction
  intro hn
  rw [text_no hn] at h
  exact hn h
theorem piece_getD (l : List RuleV) (k : Nat) (h : k < l.length) : List.getD (l.map pieceS) k [] = pieceS (List.getD l k ([], 0)) := by
  rw [Lib.getD_lt _ _ _ (by rw [List.length_map]; exact h), Lib.getD_lt _ _ _ h, List.getElem_map]
theorem piece_step (l : List RuleV) (k : Nat) (h : k < l.length) : List.set ((List.take k l).map pieceS ++ List.replicate (l.length - k) []) k (pieceS (List.getD l k ([], 0))) = (List.take (k + 1) l).map pieceS ++ List.replicate (l.length - (k + 1)) [] := by
  have := Sep.fill_set ([] : Bytes) (l.map pieceS) k (by rw [List.length_map]; exact h)
  rw [List.length_map, piece_getD l k h] at this
  rw [List.map_take, List.map_take]
  exact this
theorem piece_end (l : List RuleV) (k : Nat) (h : l.length ≤ k) : (List.take k l).map pieceS ++ List.replicate (l.length - k) [] = l.map pieceS := by
  rw [List.take_of_length_le h, show l.length - k = 0 by omega]; simp
theorem text_len {l : List RuleV} {n : Nat} (h : ∀ x ∈ l, x.1.length ≤ n) : (textOf l).length ≤ l.length * (n + 8) := by
  have := Sep.join_max (c := 44) (n := n + 7) (l.map pieceS) (fun p hp => by
    obtain ⟨x, hx, rfl⟩ := List.mem_map.1 hp
    have h1 := h x hx
    have h2 := layS_len x.2
    unfold pieceS
    simp only [List.length_append, List.length_cons, List.length_nil]
    omega)
  rw [List.length_map] at this
  exact this
theorem text_0 (l : List RuleV) : textOf (List.take 0 l) = [] := rfl
theorem text_first (l : List RuleV) (h : 0 < l.length) : pieceS (List.getD l 0 ([], 0)) = textOf (List.take 1 l) := by
  rw [Lib.take_succ ([], 0) l 0 h]; rfl
theorem text_step (l : List RuleV) (k : Nat) (h : k < l.length) (h0 : 0 < k) : (textOf (List.take k l) ++ [44]) ++ pieceS (List.getD l k ([], 0)) = textOf (List.take (k + 1) l) := by
  unfold textOf
  rw [Lib.take_succ ([], 0) l k h, List.map_append, List.map_cons, List.map_nil, Sep.join_snoc _ _ _ (by
    intro e
    have := congrArg List.length e
    rw [List.length_map, List.length_take, List.length_nil] at this
    omega), List.append_assoc]
  rfl

/-! ### letters, read -/
def atN (out : Nat) : Nat := if out = 0 then 0 else Nat.log2 out + 1
theorem caps_grow : ∀ out, out < 64 → ∀ j, j < 6 → atN out ≤ j → out + 2 ^ j < 64 ∧ laysN (out + 2 ^ j) = laysN out ++ [List.getD lets j 0] ∧ atN (out + 2 ^ j) = j + 1 ∧
    IntKind.wrap .u8 (((BitVec.ofInt 8 (out : Int) ||| BitVec.ofInt 8 (IntKind.wrap .u8 ((1 : Int) * 2 ^ (min (j : Int).toNat (IntKind.bits .u8))))).toNat : Int)) = ((out + 2 ^ j : Nat) : Int) := by decide +kernel
theorem caps_fail : ∀ n, n < 64 → ∀ out, out < 64 → List.isPrefixOf (laysN out) (laysN n) = true → laysN out = laysN n ∨ ∃ j, j < 6 ∧ (atN out ≤ j ∧ List.getD lets j 0 = List.getD (laysN n) (laysN out).length 0) := by decide +kernel
theorem lays_inj : ∀ n, n < 64 → ∀ m, m < 64 → laysN n = laysN m → n = m := by decide +kernel
theorem at_le : ∀ out, out < 64 → atN out ≤ 6 := by decide +kernel
theorem lets_low : ∀ j, j < 6 → (List.getD lets j 0).toNat < 128 ∧ List.getD lets j 0 ≠ 44 ∧ List.getD lets j 0 ≠ 58 ∧ List.getD lets j 0 ≠ 32 := by decide
theorem lays_mem {n : Nat} {b : UInt8} (h : b ∈ laysN n) : ∃ j, j < 6 ∧ b = List.getD lets j 0 := by
  unfold laysN at h
  obtain ⟨j, hj, hb⟩ := List.mem_flatMap.1 h
  refine ⟨j, List.mem_range.1 hj, ?_⟩
  split at hb
  · exact List.mem_singleton.1 hb
  · cases hb
def capsN (r : Bytes) : Option Nat := (List.range 64).find? fun n => decide (laysN n = r)
def capsR (r : Bytes) : Int × Bool := match capsN r with
  | some n => ((n : Int), true)
  | none => (0, false)
theorem capsN_some {r : Bytes} {n : Nat} (h : capsN r = some n) : n < 64 ∧ laysN n = r := by
  unfold capsN at h
  have h1 := List.find?_some h
  have h2 := List.mem_of_find?_eq_some h
  exact ⟨List.mem_range.1 h2, of_decide_eq_true h1⟩
theorem capsR_ok {n : Nat} {r : Bytes} (h : n < 64) (e : laysN n = r) : capsR r = ((n : Int), true) := by
  unfold capsR
  cases hc : capsN r with
  | none =>
    exfalso
    unfold capsN at hc
    rw [List.find?_eq_none] at hc
    exact hc n (List.mem_range.2 h) (decide_eq_true e)
  | some m =>
    obtain ⟨h1, h2⟩ := capsN_some hc
    rw [lays_inj n h m h1 (e.trans h2.symm)]
theorem capsR_no {r : Bytes} (h : ∀ n, n < 64 → laysN n ≠ r) : capsR r = (0, false) := by
  unfold capsR
  cases hc : capsN r with
  | none => rfl
  | some m => obtain ⟨h1, h2⟩ := capsN_some hc; exact absurd h2 (h m h1)
theorem capsR_yes {r : Bytes} (h : (capsR r).2 = true) : ∃ n, n < 64 ∧ laysN n = r ∧ capsR r = ((n : Int), true) := by
  unfold capsR at h
  cases hc : capsN r with
  | none => rw [hc] at h; cases h
  | some m => obtain ⟨h1, h2⟩ := capsN_some hc; exact ⟨m, h1, h2, capsR_ok h1 h2⟩
theorem dec_low {s : Bytes} {pos : Nat} (h : pos < s.length) (hb : (List.getD s pos 0).toNat < 128) : decS s pos = ((List.getD s pos 0).toNat, 1) := by
  rw [Rune.dec_N]
  unfold Go.Lib.decodeN
  rw [if_pos hb]
theorem dec_high {s : Bytes} {pos : Nat} (h : pos < s.length) (hb : ¬ (List.getD s pos 0).toNat < 128) : 128 ≤ (decS s pos).1 := by
  rw [Rune.dec_N]
  have q0 := Rune.byte_lt s pos
  unfold Go.Lib.decodeN
  rw [if_neg hb]
  repeat' split
  all_goals (simp only []; omega)
/-- The letters met so far are those of a number; those ahead of a place are none of the next one. -/
theorem caps_stop {s : Bytes} {pos out : Nat} (ho : out < 64) (hs : laysN out = List.take pos s) (h : pos < s.length) (hN : ∀ m, atN out ≤ m → m < 6 → ¬ (List.getD lets m 0).toNat = (decS s pos).1) : capsR s = (0, false) := by
  refine capsR_no fun n hn e => ?_
  have hp : List.isPrefixOf (laysN out) (laysN n) = true := by
    rw [e, hs, List.isPrefixOf_iff_prefix]; exact List.take_prefix _ _
  have hl : (laysN out).length = pos := by rw [hs, List.length_take]; omega
  rcases caps_fail n hn out ho hp with q | ⟨j, h1, h2, h3⟩
  · rw [e] at q
    rw [q] at hl; omega
  · rw [e, hl] at h3
    have hlow := (lets_low j h1).1
    refine hN j h2 h1 ?_
    rw [dec_low h (by rw [← h3]; exact hlow), h3]
theorem caps_next {s : Bytes} {pos out j : Nat} (ho : out < 64) (hs : laysN out = List.take pos s) (h : pos < s.length) (hj : j < 6) (ha : atN out ≤ j) (hc : (List.getD lets j 0).toNat = (decS s pos).1) : out + 2 ^ j < 64 ∧ laysN (out + 2 ^ j) = List.take (pos + (decS s pos).2) s ∧ atN (out + 2 ^ j) = j + 1 := by
  obtain ⟨g1, g2, g3, _⟩ := caps_grow out ho j hj ha
  refine ⟨g1, ?_, g3⟩
  have hlow := (lets_low j hj).1
  have hb : (List.getD s pos 0).toNat < 128 := by
    apply Classical.byContradiction
    intro hn
    have := dec_high h hn
    omega
  rw [dec_low h hb] at hc ⊢
  have e : List.getD lets j 0 = List.getD s pos 0 := UInt8.toNat_inj.1 hc
  rw [g2, hs, e, Lib.take_succ 0 s pos h]
theorem caps_done {s : Bytes} {pos out : Nat} (ho : out < 64) (hs : laysN out = List.take pos s) (h : s.length ≤ pos) : capsR s = ((out : Int), true) := by
  rw [List.take_of_length_le h] at hs
  exact capsR_ok ho hs

/-! ### rules, read -/
def scanP (s : Bytes) : RuleV × Bool := if (cutAt 58 s).2.2 = true ∧ (capsR (cutAt 58 s).2.1).2 = true then (((cutAt 58 s).1, (capsR (cutAt 58 s).2.1).1), true) else (([], 0), false)
def ruled (l : List Bytes) : List RuleV := l.map fun p => (scanP p).1
def fineS (l : List Bytes) : Bool := l.all fun p => (scanP p).2
def parseP (s : Bytes) : List RuleV × Int :=
  if s = [] then ([], 0) else if fineS (splitC 44 s) = true then (if checkP (ruled (splitC 44 s)) = 0 then (ruled (splitC 44 s), 0) else ([], checkP (ruled (splitC 44 s)))) else ([], 4)
theorem scan_ok {s : Bytes} (h1 : (cutAt 58 s).2.2 = true) (h2 : (capsR (cutAt 58 s).2.1).2 = true) : scanP s = (((cutAt 58 s).1, (capsR (cutAt 58 s).2.1).1), true) := if_pos ⟨h1, h2⟩
theorem scan_no {s : Bytes} (h : ¬ ((cutAt 58 s).2.2 = true ∧ (capsR (cutAt 58 s).2.1).2 = true)) : scanP s = (([], 0), false) := if_neg h
theorem ruled_step (l : List Bytes) (k : Nat) (h : k < l.length) : ruled (List.take k l) ++ [(scanP (List.getD l k [])).1] = ruled (List.take (k + 1) l) := by
  unfold ruled
  rw [Lib.take_succ [] l k h, List.map_append]; rfl
theorem ruled_len (l : List Bytes) : (ruled l).length = l.length := List.length_map _
theorem fine_step {l : List Bytes} {k : Nat} (h : k < l.length) (hN : fineS (List.take k l) = true) (h2 : (scanP (List.getD l k [])).2 = true) : fineS (List.take (k + 1) l) = true := by
  unfold fineS at *
  rw [Lib.take_succ [] l k h, List.all_append, hN]
  simp only [List.all_cons, List.all_nil, Bool.and_true, Bool.true_and]
  exact h2
theorem fine_bad {l : List Bytes} {k : Nat} (h : k < l.length) (h2 : (scanP (List.getD l k [])).2 = false) : fineS l = false := by
  unfold fineS
  rw [List.all_eq_false]
  exact ⟨_, Lib.getD_mem [] l k h, by rw [h2]; decide⟩
theorem parse_nil : parseP [] = ([], 0) := rfl
theorem parse_bad {s : Bytes} (h0 : ¬ s = []) (h : fineS (splitC 44 s) = false) : parseP s = ([], 4) := by
  unfold parseP
  rw [if_neg h0, if_neg (by rw [h]; decide)]
theorem parse_no {s : Bytes} (h0 : ¬ s = []) (h : fineS (splitC 44 s) = true) (h2 : ¬ checkP (ruled (splitC 44 s)) = 0) : parseP s = ([], checkP (ruled (splitC 44 s))) := by
  unfold parseP
  rw [if_neg h0, if_pos h, if_neg h2]
theorem parse_ok {s : Bytes} (h0 : ¬ s = []) (h : fineS (splitC 44 s) = true) (h2 : checkP (ruled (splitC 44 s)) = 0) : parseP s = (ruled (splitC 44 s), 0) := by
  unfold parseP
  rw [if_neg h0, if_pos h, if_pos h2]

/-! ### paths have no signs -/
theorem rune_low {s : Bytes} {pos : Nat} (h : pos < s.length) (b : UInt8) (hb : b.toNat < 128) (hne : (decS s pos).1 ≠ b.toNat) : b ∉ List.take (decS s pos).2 (List.drop pos s) := by
  have hd := dec_ok h
  have key : ∀ k, (∀ j, j < k → (List.getD s (pos + j) 0).toNat ≠ b.toNat) → pos + k ≤ s.length → b ∉ List.take k (List.drop pos s) := by
    intro k hk hl hm
    obtain ⟨j, hj, e⟩ := List.mem_iff_getElem.1 hm
    rw [List.length_take, List.length_drop] at hj
    rw [List.getElem_take, List.getElem_drop] at e
    refine hk j (by omega) ?_
    rw [AL.Lib.getD_lt 0 s _ (by omega), e]
  rw [dec_N] at *
  rcases Go.Lib.decodeN_shape (s.length - pos) (List.getD s pos 0).toNat (List.getD s (pos + 1) 0).toNat (List.getD s (pos + 2) 0).toNat (List.getD s (pos + 3) 0).toNat with ⟨c, e⟩ | ⟨c1, c2, c3, cv, e⟩ | ⟨c1, c2, c3, c4, cv, cs, e⟩ | ⟨c1, c2, c3, c4, c5, cv, cw, e⟩ | e
  · rw [e] at hd hne ⊢
    refine key 1 (fun j hj => ?_) (by omega)
    have : j = 0 := by omega
    subst this; exact hne
  · rw [e] at hd ⊢
    refine key 2 (fun j hj => ?_) (by simp only [] at hd; omega)
    match j, hj with
      | 0, _ => rw [Nat.add_zero]; omega
      | 1, _ => omega
  · rw [e] at hd ⊢
    refine key 3 (fun j hj => ?_) (by simp only [] at hd; omega)
    match j, hj with
      | 0, _ => rw [Nat.add_zero]; omega
      | 1, _ => omega
      | 2, _ => omega
  · rw [e] at hd ⊢
    refine key 4 (fun j hj => ?_) (by simp only [] at hd; omega)
    match j, hj with
      | 0, _ => rw [Nat.add_zero]; omega
      | 1, _ => omega
      | 2, _ => omega
      | 3, _ => omega
  · rw [e] at hd hne ⊢
    refine key 1 (fun j hj => ?_) (by omega)
    have : j = 0 := by omega
    subst this
    rw [Nat.add_zero]
    intro e2
    have : Go.Lib.decodeN (s.length - pos) (List.getD s pos 0).toNat (List.getD s (pos + 1) 0).toNat (List.getD s (pos + 2) 0).toNat (List.getD s (pos + 3) 0).toNat = ((List.getD s pos 0).toNat, 1) := by unfold Go.Lib.decodeN; rw [if_pos (by omega)]
    rw [e] at this
    have h1 := congrArg Prod.fst this
    simp only [] at h1
    omega
theorem runes_low (b : UInt8) (hb : b.toNat < 128) : ∀ s : Bytes, b ∈ s → ∃ x ∈ runesS s, x.1 = b.toNat := by
  refine runes_ind (p := fun s => b ∈ s → ∃ x ∈ runesS s, x.1 = b.toNat) (fun h => by cases h) fun s hs ih hm => ?_
  rw [runes_cons hs]
  by_cases e : (decS s 0).1 = b.toNat
  · exact ⟨_, List.mem_cons_self .., e⟩
  · have h1 := rune_low (pos := 0) (List.length_pos_iff.2 hs) b hb e
    rw [List.drop_zero] at h1
    rw [← List.take_append_drop (decS s 0).2 s, List.mem_append] at hm
    rcases hm with hm | hm
    · exact absurd hm h1
    · obtain ⟨x, hx, e2⟩ := ih hm
      exact ⟨x, List.mem_cons_of_mem _ hx, e2⟩
theorem part_ok {s : Bytes} (h : Route.partS s = 0) (b : UInt8) (hb : b ∈ s) (hl : b.toNat < 128) : Route.runeOk (b.toNat : Int) = true := by
  have ha : (runesS s).all Route.okR = true := by
    apply Classical.byContradiction
    intro hn
    rw [Route.part_2 (by simpa using hn)] at h
    omega
  obtain ⟨x, hx, e⟩ := runes_low b hl s hb
  have := List.all_eq_true.1 ha x hx
  unfold Route.okR at this
  rwa [e] at this
theorem path_ok {s : Bytes} (h : Route.checkS s = 0) (b : UInt8) (hb : b ∈ s) (hl : b.toNat < 128) (h47 : ¬ b = 47) : Route.runeOk (b.toNat : Int) = true := by
  have hs : ¬ 64 < s.length := fun q => by rw [Route.check_big q] at h; omega
  rw [Route.check_small hs] at h
  have hp : ∀ p ∈ piecesS s, Route.partS p = 0 := by
    intro p hp
    obtain ⟨k, hk, rfl⟩ := List.mem_iff_getElem.1 hp
    unfold Route.gradedS at h
    split at h
    · omega
    · rename_i q1
      split at h
      · omega
      · rename_i q2
        have n4 : ¬ Route.partS (piecesS s)[k] = 4 := fun q => q1 (List.any_eq_true.2 ⟨_, List.getElem_mem hk, decide_eq_true q⟩)
        have n5 : ¬ Route.partS (piecesS s)[k] = 5 := fun q => q2 (List.any_eq_true.2 ⟨_, List.getElem_mem hk, decide_eq_true q⟩)
        rcases Route.part_val (piecesS s)[k] with q | q | q
        · exact q
        · exact absurd q n4
        · exact absurd q n5
  have hm : ∃ p ∈ piecesS s, b ∈ p := by
    have key : ∀ (l : List Bytes), b ∈ joinS l → ∃ p ∈ l, b ∈ p := by
      intro l
      induction l with
      | nil => intro h; cases h
      | cons p l ih =>
        intro hm
        cases l with
        | nil => exact ⟨p, by simp, hm⟩
        | cons q l =>
          have hm : b ∈ p ++ 47 :: joinS (q :: l) := hm
          rcases List.mem_append.1 hm with hm | hm
          · exact ⟨p, by simp, hm⟩
          · rcases List.mem_cons.1 hm with hm | hm
            · exact absurd hm h47
            · obtain ⟨r, hr, e⟩ := ih hm
              exact ⟨r, List.mem_cons_of_mem _ hr, e⟩
    exact key _ (by rw [join_pieces]; exact hb)
  obtain ⟨p, hp1, hp2⟩ := hm
  exact part_ok (hp p hp1) b hp2 hl
theorem path_no {s : Bytes} (h : s = [] ∨ Route.checkS s = 0) : (44 : UInt8) ∉ s ∧ (58 : UInt8) ∉ s ∧ (32 : UInt8) ∉ s := by
  rcases h with h | h
  · subst h; simp
  · refine ⟨fun q => ?_, fun q => ?_, fun q => ?_⟩
    · exact absurd (path_ok h _ q (by decide) (by decide)) (by decide)
    · exact absurd (path_ok h _ q (by decide) (by decide)) (by decide)
    · exact absurd (path_ok h _ q (by decide) (by decide)) (by decide)
theorem piece_scan {x : RuleV} (h : OkP x) (h0 : 0 ≤ x.2) : scanP (pieceS x) = (x, true) := by
  obtain ⟨m, hm⟩ := Int.eq_ofNat_of_zero_le h0
  have hm64 : m < 64 := by have := h.2; omega
  have hc : cutAt 58 (pieceS x) = (x.1, layS x.2, true) := by
    unfold pieceS
    rw [List.append_assoc]
    exact Sep.cut_app (path_no h.1).2.1
  have hr : capsR (layS x.2) = (x.2, true) := by
    unfold layS
    rw [hm, Int.toNat_natCast]
    exact capsR_ok hm64 rfl
  rw [scan_ok (by rw [hc]) (by rw [hc]; show (capsR (layS x.2)).2 = true; rw [hr]), hc]
  show ((x.1, (capsR (layS x.2)).1), true) = _
  rw [hr]
theorem piece_44 {x : RuleV} (h : OkP x) : (44 : UInt8) ∉ pieceS x := by
  unfold pieceS
  intro q
  rcases List.mem_append.1 q with q | q
  · rcases List.mem_append.1 q with q | q
    · exact (path_no h.1).1 q
    · exact absurd (List.mem_singleton.1 q) (by decide)
  · obtain ⟨j, hj, e⟩ := lays_mem q
    exact (lets_low j hj).2.1 e.symm
theorem text_split {l : List RuleV} (h : ∀ x ∈ l, OkP x) (h0 : l ≠ []) : splitC 44 (textOf l) = l.map pieceS := by
  refine Sep.split_join (fun p hp => ?_) (by simpa using h0)
  obtain ⟨x, hx, rfl⟩ := List.mem_map.1 hp
  exact piece_44 (h x hx)
theorem piece_ne (x : RuleV) : pieceS x ≠ [] := by unfold pieceS; simp
theorem text_ne {l : List RuleV} (h0 : l ≠ []) : textOf l ≠ [] := by
  cases l with
  | nil => exact absurd rfl h0
  | cons x l =>
    cases l with
    | nil => exact piece_ne x
    | cons y l => show pieceS x ++ 44 :: joinC 44 (pieceS y :: l.map pieceS) ≠ []; simp
/-- Rules that may be are told by their text. -/
theorem parse_text {l : List RuleV} (h : checkP l = 0) (h0 : ∀ x ∈ l, 0 ≤ x.2) : parseP (textOf l) = (l, 0) := by
  by_cases e : l = []
  · subst e; rfl
  · have hm := check_may.1 h
    have hs := text_split hm.2.1 e
    have hr : ruled (l.map pieceS) = l := by
      unfold ruled
      rw [List.map_map]
      conv => rhs; rw [← List.map_id l]
      refine List.map_congr_left fun x hx => ?_
      show (scanP (pieceS x)).1 = x
      rw [piece_scan (hm.2.1 x hx) (h0 x hx)]
    have hf : fineS (l.map pieceS) = true := by
      unfold fineS
      rw [List.all_eq_true]
      intro p hp
      obtain ⟨x, hx, rfl⟩ := List.mem_map.1 hp
      rw [piece_scan (hm.2.1 x hx) (h0 x hx)]
    rw [parse_ok (text_ne e) (by rw [hs]; exact hf) (by rw [hs, hr]; exact h), hs, hr]
theorem scan_piece {p : Bytes} (h : (scanP p).2 = true) : pieceS (scanP p).1 = p ∧ 0 ≤ (scanP p).1.2 := by
  unfold scanP at h
  split at h
  · rename_i q
    obtain ⟨n, h1, h2, h3⟩ := capsR_yes q.2
    rw [scan_ok q.1 q.2, h3]
    refine ⟨?_, by simp only []; omega⟩
    obtain ⟨c1, c2⟩ := Sep.cut_some q.1
    unfold pieceS layS
    simp only [Int.toNat_natCast]
    rw [h2]
    conv => rhs; rw [c1]
    rw [List.append_assoc]; rfl
  · cases h
/-- A text that is rules' is theirs again. -/
theorem text_parse {s : Bytes} (h : (parseP s).2 = 0) : textP (parseP s).1 = (s, 0) ∧ checkP (parseP s).1 = 0 ∧ ∀ x ∈ (parseP s).1, 0 ≤ x.2 := by
  by_cases e : s = []
  · subst e; rw [parse_nil]; exact ⟨rfl, rfl, fun x hx => by cases hx⟩
  · cases hf : fineS (splitC 44 s) with
    | false => rw [parse_bad e hf] at h; exact absurd h (by decide)
    | true =>
      by_cases hc : checkP (ruled (splitC 44 s)) = 0
      · rw [parse_ok e hf hc]
        have ha := List.all_eq_true.1 hf
        refine ⟨?_, hc, fun x hx => ?_⟩
        · rw [text_ok hc]
          refine Prod.ext ?_ rfl
          show textOf (ruled (splitC 44 s)) = s
          unfold textOf ruled
          rw [List.map_map]
          have : List.map (pieceS ∘ fun p => (scanP p).1) (splitC 44 s) = splitC 44 s := by
            conv => rhs; rw [← List.map_id (splitC 44 s)]
            exact List.map_congr_left fun p hp => (scan_piece (ha p hp)).1
          rw [this, Sep.join_split]
        · obtain ⟨p, hp, rfl⟩ := List.mem_map.1 hx
          exact (scan_piece (ha p hp)).2
      · rw [parse_no e hf hc] at h; exact absurd h hc
theorem text_inj {a b : List RuleV} (ha : checkP a = 0) (hb : checkP b = 0) (na : ∀ x ∈ a, 0 ≤ x.2) (nb : ∀ x ∈ b, 0 ≤ x.2) : textOf a = textOf b ↔ a = b := by
  constructor
  · intro h
    have h1 := parse_text ha na
    rw [h, parse_text hb nb] at h1
    exact (congrArg Prod.fst h1).symm
  · rintro rfl; rfl

/-! ### facts of the loops -/
theorem check_len {l : List RuleV} (h : checkP l = 0) : l.length ≤ 4 := (check_may.1 h).1
theorem ok_len {l : List RuleV} (h : checkP l = 0) : ∀ x ∈ l, x.1.length ≤ 64 := by
  intro x hx
  rcases ((check_may.1 h).2.1 x hx).1 with e | e
  · rw [e]; simp
  · apply Classical.byContradiction
    intro hn
    rw [Route.check_big (by omega)] at e
    omega
theorem ok_at {l : List RuleV} (h : checkP l = 0) {k : Nat} (hk : k < l.length) : (List.getD l k ([], 0)).1.length ≤ 64 := ok_len h _ (Lib.getD_mem ([], 0) l k hk)
theorem text_take {l : List RuleV} (h : checkP l = 0) (k : Nat) : (textOf (List.take k l)).length ≤ 1000 := by
  have h1 := text_len (l := List.take k l) (n := 64) (fun x hx => ok_len h x (List.mem_of_mem_take hx))
  have h2 := check_len h
  have h3 : (List.take k l).length ≤ 4 := by rw [List.length_take]; omega
  have : (List.take k l).length * (64 + 8) ≤ 4 * (64 + 8) := Nat.mul_le_mul_right _ h3
  omega
theorem text_small {l : List RuleV} (h : checkP l = 0) : (joinC 44 (l.map pieceS)).length ≤ 1000 := by
  have := text_take h l.length
  rw [List.take_length] at this
  exact this
theorem piece_len (x : RuleV) : (pieceS x).length ≤ x.1.length + 7 := by
  have := layS_len x.2
  unfold pieceS
  simp only [List.length_append, List.length_cons, List.length_nil]
  omega
theorem textP_len (l : List RuleV) : (textP l).1.length ≤ 1000 := by
  by_cases h : checkP l = 0
  · rw [text_ok h]; have := text_take h l.length; rw [List.take_length] at this; exact this
  · rw [text_no h]; simp
theorem split_le (c : UInt8) (s : Bytes) : (splitC c s).length ≤ s.length + 1 := by
  have h1 := Sep.split_len c s
  have h2 : s.count c ≤ s.length := List.count_le_length
  omega
theorem parse_len (s : Bytes) : (parseP s).1.length ≤ s.length + 1 := by
  unfold parseP
  have := split_le 44 s
  repeat' split
  all_goals (simp only [ruled_len, List.length_nil]; omega)
theorem ruled_snoc (o : List Bytes) (x : Bytes) : ruled (o ++ [x]) = ruled o ++ [(scanP x).1] := by unfold ruled; rw [List.map_append]; rfl
theorem fine_snoc {o : List Bytes} {x : Bytes} (h : fineS o = true) (h2 : (scanP x).2 = true) : fineS (o ++ [x]) = true := by
  unfold fineS at *
  rw [List.all_append, h]
  simp only [List.all_cons, List.all_nil, Bool.and_true, Bool.true_and]
  exact h2
theorem byte44 {b : UInt8} : ((b.toNat : Nat) : Int) = 44 ↔ b = 44 := ⟨fun h => UInt8.toNat_inj.1 (by have : (44 : UInt8).toNat = 44 := rfl; omega), fun h => by subst h; rfl⟩
theorem byte58 {b : UInt8} : ((b.toNat : Nat) : Int) = 58 ↔ b = 58 := ⟨fun h => UInt8.toNat_inj.1 (by have : (58 : UInt8).toNat = 58 := rfl; omega), fun h => by subst h; rfl⟩
theorem sinv_in {k : UInt8} {s : Bytes} {i f : Nat} {o : List Bytes} {x : Bytes} (h : Sep.SInv k s i f (o ++ [x])) : x ∈ splitC k s := by
  rcases h with ⟨_, _, _, d⟩ | ⟨_, _, d⟩
  · rw [d]; simp
  · rw [d]; simp
theorem ref_hit {s : Bytes} {i f : Nat} {o : List Bytes} (h : Sep.SInv 44 s i f o) (hi : i ≤ s.length) (hc : (i : Int) = (List.length s : Int) ∨ ((List.getD s i 0).toNat : Int) = 44) : Sep.SInv 44 s (i + 1) (i + 1) (o ++ [List.drop f (List.take i s)]) :=
  Sep.sinv_hit h hi (hc.elim (fun q => .inl (by omega)) (fun q => .inr (byte44.1 q)))
theorem ref_not {s : Bytes} {i f : Nat} {o : List Bytes} (h : Sep.SInv 44 s i f o) (hi : i ≤ s.length) (hc : ¬ (i : Int) = (List.length s : Int) ∧ ¬ ((List.getD s i 0).toNat : Int) = 44) : Sep.SInv 44 s (i + 1) f o :=
  Sep.sinv_not h hi (fun q => q.elim (fun q => hc.1 (by omega)) (fun q => hc.2 (byte44.2 q)))
theorem fine_bad_in {s x : Bytes} (hx : x ∈ splitC 44 s) (h : (scanP x).2 = false) : fineS (splitC 44 s) = false := by
  unfold fineS
  rw [List.all_eq_false]
  exact ⟨x, hx, by rw [h]; decide⟩

/-! ### the first sign, sought from behind -/
def FirstAt (s : Bytes) (k : Nat) (a : Int) : Prop := (a = -1 ∧ (58 : UInt8) ∉ List.drop k s) ∨ ∃ m : Nat, a = m ∧ k ≤ m ∧ m < s.length ∧ List.getD s m 0 = 58 ∧ (58 : UInt8) ∉ List.drop k (List.take m s)
theorem first_start (s : Bytes) : FirstAt s s.length (-1) := .inl ⟨rfl, by rw [List.drop_length]; simp⟩
theorem first_rng {s : Bytes} {k : Nat} {a : Int} (h : FirstAt s k a) : -1 ≤ a ∧ a < (s.length : Int) := by
  rcases h with ⟨h, _⟩ | ⟨m, h1, h2, h3, _⟩ <;> omega
theorem first_hit {s : Bytes} {k : Nat} {a : Int} (h0 : 0 < k) (hk : k ≤ s.length) (hc : ((List.getD s ((k : Int) - 1).toNat 0).toNat : Int) = 58) : FirstAt s (k - 1) ((k : Int) - 1) := by
  rw [show ((k : Int) - 1).toNat = k - 1 by omega] at hc
  refine .inr ⟨k - 1, by omega, Nat.le_refl _, by omega, byte58.1 hc, ?_⟩
  rw [List.drop_of_length_le (by rw [List.length_take]; omega)]; simp
theorem first_not {s : Bytes} {k : Nat} {a : Int} (h : FirstAt s k a) (h0 : 0 < k) (hk : k ≤ s.length) (hc : ¬ ((List.getD s ((k : Int) - 1).toNat 0).toNat : Int) = 58) : FirstAt s (k - 1) a := by
  rw [show ((k : Int) - 1).toNat = k - 1 by omega] at hc
  have hb : ¬ List.getD s (k - 1) 0 = 58 := fun q => hc (byte58.2 q)
  rcases h with ⟨h1, h2⟩ | ⟨m, h1, h2, h3, h4, h5⟩
  · refine .inl ⟨h1, ?_⟩
    rw [Lib.drop_cons 0 s (k - 1) (by omega), show k - 1 + 1 = k by omega, List.mem_cons, not_or]
    exact ⟨fun q => hb q.symm, h2⟩
  · refine .inr ⟨m, h1, by omega, h3, h4, ?_⟩
    have hl : k - 1 < (List.take m s).length := by rw [List.length_take]; omega
    rw [Lib.drop_cons 0 (List.take m s) (k - 1) hl, show k - 1 + 1 = k by omega, List.mem_cons, not_or]
    refine ⟨fun q => hb ?_, h5⟩
    rw [q, List.getD_eq_getElem?_getD, List.getD_eq_getElem?_getD, List.getElem?_take, if_pos (by omega)]
theorem first_cut {s : Bytes} {a : Int} (h : FirstAt s 0 a) (h0 : ¬ a < 0) : cutAt 58 s = (List.take a.toNat s, List.drop (a.toNat + 1) s, true) := by
  rcases h with ⟨h1, _⟩ | ⟨m, h1, _, h3, h4, h5⟩
  · omega
  · subst h1
    rw [Int.toNat_natCast]
    rw [List.drop_zero] at h5
    conv => lhs; rw [Lib.take_cons 0 s m h3, h4]
    exact Sep.cut_app h5
theorem scan_neg {s : Bytes} {a : Int} (h : FirstAt s 0 a) (h0 : a < 0) : scanP s = (([], 0), false) := by
  rcases h with ⟨_, h2⟩ | ⟨m, h1, _⟩
  · rw [List.drop_zero] at h2
    exact scan_no fun q => by rw [Sep.cut_none h2] at q; exact absurd (show false = true from q.1) (by decide)
  · omega
theorem piece_iff {s : Bytes} {a : Int} (h : FirstAt s 0 a) (h0 : ¬ a < 0) (n : Nat) : pieceS (List.take a.toNat s, (n : Int)) = s ↔ laysN n = List.drop (a.toNat + 1) s := by
  have hc := first_cut h h0
  have hs := (Sep.cut_some (c := 58) (s := s) (by rw [hc])).1
  rw [hc] at hs
  unfold pieceS layS
  simp only [Int.toNat_natCast] at hs ⊢
  constructor
  · intro e
    have e2 := e.trans hs
    rw [List.append_assoc] at e2
    have e3 := List.append_cancel_left e2
    injection e3
  · intro e
    rw [e, List.append_assoc]
    exact hs.symm
theorem scan_hit {s : Bytes} {a : Int} (h : FirstAt s 0 a) (h0 : ¬ a < 0) {n : Nat} (hn : n < 64) (he : pieceS (List.take a.toNat s, (n : Int)) = s) : scanP s = ((List.take a.toNat s, (n : Int)), true) := by
  have hc := first_cut h h0
  have hr := capsR_ok hn ((piece_iff h h0 n).1 he)
  rw [scan_ok (by rw [hc]) (by rw [hc]; show (capsR (List.drop (a.toNat + 1) s)).2 = true; rw [hr]), hc]
  show ((List.take a.toNat s, (capsR (List.drop (a.toNat + 1) s)).1), true) = _
  rw [hr]
theorem scan_end {s : Bytes} {a : Int} (h : FirstAt s 0 a) (h0 : ¬ a < 0) (hN : ∀ n : Nat, n < 64 → ¬ pieceS (List.take a.toNat s, (n : Int)) = s) : scanP s = (([], 0), false) := by
  have hc := first_cut h h0
  refine scan_no fun q => ?_
  rw [hc] at q
  obtain ⟨n, h1, h2, _⟩ := capsR_yes q.2
  exact hN n h1 ((piece_iff h h0 n).2 h2)

/-! ### what the laws look at -/
def overP (l : List RuleV) : Int := if 8 < l.length ∨ (l.any fun x => decide (100 < x.1.length)) = true then 1 else 0
theorem over_1 {l : List RuleV} (h : 8 < l.length) : overP l = 1 := if_pos (.inl h)
theorem over_2 {l : List RuleV} {k : Nat} (hk : k < l.length) (h : 100 < (List.getD l k ([], 0)).1.length) : overP l = 1 :=
  if_pos (.inr (List.any_eq_true.2 ⟨_, Lib.getD_mem ([], 0) l k hk, decide_eq_true h⟩))
def ShortTo (l : List RuleV) (k : Nat) : Prop := ∀ j, j < k → (List.getD l j ([], 0)).1.length ≤ 100
theorem short_step {l : List RuleV} {k : Nat} (hN : ShortTo l k) (h : ¬ 100 < (List.getD l k ([], 0)).1.length) : ShortTo l (k + 1) := by
  intro j hj
  rcases Nat.lt_or_ge j k with q | q
  · exact hN j q
  · rw [show j = k by omega]; omega
theorem over_0 {l : List RuleV} {k : Nat} (h8 : ¬ 8 < l.length) (hk : l.length ≤ k) (hN : ShortTo l k) : overP l = 0 := by
  refine if_neg fun h => ?_
  rcases h with h | h
  · exact h8 h
  · obtain ⟨x, hx, h2⟩ := List.any_eq_true.1 h
    obtain ⟨j, hj, rfl⟩ := List.mem_iff_getElem.1 hx
    have := hN j (by omega)
    rw [Lib.getD_lt _ _ _ hj] at this
    have := of_decide_eq_true h2
    omega
theorem over_ok {l : List RuleV} (h : ¬ 0 < overP l) : l.length ≤ 8 ∧ ∀ x ∈ l, x.1.length ≤ 100 := by
  unfold overP at h
  split at h
  · exact absurd h (by decide)
  · rename_i q
    rw [not_or] at q
    refine ⟨by omega, fun x hx => ?_⟩
    apply Classical.byContradiction
    intro hn
    exact q.2 (List.any_eq_true.2 ⟨x, hx, decide_eq_true (by omega)⟩)
theorem over_all {l : List RuleV} (h : ¬ 0 < overP l) : ∀ x ∈ l, x.1.length ≤ 100000 := fun x hx => Nat.le_trans ((over_ok h).2 x hx) (by decide)
def awl : List RuleV := [([116, 101, 97, 109], 19), ([116, 101, 97, 109, 47, 97, 112, 112], 1)]
theorem parse_textP {l : List RuleV} (h : (textP l).2 = 0) (h0 : ∀ x ∈ l, 0 ≤ x.2) : parseP (textP l).1 = (l, 0) := by
  rw [text_ok (text_may h)]; exact parse_text (text_may h) h0
theorem text_injP {a b : List RuleV} (ha : (textP a).2 = 0) (hb : (textP b).2 = 0) (na : ∀ x ∈ a, 0 ≤ x.2) (nb : ∀ x ∈ b, 0 ≤ x.2) : (textP a).1 = (textP b).1 ↔ a = b := by
  rw [text_ok (text_may ha), text_ok (text_may hb)]
  exact text_inj (text_may ha) (text_may hb) na nb
abbrev AskV := Bytes × Int
def rowAsk (x : AskV) (i : Nat) : SC := match i with | 0 => st x.1 | _ => u8 x.2
end AL.Policy
