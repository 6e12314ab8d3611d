/- mounts: what its loops hold, in plain Lean. No condition. -/
import Derived.Test.YtfedegdihgeelaaDoorMountD
namespace AL.Mount
open Go AL
open AL.Quill (ScanV numQ rowQ rowB)
set_option linter.unusedVariables false
set_option linter.unusedSimpArgs false

theorem paths_step (l : List MountV) (k : Nat) (h : k < l.length) : List.set (pathsM (List.take k l) ++ List.replicate (l.length - k) []) k (List.getD l k md).1 = pathsM (List.take (k + 1) l) ++ List.replicate (l.length - (k + 1)) [] := by
  have hl : (pathsM (List.take k l)).length = k := by unfold pathsM; rw [List.length_map, List.length_take]; omega
  rw [List.set_append_right _ _ (by omega), hl, Nat.sub_self, show l.length - k = (l.length - (k + 1)) + 1 by omega, List.replicate_succ, List.set_cons_zero]
  unfold pathsM
  rw [Lib.take_succ md l k h, List.map_append, List.append_assoc]; rfl
theorem paths_end (l : List MountV) (k : Nat) (h : l.length ≤ k) : pathsM (List.take k l) ++ List.replicate (l.length - k) [] = pathsM l := by
  rw [List.take_of_length_le h, show l.length - k = 0 by omega]; simp
theorem paths_len (l : List MountV) : (pathsM l).length = l.length := List.length_map _
theorem paths_mem {l : List MountV} {n : Nat} (h : ∀ m ∈ l, m.1.length ≤ n) : ∀ p ∈ pathsM l, p.length ≤ n := fun p hp => by
  obtain ⟨m, hm, rfl⟩ := List.mem_map.1 hp
  exact h m hm
theorem two_b {n : Int} {b : Bool} {v : Int} (h : ((bitB b).toNat : Int) = v) : flat 1 rowU8 [b8 n, bitB b] = [AC.s (u8 (IntKind.wrap .u8 n)), AC.s (u8 v)] := by
  subst h
  rw [Quill.wrap_8]; rfl
theorem bit_t {b : Bool} (h : b = true) : ((bitB b).toNat : Int) = 1 := by subst h; rfl
theorem bit_f {b : Bool} (h : b = false) : ((bitB b).toNat : Int) = 0 := by subst h; rfl
theorem length_le {l : List MountV} {n : Nat} (h : ∀ m ∈ l, m.1.length ≤ n) (k : Nat) : lengthM (List.take k l) ≤ l.length * (4 + n) := by
  have h1 := text_len (l := List.take k l) (n := n) fun m hm => h m (List.mem_of_mem_take hm)
  have h2 : (List.take k l).length * (4 + n) ≤ l.length * (4 + n) := Nat.mul_le_mul_right _ (by rw [List.length_take]; omega)
  exact Nat.le_trans h1 h2
theorem length_0 (l : List MountV) : lengthM (List.take 0 l) = 0 := rfl

/-! ### reading -/
theorem late_def (l : List MountV) (p : Bytes) : lateM l p = (decide ((0 : Int) < (List.length l : Int)) && !(Op.bytesLess (List.getD l ((List.length l : Int) - 1).toNat md).1 p)) := by
  unfold lateM
  rw [Under.bl, show ((List.length l : Int) - 1).toNat = l.length - 1 by omega]
  congr 1
  rw [decide_eq_decide]; omega
theorem late_t {l : List MountV} {p : Bytes} {b : Bool} (h : b = false ∨ ((0 : Int) < (List.length l : Int) ∧ Op.bytesLess (List.getD l ((List.length l : Int) - 1).toNat md).1 p = false)) : b = false ∨ lateM l p = true := by
  rcases h with h | ⟨h1, h2⟩
  · exact .inl h
  · right; rw [late_def, h2, decide_eq_true h1]; rfl
theorem late_f {l : List MountV} {p : Bytes} {b : Bool} (h : b = true ∧ (¬ (0 : Int) < (List.length l : Int) ∨ Op.bytesLess (List.getD l ((List.length l : Int) - 1).toNat md).1 p = true)) : ¬ (b = false ∨ lateM l p = true) := by
  rintro (q | q)
  · rw [h.1] at q; cases q
  · rw [late_def] at q
    rcases h.2 with z | z
    · rw [decide_eq_false z] at q; cases q
    · rw [z] at q; simp at q
theorem late_tr {l : List MountV} {p : Bytes} {c : Int} (h : 1 < c ∨ ((0 : Int) < (List.length l : Int) ∧ Op.bytesLess (List.getD l ((List.length l : Int) - 1).toNat md).1 p = false)) : decide (c ≤ 1) = false ∨ lateM l p = true := by
  refine late_t ?_
  rcases h with h | h
  · exact .inl (decide_eq_false (by omega))
  · exact .inr h
theorem late_fr {l : List MountV} {p : Bytes} {c : Int} (h : ¬ 1 < c ∧ (¬ (0 : Int) < (List.length l : Int) ∨ Op.bytesLess (List.getD l ((List.length l : Int) - 1).toNat md).1 p = true)) : ¬ (decide (c ≤ 1) = false ∨ lateM l p = true) :=
  late_f ⟨decide_eq_true (by omega), h.2⟩
theorem scan_len (x : ScanV) : (rowQ x).2.1.length = x.1.length ∧ (numQ (rowQ x).2 1).2.1.length = x.1.length := by
  have e : (rowQ x).2.1 = x.1 := by
    rcases Quill.row_cases x with ⟨_, _, q⟩ | ⟨_, _, q, _⟩
    · exact q
    · rw [q]
  exact ⟨by rw [e], by rw [Quill.num_len, e]⟩
theorem num_rng (x : ScanV) {n : Int} (h1 : 1 ≤ n) (h2 : n ≤ 2) : 0 ≤ (numQ x n).1 ∧ (numQ x n).1 < 65536 := by
  rcases Quill.num_cases x h1 h2 with ⟨h, _⟩ | ⟨_, _, _, _, h3, h4⟩
  · rw [h]; exact ⟨by decide, by decide⟩
  · exact ⟨h3, h4⟩
theorem parse_dec {s : Bytes} {f : Nat} {l : List MountV} {a : Int} (h : ParseAt s f l a) (h1 : a < (s.length : Int)) : f - 1 < f := by
  have := h.fuel; omega

/-! ### sorting by insertion -/
def cmpS (a b : Bytes) : Int := if a < b then -1 else if b < a then 1 else 0
theorem cmp_lt {a b : Bytes} : cmpS a b < 0 ↔ a < b := by
  unfold cmpS
  split
  · rename_i h; exact ⟨fun _ => h, fun _ => by decide⟩
  · rename_i h
    split
    · exact ⟨fun q => absurd q (by decide), fun q => absurd q h⟩
    · exact ⟨fun q => absurd q (by decide), fun q => absurd q h⟩
theorem cmp_1 {a b : Bytes} (h : Op.bytesLess a b = true) : cmpS a b = -1 := if_pos (by rw [Under.bl] at h; exact of_decide_eq_true h)
theorem cmp_2 {a b : Bytes} (h : Op.bytesLess a b = false) (h2 : ¬ a = b) : cmpS a b = 1 := by
  rw [Under.bl] at h
  unfold cmpS
  rw [if_neg (of_decide_eq_false h), if_pos (Under.lt_of_not (of_decide_eq_false h) h2)]
theorem cmp_3 {a b : Bytes} (h : Op.bytesLess a b = false) (h2 : Op.bytesLess a b = true ∨ a = b) : cmpS a b = 0 := by
  rcases h2 with h2 | h2
  · rw [h] at h2; cases h2
  · subst h2
    unfold cmpS
    rw [if_neg (bytes_irr a), if_neg (bytes_irr a)]
def xsO (l : List MountV) (m : MountV) (i : Nat) : List MountV := if i ≤ l.length then l ++ [m] else insM l m
def xsI (l : List MountV) (m : MountV) (i j : Nat) : List MountV := if i < l.length then l ++ [m] else List.take j l ++ m :: List.drop j l
/-- What the inner loop keeps. -/
structure InI (l : List MountV) (m : MountV) (i j : Nat) : Prop where
  le : j ≤ i
  top : i ≤ l.length
  low : i < l.length → j = i
  past : l.length ≤ i → ∀ x ∈ List.drop j l, m.1 < x.1
theorem xso_1 {l : List MountV} {m : MountV} : xsO l m 1 = l ++ [m] := by
  unfold xsO
  cases l with
  | nil => rfl
  | cons x l => rw [if_pos (by simp)]
theorem xso_end {l : List MountV} {m : MountV} {i : Nat} (h : l.length + 1 ≤ i) : xsO l m i = insM l m := if_neg (by omega)
theorem xso_len {l : List MountV} {m : MountV} {i : Nat} : (xsO l m i).length = l.length + 1 := by
  unfold xsO
  split
  · simp
  · rw [ins_len]
theorem xsi_len {l : List MountV} {m : MountV} {i j : Nat} : (xsI l m i j).length = l.length + 1 := by
  unfold xsI
  split
  · simp
  · rw [List.length_append, List.length_cons, List.length_take, List.length_drop]; omega
theorem ini_start {l : List MountV} {m : MountV} {i : Nat} (h : i ≤ l.length) : InI l m i i :=
  ⟨Nat.le_refl _, h, fun _ => rfl, fun q x hx => by rw [List.drop_of_length_le q] at hx; cases hx⟩
theorem xsi_start {l : List MountV} {m : MountV} {i : Nat} (h : i ≤ l.length) : xsO l m i = xsI l m i i := by
  unfold xsO xsI
  rw [if_pos h]
  split
  · rfl
  · rw [List.take_of_length_le (by omega), List.drop_of_length_le (by omega)]
theorem at_low {l : List MountV} {m : MountV} {i j k : Nat} (h : i < l.length) (hk : k < l.length) : List.getD (xsI l m i j) k md = List.getD l k md := by
  unfold xsI
  rw [if_pos h, List.getD_eq_getElem?_getD, List.getElem?_append_left hk, List.getD_eq_getElem?_getD]
theorem at_mid {l : List MountV} {m : MountV} {i j : Nat} (h : ¬ i < l.length) (hj : j ≤ l.length) : List.getD (xsI l m i j) j md = m := by
  unfold xsI
  rw [if_neg h, List.getD_eq_getElem?_getD, List.getElem?_append_right (by rw [List.length_take]; omega), List.length_take, show j - min j l.length = 0 by omega]; rfl
theorem at_left {l : List MountV} {m : MountV} {i j : Nat} (h : ¬ i < l.length) (hj : j ≤ l.length) (h0 : 0 < j) : List.getD (xsI l m i j) (j - 1) md = List.getD l (j - 1) md := by
  unfold xsI
  rw [if_neg h, List.getD_eq_getElem?_getD, List.getElem?_append_left (by rw [List.length_take]; omega), List.getElem?_take, if_pos (by omega), List.getD_eq_getElem?_getD]
theorem rise_at {l : List MountV} (hs : SortM l) {k : Nat} (hk : k + 1 < l.length) : (List.getD l k md).1 < (List.getD l (k + 1) md).1 := by
  unfold SortM at hs
  rw [Lib.getD_lt _ _ _ (by omega), Lib.getD_lt _ _ _ hk]
  exact List.pairwise_iff_getElem.1 hs k (k + 1) (by omega) hk (by omega)
/-- Where the test holds, the last one is moved. -/
theorem in_last {l : List MountV} {m : MountV} {i j : Nat} (hs : SortM l) (hI : InI l m i j) (h0 : (0 : Int) < (j : Int)) (hc : cmpS (List.getD (xsI l m i j) j md).1 (List.getD (xsI l m i j) ((j : Int) - 1).toNat md).1 < 0) : ¬ i < l.length ∧ m.1 < (List.getD l (j - 1) md).1 := by
  rw [cmp_lt, show ((j : Int) - 1).toNat = j - 1 by omega] at hc
  have ht := hI.top
  have hl := hI.le
  by_cases h : i < l.length
  · exfalso
    obtain rfl := hI.low h
    rw [at_low h h, at_low h (by omega)] at hc
    have := rise_at hs (k := j - 1) (by omega)
    rw [show j - 1 + 1 = j by omega] at this
    exact bytes_irr _ (bytes_trans hc this)
  · rw [at_mid h (by omega), at_left h (by omega) (by omega)] at hc
    exact ⟨h, hc⟩
theorem in_next {l : List MountV} {m : MountV} {i j : Nat} (hs : SortM l) (hI : InI l m i j) (h0 : (0 : Int) < (j : Int)) (hc : cmpS (List.getD (xsI l m i j) j md).1 (List.getD (xsI l m i j) ((j : Int) - 1).toNat md).1 < 0) : InI l m i (j - 1) := by
  obtain ⟨h1, h2⟩ := in_last hs hI h0 hc
  have ht := hI.top
  have hl := hI.le
  refine ⟨by omega, ht, fun q => absurd q h1, fun q x hx => ?_⟩
  rw [Lib.drop_cons md l (j - 1) (by omega), show j - 1 + 1 = j by omega] at hx
  rcases List.mem_cons.1 hx with rfl | hx
  · exact h2
  · exact hI.past q x hx
theorem in_swap {l : List MountV} {m : MountV} {i j : Nat} (hs : SortM l) (hI : InI l m i j) (h0 : (0 : Int) < (j : Int)) (hc : cmpS (List.getD (xsI l m i j) j md).1 (List.getD (xsI l m i j) ((j : Int) - 1).toNat md).1 < 0) :
    List.set (List.set (xsI l m i j) j (List.getD (xsI l m i j) ((j : Int) - 1).toNat md)) ((j : Int) - 1).toNat (List.getD (xsI l m i j) j md) = xsI l m i (j - 1) := by
  obtain ⟨h1, h2⟩ := in_last hs hI h0 hc
  have ht := hI.top
  have hl := hI.le
  rw [show ((j : Int) - 1).toNat = j - 1 by omega, at_mid h1 (by omega), at_left h1 (by omega) (by omega)]
  unfold xsI
  rw [if_neg h1, if_neg h1]
  obtain ⟨k, rfl⟩ : ∃ k, j = k + 1 := ⟨j - 1, by omega⟩
  rw [Nat.add_sub_cancel, List.set_append_right _ _ (by rw [List.length_take]; omega), List.length_take, show k + 1 - min (k + 1) l.length = 0 by omega, List.set_cons_zero, Lib.take_succ md l k (by omega), List.append_assoc, List.set_append_right _ _ (by rw [List.length_take]; omega), List.length_take, show k - min k l.length = 0 by omega]
  rw [List.singleton_append, List.set_cons_zero, Lib.drop_cons md l k (by omega)]
theorem in_stop {l : List MountV} {m : MountV} {i j : Nat} (hs : SortM l) (hn : ∀ x ∈ l, x.1 ≠ m.1) (hI : InI l m i j) (hc : ¬ (0 : Int) < (j : Int) ∨ ¬ cmpS (List.getD (xsI l m i j) j md).1 (List.getD (xsI l m i j) ((j : Int) - 1).toNat md).1 < 0) : xsI l m i j = xsO l m (i + 1) := by
  have ht := hI.top
  have hl := hI.le
  by_cases h : i < l.length
  · unfold xsI xsO
    rw [if_pos h, if_pos (by omega)]
  · have e : xsO l m (i + 1) = insM l m := if_neg (by omega)
    rw [e]
    have e2 : xsI l m i j = List.take j l ++ m :: List.drop j l := if_neg h
    have h3 := hI.past (by omega)
    rw [e2]
    refine (ins_at (by omega) (fun x hx => ?_) h3).symm
    rcases Nat.eq_zero_or_pos j with rfl | q
    · simp at hx
    · have hc := hc.resolve_left (fun z => z (by omega))
      rw [cmp_lt, show ((j : Int) - 1).toNat = j - 1 by omega, at_mid h (by omega), at_left h (by omega) q] at hc
      have hlast : (List.getD l (j - 1) md).1 < m.1 := Under.lt_of_not hc fun e => hn _ (Lib.getD_mem md l (j - 1) (by omega)) e.symm
      obtain ⟨k, hk, rfl⟩ := List.mem_take_iff_getElem.1 hx
      rcases Nat.lt_or_ge k (j - 1) with z | z
      · have := List.pairwise_iff_getElem.1 hs k (j - 1) (by omega) (by omega) z
        rw [Lib.getD_lt _ _ _ (by omega)] at hlast
        exact bytes_trans this hlast
      · obtain rfl : k = j - 1 := by omega
        rw [Lib.getD_lt _ _ _ (by omega)] at hlast
        exact hlast
theorem flat_two (l : List MountV) (m : MountV) : [l, [m]].flatten = l ++ [m] := by simp
theorem flat_parts (l : List MountV) (i : Nat) : [List.take i l, List.drop (i + 1) l].flatten = List.take i l ++ List.drop (i + 1) l := by simp
theorem two_z {n : Int} : flat 1 rowU8 [b8 n, 0] = [AC.s (u8 (IntKind.wrap .u8 n)), AC.s (u8 0)] := by
  rw [Quill.wrap_8]; rfl
theorem set_last {t r : Bytes} {n : UInt8} {b : Bool} (h : b = true) : List.set ((t ++ r) ++ [n, 0]) ((List.length ((t ++ r) ++ [n, 0]) : Int) - 1).toNat 1 = t ++ (r ++ [n, bitB b]) := by
  subst h
  rw [List.length_append, show (((t ++ r).length + ([n, 0] : Bytes).length : Nat) : Int) - 1 = (((t ++ r).length + 1 : Nat) : Int) by simp; omega, Int.toNat_natCast, List.set_append_right _ _ (by omega), show (t ++ r).length + 1 - (t ++ r).length = 1 by omega, List.append_assoc]
  rfl
theorem keep_last {t r : Bytes} {n : UInt8} {b : Bool} (h : b = false) : (t ++ r) ++ [n, 0] = t ++ (r ++ [n, bitB b]) := by
  subst h
  rw [List.append_assoc]; rfl
theorem nest_hit {l : List MountV} {m : MountV} {i : Nat} (hi : i < l.length) (h : Under.withinS (List.getD l i md).1 m.1 = true ∨ Under.withinS m.1 (List.getD l i md).1 = true) : Under.nestedS m.1 (pathsM l) = true := by
  refine List.any_eq_true.2 ⟨(List.getD l i md).1, List.mem_map.2 ⟨_, Lib.getD_mem md l i hi, rfl⟩, ?_⟩
  rw [Bool.or_eq_true]
  exact h.symm
theorem nest_end {l : List MountV} {m : MountV} {i : Nat} (hi : l.length ≤ i) (hN : ∀ x ∈ List.take i l, (Under.withinS x.1 m.1 || Under.withinS m.1 x.1) = false) : Under.nestedS m.1 (pathsM l) = false := by
  rw [List.take_of_length_le hi] at hN
  exact off_nested fun x hx => by
    have := hN x hx
    simp only [Bool.or_eq_false_iff] at this
    exact ⟨this.2, this.1⟩
theorem ks_y {l : List MountV} {p : Bytes} {i : Nat} (h : Op.bytesLess (List.getD l i md).1 p = true) : kS l p (i + 1) = i + 1 := by
  rw [Under.bl] at h
  exact if_pos (of_decide_eq_true h)
theorem ks_n {l : List MountV} {p : Bytes} {i : Nat} (h : Op.bytesLess (List.getD l i md).1 p = false) : kS l p (i + 1) = kS l p i := by
  rw [Under.bl] at h
  exact if_neg (of_decide_eq_false h)
theorem row_any (x : ScanV) : (rowQ x).1.length ≤ 100000 := by
  rcases Quill.row_cases x with ⟨h, _⟩ | ⟨_, _, _, _, h⟩
  · rw [h]; simp
  · omega
theorem scan_1 {s : Bytes} {a : Int} (hs : s.length ≤ 100000) : (rowQ (s, a, 0)).2.1.length ≤ 1000000 := by
  rw [(scan_len (s, a, 0)).1]; exact Nat.le_trans hs (by decide)
theorem scan_2 {s : Bytes} {a : Int} (hs : s.length ≤ 100000) : (numQ (rowQ (s, a, 0)).2 1).2.1.length ≤ 1000000 := by
  rw [(scan_len (s, a, 0)).2]; exact Nat.le_trans hs (by decide)
theorem scan_0 {s : Bytes} {a : Int} (hs : s.length ≤ 100000) : ((s, a, 0) : ScanV).1.length ≤ 1000000 := Nat.le_trans hs (by decide)
theorem scan_fin {s : Bytes} {a : Int} (h : (scanM (s, a, 0)).2.1.2.2 = 0) : (numQ (numQ (rowQ (s, a, 0)).2 1).2 1).2 = (s, (scanM (s, a, 0)).2.1.2.1, 0) := (scan_pos h).1
end AL.Mount
