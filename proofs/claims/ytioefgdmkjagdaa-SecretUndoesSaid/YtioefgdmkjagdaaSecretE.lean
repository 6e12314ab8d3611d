/- secret: what holds of every secret, however it is written and turned, in plain Lean. No condition. -/
import Derived.Test.YtioefgdmkjagdaaSecretD
namespace AL.Secret
open Go AL
set_option linter.unusedVariables false
set_option linter.unusedSimpArgs false

/-! ### Numbers that rise -/
theorem rise_names : ∀ {l m : List RowV} {a : Int}, namesR l = namesR m → riseS a l = riseS a m
  | [], [], _, _ => rfl
  | x :: l, y :: m, a, h => by
    simp only [namesR, List.map_cons, List.cons.injEq] at h
    simp only [riseS, h.1]
    rw [rise_names (l := l) (m := m) (by unfold namesR; exact h.2)]
  | [], _ :: _, _, h => by simp [namesR] at h
  | _ :: _, [], _, h => by simp [namesR] at h
theorem new_names {l m : List RowV} (h : namesR l = namesR m) : newS l = newS m := by
  have hl : l.length = m.length := by rw [← namesR_len l, h, namesR_len]
  have e : ∀ q : List RowV, newS q = List.getD (namesR q) (q.length - 1) 0 := fun q => by
    simp only [newS, namesR, List.getD_eq_getElem?_getD, List.getElem?_map]
    cases q[q.length - 1]? <;> rfl
  rw [e l, e m, h, hl]
theorem rise_lower {l : List RowV} {a b : Int} (h : riseS a l = true) (hb : b ≤ a) : riseS b l = true := by
  cases l with
  | nil => rfl
  | cons x l =>
    simp only [riseS, Bool.and_eq_true, decide_eq_true_eq] at h ⊢
    exact ⟨by omega, h.2⟩
theorem rise_drop : ∀ {l : List RowV} {a : Int} (n : Nat), riseS a l = true → riseS a (List.drop n l) = true
  | l, a, 0, h => h
  | [], a, n + 1, h => h
  | x :: l, a, n + 1, h => by
    simp only [riseS, Bool.and_eq_true, decide_eq_true_eq] at h
    exact rise_lower (rise_drop n h.2) (by omega)
theorem new_drop {l : List RowV} {n : Nat} (h : n < l.length) : newS (List.drop n l) = newS l := by
  simp only [newS, List.getD_eq_getElem?_getD, List.getElem?_drop, List.length_drop]
  congr 3
  omega
theorem rise_app : ∀ {l : List RowV} {a : Int} {y : RowV}, riseS a l = true → a < y.1 → (∀ x ∈ l, x.1 < y.1) → riseS a (l ++ [y]) = true
  | [], a, y, _, h, _ => by simp [riseS, h]
  | x :: l, a, y, h, h2, h3 => by
    simp only [riseS, List.cons_append, Bool.and_eq_true, decide_eq_true_eq] at h ⊢
    exact ⟨h.1, rise_app h.2 (h3 x (List.mem_cons_self ..)) fun z hz => h3 z (List.mem_cons_of_mem _ hz)⟩
theorem new_app (l : List RowV) (y : RowV) : newS (l ++ [y]) = y.1 := by
  simp [newS, List.getD_eq_getElem?_getD]
theorem rise_uniq : ∀ {l : List RowV} {a : Int}, riseS a l = true → ∀ x ∈ l, ∀ y ∈ l, x.1 = y.1 → x = y
  | [], _, _, x, hx, _, _, _ => by cases hx
  | z :: l, a, h, x, hx, y, hy, e => by
    simp only [riseS, Bool.and_eq_true, decide_eq_true_eq] at h
    rcases List.mem_cons.1 hx with h1 | h1
    · rcases List.mem_cons.1 hy with h2 | h2
      · rw [h1, h2]
      · have := rise_mem h.2 y h2; rw [h1] at e; omega
    · rcases List.mem_cons.1 hy with h2 | h2
      · have := rise_mem h.2 x h1; rw [h2] at e; omega
      · exact rise_uniq h.2 x h1 y h2 e

/-! ### Turned, one by one -/
theorem turn_len (ch : RowV → RowV) (ns : List Int) (n : Nat) : ∀ (l : List RowV) (i : Nat), (turnS ch ns n i l).1.length = l.length
  | [], _ => rfl
  | x :: l, i => by
    unfold turnS
    split <;> simp [turn_len ch ns n l (i + 1)]
theorem turn_out (ch : RowV → RowV) (ns : List Int) (n : Nat) : ∀ (l : List RowV) (i : Nat), (turnS ch ns n i l).2.length ≤ l.length
  | [], _ => Nat.le_refl _
  | x :: l, i => by
    have := turn_out ch ns n l (i + 1)
    unfold turnS
    split <;> simp <;> omega
theorem turn_get (ch : RowV → RowV) (ns : List Int) (n : Nat) : ∀ (l : List RowV) (i k : Nat), k < l.length →
    List.getD (turnS ch ns n i l).1 k (0, false, false) = if Meant ns (i + k) n (List.getD l k (0, false, false)) ∧ (List.getD l k (0, false, false)).2.2 = false then ch (List.getD l k (0, false, false)) else List.getD l k (0, false, false)
  | [], _, _, h => by simp at h
  | x :: l, i, 0, _ => by
    unfold turnS
    simp only [Nat.add_zero, List.getD_cons_zero]
    split <;> simp_all
  | x :: l, i, k + 1, h => by
    have := turn_get ch ns n l (i + 1) k (by simpa using h)
    have e : i + 1 + k = i + (k + 1) := by omega
    rw [e] at this
    unfold turnS
    split <;> simpa using this
theorem list_ext {l m : List RowV} (hl : l.length = m.length) (h : ∀ k, k < l.length → List.getD l k (0, false, false) = List.getD m k (0, false, false)) : l = m := by
  refine List.ext_getElem hl fun k h1 h2 => ?_
  have := h k h1
  rwa [Lib.getD_lt _ l k h1, Lib.getD_lt _ m k h2] at this
theorem names_ext {l m : List RowV} (hl : l.length = m.length) (h : ∀ k, k < l.length → (List.getD l k (0, false, false)).1 = (List.getD m k (0, false, false)).1) : namesR l = namesR m := by
  refine List.ext_getElem (by rw [namesR_len, namesR_len, hl]) fun k h1 h2 => ?_
  rw [namesR_len] at h1 h2
  have := h k h1
  rw [Lib.getD_lt _ l k h1, Lib.getD_lt _ m k h2] at this
  simpa [namesR] using this
theorem turn_names {ch : RowV → RowV} (hc : ∀ x, (ch x).1 = x.1) (ns : List Int) (l : List RowV) : namesR (turnS ch ns l.length 0 l).1 = namesR l := by
  refine names_ext (turn_len ch ns _ l 0) fun k hk => ?_
  rw [turn_len] at hk
  rw [turn_get ch ns _ l 0 k hk]
  split
  · exact hc _
  · rfl
theorem del_n (x : RowV) : (delC x).1 = x.1 := rfl
theorem und_n (x : RowV) : (undC x).1 = x.1 := rfl
theorem des_n (x : RowV) : (desC x).1 = x.1 := rfl
theorem mem_getD {l : List RowV} {x : RowV} (h : x ∈ l) : ∃ k, k < l.length ∧ List.getD l k (0, false, false) = x := by
  obtain ⟨k, hk, e⟩ := List.getElem_of_mem h
  exact ⟨k, hk, by rw [Lib.getD_lt _ l k hk, e]⟩

/-! ### What holds of every secret -/
structure Inv (s : Sec) (r : Rul) : Prop where
  may : May s r
  gd : ∀ x ∈ s.2.2.2, x.2.2 = true → x.2.1 = false
/-- A version that is destroyed stays so. -/
def Stay (s t : Sec) : Prop := ∀ x ∈ s.2.2.2, x.2.2 = true → ∀ y ∈ t.2.2.2, y.1 = x.1 → y.2.2 = true
theorem stay_refl {s : Sec} {r : Rul} (h : May s r) : Stay s s := fun x hx hd y hy e => by rw [rise_uniq h.2.2.1 y hy x hx e]; exact hd
theorem inv_zero {r : Rul} (h : 1 ≤ r.1 ∧ r.1 ≤ 6) : Inv (0, false, 0, []) r := by
  refine ⟨⟨?_, ?_, rfl, rfl⟩, fun x hx => by cases hx⟩
  · unfold RangeS; simp only; omega
  · unfold keepS; simp only [if_pos, List.length_nil]; omega
theorem may_rows {s t : Sec} {r : Rul} (h : May s r) (h1 : t.1 = s.1) (h2 : t.2.2.1 = s.2.2.1) (h3 : namesR t.2.2.2 = namesR s.2.2.2) : May t r := by
  obtain ⟨a, b, c, d⟩ := h
  have hl : t.2.2.2.length = s.2.2.2.length := by rw [← namesR_len t.2.2.2, h3, namesR_len]
  refine ⟨?_, ?_, ?_, ?_⟩
  · unfold RangeS at a ⊢; rw [h1, h2]; exact a
  · unfold keepS at b ⊢; rw [h1, hl]; exact b
  · rw [rise_names h3]; exact c
  · rw [new_names h3, h2]; exact d
/-- Fewer rows, under rules that keep at least one. -/
theorem fewer_may {s : Sec} {r : Rul} (h1 : RangeS s r) (h3 : riseS 0 s.2.2.2 = true) (h4 : newS s.2.2.2 = s.2.2.1) : May (fewerS s r).1 r := by
  have hk : 1 ≤ keepS s r := by unfold RangeS at h1; unfold keepS; split <;> omega
  have hn : fewN s r = (max 0 ((List.length s.2.2.2 : Int) - keepS s r)).toNat := rfl
  have hkk : keepS (fewerS s r).1 r = keepS s r := rfl
  refine ⟨h1, ?_, rise_drop _ h3, ?_⟩
  · rw [hkk]
    show ((List.drop (fewN s r) s.2.2.2).length : Int) ≤ _
    rw [List.length_drop]; omega
  · show newS (List.drop (fewN s r) s.2.2.2) = s.2.2.1
    by_cases h0 : s.2.2.2.length = 0
    · have e : s.2.2.2 = [] := List.eq_nil_of_length_eq_zero h0
      rw [e] at h4 ⊢
      rw [← h4, List.drop_nil]
    · rw [new_drop (by omega), h4]
theorem fewer_mem {s : Sec} {r : Rul} {x : RowV} (h : x ∈ (fewerS s r).1.2.2.2) : x ∈ s.2.2.2 := List.mem_of_mem_drop h
theorem next_range {s : Sec} {r : Rul} (h : RangeS s r) (h2 : ¬ s.2.2.1 = 30) : RangeS (nextS s) r := by unfold RangeS at h ⊢; unfold nextS; simp only; omega
theorem next_rise {s : Sec} {r : Rul} (h : May s r) : riseS 0 (nextS s).2.2.2 = true ∧ newS (nextS s).2.2.2 = (nextS s).2.2.1 := by
  obtain ⟨a, b, c, d⟩ := h
  unfold RangeS at a
  refine ⟨rise_app c (by show 0 < s.2.2.1 + 1; omega) fun x hx => ?_, new_app _ _⟩
  have := rise_new c x hx
  show x.1 < s.2.2.1 + 1
  omega
theorem write_inv {s : Sec} {r : Rul} {cas size : Int} (h : Inv s r) : Inv (writeS s r cas size).1 r ∧ s.2.2.1 ≤ (writeS s r cas size).1.2.2.1 ∧ (¬ (writeS s r cas size).2.2.2 = 0 → (writeS s r cas size).1 = s) ∧ Stay s (writeS s r cas size).1 := by
  by_cases he : refuseS s r cas size = 0
  · rw [write_ok he]
    obtain ⟨hm, h30⟩ := refuse_may he
    have hr := next_rise hm
    refine ⟨⟨fewer_may (next_range hm.1 h30) hr.1 hr.2, fun x hx hd => ?_⟩, ?_, fun h => absurd rfl h, fun x hx hd y hy e => ?_⟩
    · have hx := fewer_mem hx
      rcases List.mem_append.1 (show x ∈ s.2.2.2 ++ [(s.2.2.1 + 1, false, false)] from hx) with hx | hx
      · exact h.gd x hx hd
      · rw [List.mem_singleton.1 hx] at hd; cases hd
    · show s.2.2.1 ≤ s.2.2.1 + 1; omega
    · have hy := fewer_mem hy
      rcases List.mem_append.1 (show y ∈ s.2.2.2 ++ [(s.2.2.1 + 1, false, false)] from hy) with hy | hy
      · exact stay_refl hm x hx hd y hy e
      · have h1 := rise_new hm.2.2.1 x hx
        rw [List.mem_singleton.1 hy] at e
        have h2 := hm.2.2.2
        simp only at e
        omega
  · rw [write_no rfl he]
    exact ⟨h, Int.le_refl _, fun _ => rfl, stay_refl h.may⟩
theorem loose_ok {s : Sec} {r : Rul} (h : May s r) : checkS s loose = 0 := by
  refine check_yes ⟨?_, ?_, h.2.2⟩
  · have := h.1; unfold RangeS loose at *; simp only; omega
  · have h1 := h.1; have h2 := h.2.1
    unfold RangeS at h1; unfold keepS loose at *; simp only
    split at h2 <;> simp_all <;> omega
theorem turn_inv {ch : RowV → RowV} (hc : ∀ x, (ch x).1 = x.1) (hg : ∀ x, (ch x).2.2 = true → (ch x).2.1 = false) {s : Sec} {r : Rul} (h : Inv s r) (ns : List Int) :
    Inv (turnSec ch s ns).1 r ∧ s.2.2.1 ≤ (turnSec ch s ns).1.2.2.1 ∧ (¬ (turnSec ch s ns).2.2 = 0 → (turnSec ch s ns).1 = s) ∧ Stay s (turnSec ch s ns).1 := by
  have hl := loose_ok h.may
  by_cases h0 : s.2.2.2 = []
  · have e : turnSec ch s ns = (s, [], 6) := by unfold turnSec; rw [if_neg (by omega), if_pos h0]
    rw [e]
    exact ⟨h, Int.le_refl _, fun _ => rfl, stay_refl h.may⟩
  · have e : turnSec ch s ns = ((s.1, s.2.1, s.2.2.1, (turnS ch ns s.2.2.2.length 0 s.2.2.2).1), (turnS ch ns s.2.2.2.length 0 s.2.2.2).2, 0) := by unfold turnSec; rw [if_neg (by omega), if_neg h0]
    rw [e]
    have hn := turn_names hc ns s.2.2.2
    have hm : May (s.1, s.2.1, s.2.2.1, (turnS ch ns s.2.2.2.length 0 s.2.2.2).1) r := may_rows h.may rfl rfl hn
    have key : ∀ y ∈ (turnS ch ns s.2.2.2.length 0 s.2.2.2).1, ∃ x ∈ s.2.2.2, y.1 = x.1 ∧ (y = x ∨ (x.2.2 = false ∧ y = ch x)) := by
      intro y hy
      obtain ⟨k, hk, rfl⟩ := mem_getD hy
      rw [turn_len] at hk
      rw [turn_get ch ns _ _ 0 k hk]
      refine ⟨_, Lib.getD_mem (0, false, false) s.2.2.2 k hk, ?_⟩
      split
      · rename_i hx; exact ⟨hc _, .inr ⟨hx.2, rfl⟩⟩
      · exact ⟨rfl, .inl rfl⟩
    refine ⟨⟨hm, fun y hy hd => ?_⟩, Int.le_refl _, fun h => absurd rfl h, fun x hx hd y hy e => ?_⟩
    · obtain ⟨x, hx, _, h2 | ⟨_, h2⟩⟩ := key y hy
      · rw [h2] at hd ⊢; exact h.gd x hx hd
      · rw [h2] at hd ⊢; exact hg x hd
    · obtain ⟨x', hx', h1, h2 | ⟨h3, h2⟩⟩ := key y hy
      · rw [h2]; rw [h2] at e; rw [rise_uniq h.may.2.2.1 x' hx' x hx e]; exact hd
      · have := rise_uniq h.may.2.2.1 x' hx' x hx (by rw [← h1]; exact e)
        rw [this, hd] at h3; cases h3
theorem conf_inv {s : Sec} {r : Rul} {most : Int} {cas : Bool} (h : Inv s r) : Inv (confS s r most cas).1 r ∧ s.2.2.1 ≤ (confS s r most cas).1.2.2.1 ∧ (¬ (confS s r most cas).2.2 = 0 → (confS s r most cas).1 = s) ∧ Stay s (confS s r most cas).1 := by
  by_cases he : ¬ checkS s r = 0 ∨ most < 0 ∨ 6 < most
  · rw [conf_no he]
    exact ⟨h, Int.le_refl _, fun _ => rfl, stay_refl h.may⟩
  · rw [conf_ok he]
    have h1 := h.may.1
    refine ⟨⟨fewer_may ?_ h.may.2.2.1 h.may.2.2.2, fun x hx hd => h.gd x (fewer_mem (s := (most, cas, s.2.2.1, s.2.2.2)) (r := r) hx) hd⟩, Int.le_refl _, fun h => absurd rfl h, fun x hx hd y hy e => stay_refl h.may x hx hd y (fewer_mem (s := (most, cas, s.2.2.1, s.2.2.2)) (r := r) hy) e⟩
    unfold RangeS at h1 ⊢; simp only; omega

/-! ### Ops -/
structure OpO where
  kind : Int
  cas : Int
  size : Int
  ns : List Int
  flag : Bool
def rowQ (o : OpO) (i : Nat) : SC := match i with | 0 => u8 o.kind | 1 => i6 o.cas | 2 => i6 o.size | 3 => .sl 1 Int 0 Fnv.rowI o.ns | _ => bo o.flag
def opq : OpO := ⟨0, 0, 0, [], false⟩
abbrev slQ (l : List OpO) : SC := .sl 5 OpO opq rowQ l
def stepS (s : Sec) (r : Rul) (o : OpO) : Sec × Int :=
  if Int.tmod o.kind 8 = 4 then ((turnSec delC s o.ns).1, (turnSec delC s o.ns).2.2) else
  if Int.tmod o.kind 8 = 5 then ((turnSec undC s o.ns).1, (turnSec undC s o.ns).2.2) else
  if Int.tmod o.kind 8 = 6 then ((turnSec desC s o.ns).1, (turnSec desC s o.ns).2.2) else
  if Int.tmod o.kind 8 = 7 then ((confS s r o.size o.flag).1, (confS s r o.size o.flag).2.2) else
  ((writeS s r o.cas o.size).1, (writeS s r o.cas o.size).2.2.2)
theorem step_inv {s : Sec} {r : Rul} (o : OpO) (h : Inv s r) : Inv (stepS s r o).1 r ∧ s.2.2.1 ≤ (stepS s r o).1.2.2.1 ∧ (¬ (stepS s r o).2 = 0 → (stepS s r o).1 = s) ∧ Stay s (stepS s r o).1 := by
  unfold stepS
  split
  · exact turn_inv del_n (fun x hx => by cases hx) h _
  · split
    · exact turn_inv und_n (fun x hx => by cases hx) h _
    · split
      · exact turn_inv des_n (fun x _ => rfl) h _
      · split
        · exact conf_inv h
        · exact write_inv h
def runS (r : Rul) (l : List OpO) : Sec := l.foldl (fun s o => (stepS s r o).1) (0, false, 0, [])
theorem run_step (r : Rul) (l : List OpO) (k : Nat) (hk : k < l.length) : (stepS (runS r (List.take k l)) r (List.getD l k opq)).1 = runS r (List.take (k + 1) l) := by
  rw [Lib.take_succ opq l k hk]; unfold runS; rw [List.foldl_append]; rfl
theorem fold_inv {r : Rul} : ∀ (l : List OpO) {s : Sec}, Inv s r → Inv (l.foldl (fun s o => (stepS s r o).1) s) r
  | [], _, h => h
  | o :: l, _, h => fold_inv l (step_inv o h).1
theorem run_inv {r : Rul} (h : 1 ≤ r.1 ∧ r.1 ≤ 6) (l : List OpO) : Inv (runS r l) r := fold_inv l (inv_zero h)
theorem inv_len {s : Sec} {r : Rul} (h : Inv s r) : s.2.2.2.length ≤ 6 := by
  have := h.may.2.1; have := keep_ok h.may.1; omega
def fewS (l : List OpO) : Bool := decide ((∀ o ∈ l, o.ns.length ≤ 20) ∧ l.length ≤ 60)
theorem few_len {l : List OpO} (h : fewS l = true) : l.length ≤ 60 := (of_decide_eq_true h).2
theorem few_no {l : List OpO} {i : Nat} (hi : i < l.length) (h : ¬ (List.getD l i opq).ns.length ≤ 20) : fewS l = false := decide_eq_false fun q => h (q.1 _ (Lib.getD_mem opq l i hi))
theorem few_end {l : List OpO} {i : Nat} (hi : l.length ≤ i) (h : ∀ o ∈ List.take i l, o.ns.length ≤ 20) : fewS l = decide ((List.length l : Int) ≤ 60) := by
  rw [List.take_of_length_le hi] at h
  unfold fewS
  rw [decide_eq_decide]
  exact ⟨fun q => by omega, fun q => ⟨h, by omega⟩⟩
theorem tmr {a b : Int} (h : 0 ≤ a) (hb : 0 < b) : 0 ≤ Int.tmod a b ∧ Int.tmod a b < b := ⟨Int.tmod_nonneg _ h, Int.tmod_lt_of_pos _ hb⟩
theorem r6 (x : Int) : 0 ≤ Int.tmod (IntKind.wrap .u64 x) 6 ∧ Int.tmod (IntKind.wrap .u64 x) 6 < 6 := by
  have h := (Fnv.wrap64 x).1
  exact ⟨Int.tmod_nonneg _ h, Int.tmod_lt_of_pos _ (by omega)⟩
theorem most_ok {s : Sec} {r : Rul} (h : May s r) : (s.2.2.2.length : Int) ≤ mostS s r := by unfold mostS; rw [if_pos (check_yes h)]; exact h.2.1
theorem read_num {s : Sec} {n : Int} (hn : ¬ n = 0) (hf : 0 ≤ findR s n) : ∃ y ∈ s.2.2.2, y.1 = n ∧ List.getD s.2.2.2 (findR s n).toNat (0, false, false) = y := by
  have hlt := findR_lt s n
  refine ⟨_, Lib.getD_mem (0, false, false) s.2.2.2 (findR s n).toNat (by omega), ?_, rfl⟩
  unfold findR at hf ⊢
  rw [if_neg hn] at hf ⊢
  exact of_decide_eq_true (Lib.idx_pos (p := fun x : RowV => decide (x.1 = n)) (0, false, false) hf).1
theorem dead_stays {s t : Sec} {r : Rul} (hs : May s r) (ht : May t r) (h : Stay s t) {x : RowV} (hx : x ∈ s.2.2.2) (hd : x.2.2 = true) (hf : ¬ (readS t x.1).2 = 6) : (readS t x.1).2 = 21 ∧ (readS t x.1).1.2.2 = true := by
  have hp := may_pos (check_yes hs) x hx
  have hl := loose_ok ht
  unfold readS at hf ⊢
  rw [if_neg (by omega)] at hf ⊢
  by_cases h6 : findR t x.1 < 0
  · rw [if_pos h6] at hf; exact absurd rfl hf
  · rw [if_neg h6]
    obtain ⟨y, hy, h1, h2⟩ := read_num (s := t) (n := x.1) (by omega) (by omega)
    have := h x hx hd y hy h1
    rw [h2, this]
    exact ⟨by simp, rfl⟩
theorem read_has {t : Sec} {r : Rul} (ht : May t r) {x : RowV} (hx : x ∈ t.2.2.2) : readS t x.1 = (x, if x.2.1 = true ∨ x.2.2 = true then 21 else 0) := by
  have hp := may_pos (check_yes ht) x hx
  have hl := loose_ok ht
  have hf : 0 ≤ findR t x.1 := by
    apply Classical.byContradiction
    intro hn
    unfold findR at hn
    rw [if_neg (by omega)] at hn
    have := Lib.idx_neg (p := fun y : RowV => decide (y.1 = x.1)) (l := t.2.2.2) (by omega) x hx
    simp at this
  obtain ⟨y, hy, h1, h2⟩ := read_num (s := t) (n := x.1) (by omega) hf
  have e := rise_uniq ht.2.2.1 y hy x hx h1
  unfold readS
  rw [if_neg (by omega), if_neg (by omega), h2, e]

/-! ### Undone -/
theorem turn_ok (ch : RowV → RowV) {s : Sec} {r : Rul} (h : May s r) (h0 : ¬ s.2.2.2 = []) (ns : List Int) :
    turnSec ch s ns = ((s.1, s.2.1, s.2.2.1, (turnS ch ns s.2.2.2.length 0 s.2.2.2).1), (turnS ch ns s.2.2.2.length 0 s.2.2.2).2, 0) := by
  unfold turnSec; rw [if_neg (by have := loose_ok h; omega), if_neg h0]
theorem turn_nil (ch : RowV → RowV) {s : Sec} {r : Rul} (h : May s r) (h0 : s.2.2.2 = []) (ns : List Int) : turnSec ch s ns = (s, [], 6) := by
  unfold turnSec; rw [if_neg (by have := loose_ok h; omega), if_pos h0]
theorem turn_rows (ch : RowV → RowV) {s : Sec} {r : Rul} (h : May s r) (h0 : ¬ s.2.2.2 = []) (ns : List Int) : (turnSec ch s ns).1.2.2.2.length = s.2.2.2.length ∧ (turnSec ch s ns).2.2 = 0 ∧ (turnSec ch s ns).2.1.length ≤ s.2.2.2.length ∧
    ∀ k, k < s.2.2.2.length → List.getD (turnSec ch s ns).1.2.2.2 k (0, false, false) = if Meant ns k s.2.2.2.length (List.getD s.2.2.2 k (0, false, false)) ∧ (List.getD s.2.2.2 k (0, false, false)).2.2 = false then ch (List.getD s.2.2.2 k (0, false, false)) else List.getD s.2.2.2 k (0, false, false) := by
  rw [turn_ok ch h h0]
  exact ⟨turn_len _ _ _ _ _, rfl, turn_out _ _ _ _ _, fun k hk => by have := turn_get ch ns s.2.2.2.length s.2.2.2 0 k hk; rwa [Nat.zero_add] at this⟩
theorem undo_facts {s : Sec} {r : Rul} (h : Inv s r) (h0 : ¬ s.2.2.2 = []) (ns : List Int) :
    ((turnSec delC s ns).2.2 = 0 ∧ (turnSec undC (turnSec delC s ns).1 ns).2.2 = 0 ∧ (turnSec desC s ns).2.2 = 0 ∧ (turnSec undC (turnSec desC s ns).1 ns).2.2 = 0) ∧ (turnSec desC s ns).1 = (turnSec undC (turnSec desC s ns).1 ns).1 ∧
    ((turnSec delC s ns).1.2.2.2.length = s.2.2.2.length ∧ (turnSec undC (turnSec delC s ns).1 ns).1.2.2.2.length = s.2.2.2.length ∧ (turnSec desC s ns).1.2.2.2.length = s.2.2.2.length) ∧ (turnSec desC s ns).2.1.length ≤ s.2.2.2.length ∧
    ∀ k, k < s.2.2.2.length →
      (¬ Meant ns k s.2.2.2.length (List.getD s.2.2.2 k (0, false, false)) → List.getD (turnSec delC s ns).1.2.2.2 k (0, false, false) = List.getD s.2.2.2 k (0, false, false) ∧
        List.getD (turnSec undC (turnSec delC s ns).1 ns).1.2.2.2 k (0, false, false) = List.getD s.2.2.2 k (0, false, false) ∧ List.getD (turnSec desC s ns).1.2.2.2 k (0, false, false) = List.getD s.2.2.2 k (0, false, false)) ∧
      (Meant ns k s.2.2.2.length (List.getD s.2.2.2 k (0, false, false)) →
        List.getD (turnSec delC s ns).1.2.2.2 k (0, false, false) = ((List.getD s.2.2.2 k (0, false, false)).1, !(List.getD s.2.2.2 k (0, false, false)).2.2, (List.getD s.2.2.2 k (0, false, false)).2.2) ∧
        List.getD (turnSec undC (turnSec delC s ns).1 ns).1.2.2.2 k (0, false, false) = ((List.getD s.2.2.2 k (0, false, false)).1, false, (List.getD s.2.2.2 k (0, false, false)).2.2) ∧
        List.getD (turnSec desC s ns).1.2.2.2 k (0, false, false) = ((List.getD s.2.2.2 k (0, false, false)).1, false, true) ∧
        (readS (turnSec delC s ns).1 (List.getD s.2.2.2 k (0, false, false)).1).2 = 21 ∧ (readS (turnSec delC s ns).1 (List.getD s.2.2.2 k (0, false, false)).1).1.1 = (List.getD s.2.2.2 k (0, false, false)).1) := by
  obtain ⟨ha, -, -, -⟩ := turn_inv (ch := delC) del_n (fun x hx => by cases hx) h ns
  obtain ⟨hc, -, -, -⟩ := turn_inv (ch := desC) des_n (fun x _ => rfl) h ns
  obtain ⟨a1, a2, a3, a4⟩ := turn_rows delC h.may h0 ns
  obtain ⟨c1, c2, c3, c4⟩ := turn_rows desC h.may h0 ns
  have hne : ∀ t : Sec, t.2.2.2.length = s.2.2.2.length → ¬ t.2.2.2 = [] := fun t ht e => by rw [e] at ht; exact h0 (List.eq_nil_of_length_eq_zero ht.symm)
  obtain ⟨b1, b2, b3, b4⟩ := turn_rows undC ha.may (hne _ a1) ns
  obtain ⟨d1, d2, d3, d4⟩ := turn_rows undC hc.may (hne _ c1) ns
  rw [a1] at b4
  rw [c1] at d4
  refine ⟨⟨a2, b2, c2, d2⟩, ?_, ⟨a1, b1.trans a1, c1⟩, c3, fun k hk => ?_⟩
  · have e : (turnSec desC s ns).1.2.2.2 = (turnSec undC (turnSec desC s ns).1 ns).1.2.2.2 := by
      refine list_ext d1.symm fun k hk => ?_
      rw [c1] at hk
      rw [d4 k hk, c4 k hk]
      generalize List.getD s.2.2.2 k (0, false, false) = x
      obtain ⟨n, gn, d⟩ := x
      by_cases hm : Meant ns k s.2.2.2.length (n, gn, d)
      · cases d with
        | true =>
          rw [if_neg (fun q => by cases q.2), if_neg (fun q => by cases q.2)]
        | false => rw [if_pos ⟨hm, rfl⟩, if_neg (fun q => by cases q.2)]
      · rw [if_neg (fun q => hm q.1), if_neg (fun q => hm q.1)]
    rw [turn_ok undC hc.may (hne _ c1) ns] at e ⊢
    exact Prod.ext rfl (Prod.ext rfl (Prod.ext rfl e))
  · have hgd := h.gd _ (Lib.getD_mem (0, false, false) s.2.2.2 k hk)
    have hread := read_has ha.may (Lib.getD_mem (0, false, false) (turnSec delC s ns).1.2.2.2 k (by omega))
    rw [b4 k hk, c4 k hk]
    rw [a4 k hk] at hread ⊢
    generalize List.getD s.2.2.2 k (0, false, false) = x at *
    obtain ⟨n, gn, d⟩ := x
    refine ⟨fun hm => ?_, fun hm => ?_⟩
    · rw [if_neg (fun q => hm q.1), if_neg (fun q => hm q.1), if_neg (fun q => hm q.1)]
      exact ⟨rfl, rfl, rfl⟩
    · cases d with
      | true =>
        have hg := hgd rfl
        simp only at hg
        subst hg
        simp only [Bool.true_eq_false, and_false, if_false] at hread ⊢
        rw [hread]
        simp
      | false =>
        have hm2 : Meant ns k s.2.2.2.length (delC (n, gn, false)) := hm
        rw [if_pos ⟨hm, rfl⟩] at hread ⊢
        rw [show (delC (n, gn, false)).1 = n from rfl] at hread
        rw [if_pos ⟨hm2, rfl⟩, if_pos ⟨hm, rfl⟩]
        simp only [hread]
        simp [delC, undC, desC]

/-! ### Once -/
theorem write_once {s : Sec} {r : Rul} {c : Int} (h : Inv s r) (hc : 0 ≤ c) : ((writeS s r c 1).2.2.2 = 0 ∧ s.2.2.1 = c ∧ s.2.2.1 < 30 ∧ (writeS s r c 1).1.2.2.1 = c + 1) ∨
    (((writeS s r c 1).2.2.2 = 16 ∨ (writeS s r c 1).2.2.2 = 19) ∧ (writeS s r c 1).1 = s ∧ ¬ (s.2.2.1 = c ∧ s.2.2.1 < 30)) := by
  have h1 := check_yes h.may
  have h2 := h.may.1
  unfold RangeS at h2
  have hr : refuseS s r c 1 = if ¬ c = s.2.2.1 then 16 else if s.2.2.1 = 30 then 19 else 0 := by unfold refuseS; grind
  by_cases e : refuseS s r c 1 = 0
  · left
    rw [write_ok e]
    rw [hr] at e
    refine ⟨rfl, ?_, ?_, ?_⟩
    · grind
    · grind
    · show s.2.2.1 + 1 = c + 1; grind
  · right
    rw [write_no rfl e, hr]
    refine ⟨?_, rfl, ?_⟩ <;> grind
theorem write_none {s : Sec} {r : Rul} (h : Inv s r) (hr : r.2 = false) : (s.2.1 = true → (writeS s r (-1) 1).2.2.2 = 17 ∧ (writeS s r (-1) 1).2.1 = 0) ∧
    (s.2.1 = false → ((writeS s r (-1) 1).2.2.2 = 0 ∧ s.2.2.1 < 30 ∧ (writeS s r (-1) 1).2.1 = s.2.2.1 + 1) ∨ (¬ (writeS s r (-1) 1).2.2.2 = 0 ∧ ¬ s.2.2.1 < 30)) := by
  have h1 := check_yes h.may
  have h2 := h.may.1
  unfold RangeS at h2
  constructor
  · intro hc
    have e : refuseS s r (-1) 1 = 17 := by unfold refuseS; grind
    rw [write_no e (by omega)]
    exact ⟨rfl, rfl⟩
  · intro hc
    have hq : refuseS s r (-1) 1 = if s.2.2.1 = 30 then 19 else 0 := by unfold refuseS; grind
    by_cases e : s.2.2.1 = 30
    · right
      rw [if_pos e] at hq
      rw [write_no hq (by omega)]
      exact ⟨by simp, by omega⟩
    · left
      rw [if_neg e] at hq
      rw [write_ok hq]
      exact ⟨rfl, by omega, rfl⟩
theorem write_len (s : Sec) (r : Rul) (cas size : Int) : (writeS s r cas size).1.2.2.2.length ≤ s.2.2.2.length + 1 := by
  by_cases e : refuseS s r cas size = 0
  · rw [write_ok e]
    show (List.drop _ (s.2.2.2 ++ [_])).length ≤ _
    rw [List.length_drop, List.length_append, List.length_singleton]
    omega
  · rw [write_no rfl e]; simp
theorem turn_len2 (ch : RowV → RowV) (s : Sec) (ns : List Int) : (turnSec ch s ns).1.2.2.2.length ≤ s.2.2.2.length ∧ (turnSec ch s ns).2.1.length ≤ s.2.2.2.length := by
  unfold turnSec
  split
  · exact ⟨Nat.le_refl _, by simp⟩
  · split
    · exact ⟨Nat.le_refl _, by simp⟩
    · exact ⟨Nat.le_of_eq (turn_len _ _ _ _ _), turn_out _ _ _ _ _⟩
theorem conf_len (s : Sec) (r : Rul) (most : Int) (cas : Bool) : (confS s r most cas).1.2.2.2.length ≤ s.2.2.2.length ∧ (confS s r most cas).2.1.length ≤ s.2.2.2.length := by
  unfold confS
  split
  · exact ⟨Nat.le_refl _, by simp⟩
  · refine ⟨?_, ?_⟩
    · show (List.drop _ s.2.2.2).length ≤ _; rw [List.length_drop]; omega
    · show (namesR (List.take _ s.2.2.2)).length ≤ _; rw [namesR_len, List.length_take]; omega
theorem write_out (s : Sec) (r : Rul) (cas size : Int) : (writeS s r cas size).2.2.1.length ≤ s.2.2.2.length + 1 := by
  by_cases e : refuseS s r cas size = 0
  · rw [write_ok e]
    show (namesR (List.take _ (s.2.2.2 ++ [_]))).length ≤ _
    rw [namesR_len, List.length_take, List.length_append, List.length_singleton]; omega
  · rw [write_no rfl e]; simp
end AL.Secret
