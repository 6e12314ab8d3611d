/- secret: what its functions compute, in plain Lean. No condition. -/
import Derived.Test.YtfedegdihgeelaaDoorLibD
import Derived.Test.YtfedegdihgeelaaDoorALe
namespace AL.Secret
open Go AL
set_option linter.unusedVariables false
set_option linter.unusedSimpArgs false

/-- A version: its number, gone, dead. -/
abbrev RowV := Int × Bool × Bool
/-- Most, cas, last, rows. -/
abbrev Sec := Int × Bool × Int × List RowV
abbrev Rul := Int × Bool
abbrev Wri := Rul × Int × Int
def rowR (x : RowV) (i : Nat) : SC := match i with | 0 => i6 x.1 | 1 => bo x.2.1 | _ => bo x.2.2
abbrev slR (l : List RowV) : SC := .sl 3 RowV (0, false, false) rowR l
def rd : RowV := (0, false, false)
def rowSec (s : Sec) (i : Nat) : SC := match i with | 0 => i6 s.1 | 1 => bo s.2.1 | 2 => i6 s.2.2.1 | _ => slR s.2.2.2
def rowRul (r : Rul) (i : Nat) : SC := match i with | 0 => i6 r.1 | _ => bo r.2
def rowWri (w : Wri) (i : Nat) : SC := match i with | 0 => i6 w.1.1 | 1 => bo w.1.2 | 2 => i6 w.2.1 | _ => i6 w.2.2
def loose : Rul := (6, false)
def keepS (s : Sec) (r : Rul) : Int := if s.1 = 0 then r.1 else s.1
def riseS (a : Int) : List RowV → Bool
  | [] => true
  | x :: l => decide (a < x.1) && riseS x.1 l
def newS (l : List RowV) : Int := (List.getD l (l.length - 1) (0, false, false)).1
def RangeS (s : Sec) (r : Rul) : Prop := 1 ≤ r.1 ∧ r.1 ≤ 6 ∧ 0 ≤ s.1 ∧ s.1 ≤ 6 ∧ 0 ≤ s.2.2.1 ∧ s.2.2.1 ≤ 30
instance (s : Sec) (r : Rul) : Decidable (RangeS s r) := inferInstanceAs (Decidable (_ ∧ _))
/-- A secret that may be. -/
def May (s : Sec) (r : Rul) : Prop := RangeS s r ∧ (s.2.2.2.length : Int) ≤ keepS s r ∧ riseS 0 s.2.2.2 = true ∧ newS s.2.2.2 = s.2.2.1
instance (s : Sec) (r : Rul) : Decidable (May s r) := inferInstanceAs (Decidable (_ ∧ _))
def checkS (s : Sec) (r : Rul) : Int := if May s r then 0 else 2
theorem check_may {s : Sec} {r : Rul} : checkS s r = 0 ↔ May s r := by unfold checkS; split <;> simp_all
theorem check_yes {s : Sec} {r : Rul} (h : May s r) : checkS s r = 0 := if_pos h
theorem check_no {s : Sec} {r : Rul} (h : ¬ May s r) : checkS s r = 2 := if_neg h
theorem check_two {s : Sec} {r : Rul} (h : ¬ checkS s r = 0) : checkS s r = 2 := check_no fun hm => h (check_yes hm)
def mostS (s : Sec) (r : Rul) : Int := if checkS s r = 0 then keepS s r else 0

theorem rise_go {a : Int} {l : List RowV} {k : Nat} (h : k < l.length) : riseS a (List.drop k l) = (decide (a < (List.getD l k (0, false, false)).1) && riseS (List.getD l k (0, false, false)).1 (List.drop (k + 1) l)) := by
  rw [Lib.drop_cons (0, false, false) l k h]; rfl
theorem rise_end {a : Int} {l : List RowV} {k : Nat} (h : l.length ≤ k) : riseS a (List.drop k l) = true := by rw [List.drop_of_length_le h]; rfl
theorem rise_mem : ∀ {l : List RowV} {a : Int}, riseS a l = true → ∀ x ∈ l, a < x.1
  | [], _, _, x, hx => by cases hx
  | y :: l, a, h, x, hx => by
    simp only [riseS, Bool.and_eq_true, decide_eq_true_eq] at h
    rcases List.mem_cons.1 hx with rfl | hx
    · exact h.1
    · have := rise_mem h.2 x hx; omega
theorem new_cons (x y : RowV) (l : List RowV) : newS (x :: y :: l) = newS (y :: l) := by simp [newS]
theorem rise_new : ∀ {l : List RowV} {a : Int}, riseS a l = true → ∀ x ∈ l, x.1 ≤ newS l
  | [], _, _, x, hx => by cases hx
  | [y], a, h, x, hx => by rw [List.mem_singleton.1 hx]; exact Int.le_refl _
  | y :: z :: l, a, h, x, hx => by
    simp only [riseS, Bool.and_eq_true, decide_eq_true_eq] at h
    rw [new_cons]
    have h2 : riseS y.1 (z :: l) = true := by simp only [riseS, Bool.and_eq_true, decide_eq_true_eq]; exact h.2
    rcases List.mem_cons.1 hx with rfl | hx
    · have h3 := rise_new h2 z (List.mem_cons_self ..)
      omega
    · exact rise_new h2 x hx
theorem new_nil : newS [] = 0 := rfl
theorem new_at {l : List RowV} : newS l = (List.getD l (((List.length l : Int)) - 1).toNat (0, false, false)).1 := by
  unfold newS; congr 2; omega
theorem new_mem {l : List RowV} (h : l ≠ []) : ∃ x ∈ l, x.1 = newS l := by
  have hl := List.length_pos_iff.2 h
  exact ⟨_, Lib.getD_mem (0, false, false) l (l.length - 1) (by omega), rfl⟩

/-! ### Fewer -/
def fewN (s : Sec) (r : Rul) : Nat := (max 0 ((List.length s.2.2.2 : Int) - keepS s r)).toNat
def namesR (l : List RowV) : List Int := l.map (·.1)
def fewerS (s : Sec) (r : Rul) : Sec × List Int := ((s.1, s.2.1, s.2.2.1, List.drop (fewN s r) s.2.2.2), namesR (List.take (fewN s r) s.2.2.2))
theorem namesR_len (l : List RowV) : (namesR l).length = l.length := List.length_map _
theorem namesR_step (l : List RowV) (k : Nat) (hk : k < l.length) : namesR (List.take k l) ++ [(List.getD l k (0, false, false)).1] = namesR (List.take (k + 1) l) := by
  rw [Lib.take_succ (0, false, false) l k hk]; simp [namesR]
theorem fewN_le {s : Sec} {r : Rul} (h : 0 ≤ keepS s r) : fewN s r ≤ s.2.2.2.length := by unfold fewN; omega

/-! ### Written -/
def refuseS (s : Sec) (r : Rul) (cas size : Int) : Int :=
  if ¬ checkS s r = 0 ∨ cas < -1 ∨ size < 0 then 2 else if 96 < size then 18 else if cas = -1 ∧ (s.2.1 = true ∨ r.2 = true) then 17 else
  if ¬ cas = -1 ∧ ¬ cas = s.2.2.1 then 16 else if s.2.2.1 = 30 then 19 else 0
def nextS (s : Sec) : Sec := (s.1, s.2.1, s.2.2.1 + 1, s.2.2.2 ++ [(s.2.2.1 + 1, false, false)])
def writeS (s : Sec) (r : Rul) (cas size : Int) : Sec × Int × List Int × Int :=
  if ¬ refuseS s r cas size = 0 then (s, 0, [], refuseS s r cas size) else ((fewerS (nextS s) r).1, s.2.2.1 + 1, (fewerS (nextS s) r).2, 0)
theorem write_no {s : Sec} {r : Rul} {cas size e : Int} (h : refuseS s r cas size = e) (h2 : ¬ e = 0) : writeS s r cas size = (s, 0, [], e) := by
  unfold writeS; rw [h, if_pos h2]
theorem write_ok {s : Sec} {r : Rul} {cas size : Int} (h : refuseS s r cas size = 0) : writeS s r cas size = ((fewerS (nextS s) r).1, s.2.2.1 + 1, (fewerS (nextS s) r).2, 0) := by
  unfold writeS; rw [h]; rfl

/-! ### Read -/
def findR (s : Sec) (n : Int) : Int := if n = 0 then (List.length s.2.2.2 : Int) - 1 else Lib.idxS (fun x : RowV => decide (x.1 = n)) s.2.2.2
def readS (s : Sec) (n : Int) : RowV × Int :=
  if ¬ checkS s loose = 0 then ((0, false, false), 2) else if findR s n < 0 then ((0, false, false), 6) else
  (List.getD s.2.2.2 (findR s n).toNat (0, false, false), if (List.getD s.2.2.2 (findR s n).toNat (0, false, false)).2.1 = true ∨ (List.getD s.2.2.2 (findR s n).toNat (0, false, false)).2.2 = true then 21 else 0)
theorem findR_lt (s : Sec) (n : Int) : findR s n < (List.length s.2.2.2 : Int) := by
  unfold findR; split
  · omega
  · exact Lib.idx_lt _ _

/-! ### Turned -/
def Meant (ns : List Int) (i n : Nat) (x : RowV) : Prop := x.1 ∈ ns ∨ (ns = [] ∧ i + 1 = n)
instance (ns : List Int) (i n : Nat) (x : RowV) : Decidable (Meant ns i n x) := inferInstanceAs (Decidable (_ ∨ _))
def turnS (ch : RowV → RowV) (ns : List Int) (n : Nat) : Nat → List RowV → List RowV × List Int
  | _, [] => ([], [])
  | i, x :: l => if Meant ns i n x ∧ x.2.2 = false then (ch x :: (turnS ch ns n (i + 1) l).1, x.1 :: (turnS ch ns n (i + 1) l).2) else (x :: (turnS ch ns n (i + 1) l).1, (turnS ch ns n (i + 1) l).2)
def turnSec (ch : RowV → RowV) (s : Sec) (ns : List Int) : Sec × List Int × Int :=
  if ¬ checkS s loose = 0 then (s, [], 2) else if s.2.2.2 = [] then (s, [], 6) else
  ((s.1, s.2.1, s.2.2.1, (turnS ch ns s.2.2.2.length 0 s.2.2.2).1), (turnS ch ns s.2.2.2.length 0 s.2.2.2).2, 0)
def delC (x : RowV) : RowV := (x.1, true, false)
def undC (x : RowV) : RowV := (x.1, false, false)
def desC (x : RowV) : RowV := (x.1, false, true)
def whatC (w : Int) (x : RowV) : RowV := if w = 2 then (x.1, false, true) else (x.1, decide (w = 0), x.2.2)
def TurnI (ch : RowV → RowV) (ns : List Int) (l : List RowV) (k : Nat) (pre : List RowV) (out : List Int) : Prop :=
  pre.length = k ∧ out.length ≤ k ∧ turnS ch ns l.length 0 l = (pre ++ (turnS ch ns l.length k (List.drop k l)).1, out ++ (turnS ch ns l.length k (List.drop k l)).2)
theorem turn_start (ch : RowV → RowV) (ns : List Int) (l : List RowV) : TurnI ch ns l 0 [] [] := ⟨rfl, Nat.le_refl _, rfl⟩
theorem turn_yes {ch : RowV → RowV} {ns : List Int} {l : List RowV} {k : Nat} {pre : List RowV} {out : List Int} (hI : TurnI ch ns l k pre out) (hk : k < l.length)
    (hm : Meant ns k l.length (List.getD l k (0, false, false))) (hd : (List.getD l k (0, false, false)).2.2 = false) : TurnI ch ns l (k + 1) (pre ++ [ch (List.getD l k (0, false, false))]) (out ++ [(List.getD l k (0, false, false)).1]) := by
  obtain ⟨h1, h2, h3⟩ := hI
  refine ⟨by simp [h1], by simp; omega, ?_⟩
  rw [h3, Lib.drop_cons (0, false, false) l k hk, turnS, if_pos ⟨hm, hd⟩]
  simp
theorem turn_no {ch : RowV → RowV} {ns : List Int} {l : List RowV} {k : Nat} {pre : List RowV} {out : List Int} (hI : TurnI ch ns l k pre out) (hk : k < l.length)
    (hm : ¬ (Meant ns k l.length (List.getD l k (0, false, false)) ∧ (List.getD l k (0, false, false)).2.2 = false)) : TurnI ch ns l (k + 1) (pre ++ [List.getD l k (0, false, false)]) out := by
  obtain ⟨h1, h2, h3⟩ := hI
  refine ⟨by simp [h1], by omega, ?_⟩
  rw [h3, Lib.drop_cons (0, false, false) l k hk, turnS, if_neg hm]
  simp
theorem turn_end {ch : RowV → RowV} {ns : List Int} {l : List RowV} {k : Nat} {pre : List RowV} {out : List Int} (hI : TurnI ch ns l k pre out) (hk : l.length ≤ k) : turnS ch ns l.length 0 l = (pre ++ List.drop k l, out) := by
  rw [hI.2.2, List.drop_of_length_le hk]; simp [turnS]
theorem pre_get {pre l : List RowV} {k : Nat} (h : pre.length = k) : List.getD (pre ++ List.drop k l) k (0, false, false) = List.getD l k (0, false, false) := by
  subst h
  simp only [List.getD_eq_getElem?_getD]
  rw [List.getElem?_append_right (Nat.le_refl _), Nat.sub_self, List.getElem?_drop, Nat.add_zero]
theorem pre_set {pre l : List RowV} {k : Nat} {x : RowV} (h : pre.length = k) (hk : k < l.length) : List.set (pre ++ List.drop k l) k x = (pre ++ [x]) ++ List.drop (k + 1) l := by
  rw [Lib.drop_cons (0, false, false) l k hk, List.set_append_right _ _ (by omega), h, Nat.sub_self]
  simp
theorem pre_keep {pre l : List RowV} {k : Nat} (hk : k < l.length) : pre ++ List.drop k l = (pre ++ [List.getD l k (0, false, false)]) ++ List.drop (k + 1) l := by
  rw [Lib.drop_cons (0, false, false) l k hk]; simp
theorem pre_len {pre l : List RowV} {k : Nat} (h : pre.length = k) (hk : k ≤ l.length) : (pre ++ List.drop k l).length = l.length := by simp [h]; omega
theorem turn_same {ch ch' : RowV → RowV} {ns : List Int} {n : Nat} (h : ∀ x : RowV, x.2.2 = false → ch x = ch' x) : ∀ (l : List RowV) (i : Nat), turnS ch ns n i l = turnS ch' ns n i l
  | [], _ => rfl
  | x :: l, i => by
    unfold turnS
    rw [turn_same h l (i + 1)]
    split
    · rename_i hx; rw [h x hx.2]
    · rfl
def confS (s : Sec) (r : Rul) (most : Int) (cas : Bool) : Sec × List Int × Int :=
  if ¬ checkS s r = 0 ∨ most < 0 ∨ 6 < most then (s, [], 2) else ((fewerS (most, cas, s.2.2.1, s.2.2.2) r).1, (fewerS (most, cas, s.2.2.1, s.2.2.2) r).2, 0)
def sameS (a b : Sec) : Bool := decide (a = b)
theorem keep_ok {s : Sec} {r : Rul} (h : RangeS s r) : 0 ≤ keepS s r ∧ keepS s r ≤ 6 := by unfold RangeS at h; unfold keepS; split <;> omega
theorem may_fin {s : Sec} {r : Rul} (h1 : RangeS s r) (h2 : (s.2.2.2.length : Int) ≤ keepS s r) (h3 : riseS 0 s.2.2.2 = true) : checkS s r = 0 ↔ newS s.2.2.2 = s.2.2.1 := by
  rw [check_may]
  exact ⟨fun h => h.2.2.2, fun h => ⟨h1, h2, h3, h⟩⟩
theorem may_last {s : Sec} {r : Rul} (h1 : RangeS s r) (h2 : (s.2.2.2.length : Int) ≤ keepS s r) (h3 : riseS 0 s.2.2.2 = true) (h4 : 0 < s.2.2.1) :
    decide (checkS s r = 0) = (decide ((0 : Int) < List.length s.2.2.2) && decide ((List.getD s.2.2.2 ((List.length s.2.2.2 : Int) - 1).toNat (0, false, false)).1 = s.2.2.1)) := by
  rw [← new_at]
  by_cases hq : newS s.2.2.2 = s.2.2.1
  · have hl : s.2.2.2 ≠ [] := fun e => by rw [e, new_nil] at hq; omega
    have := List.length_pos_iff.2 hl
    rw [decide_eq_true ((may_fin h1 h2 h3).2 hq), decide_eq_true hq, decide_eq_true (by omega)]
    rfl
  · rw [decide_eq_false (fun h => hq ((may_fin h1 h2 h3).1 h)), decide_eq_false hq, Bool.and_false]
theorem may_zero {s : Sec} {r : Rul} (h1 : RangeS s r) (h2 : (s.2.2.2.length : Int) ≤ keepS s r) (h3 : riseS 0 s.2.2.2 = true) (h4 : ¬ 0 < s.2.2.1) (h5 : ∀ x ∈ s.2.2.2, 1 ≤ x.1 ∧ x.1 ≤ s.2.2.1) : checkS s r = 0 := by
  rw [may_fin h1 h2 h3]
  unfold RangeS at h1
  cases hl : s.2.2.2 with
  | nil => rw [new_nil]; omega
  | cons x l => have := h5 x (by rw [hl]; exact List.mem_cons_self ..); omega
theorem rise_not {a : Int} {l : List RowV} {i : Nat} (hR : riseS 0 l = riseS a (List.drop i l)) (hi : i < l.length) (h : riseS 0 l = true) : a < (List.getD l i (0, false, false)).1 ∧ (List.getD l i (0, false, false)).1 ≤ newS l := by
  refine ⟨?_, rise_new h _ (Lib.getD_mem _ _ _ hi)⟩
  rw [hR, rise_go hi, Bool.and_eq_true, decide_eq_true_eq] at h
  exact h.1
theorem keep_any {s : Sec} {r : Rul} (h : RangeS s r) : 0 ≤ keepS s r ∧ keepS s r ≤ 1000 := by have := keep_ok h; omega
theorem few_step {s : Sec} {m : Nat} (h : m < s.2.2.2.length) : namesR (List.take m s.2.2.2) ++ [(List.getD (List.drop m s.2.2.2) 0 (0, false, false)).1] = namesR (List.take (m + 1) s.2.2.2) := by
  rw [← namesR_step _ m h, Lib.drop_cons (0, false, false) _ m h]; rfl
theorem drop_step (l : List RowV) (m : Nat) : [] ++ List.drop 1 (List.drop m l) = List.drop (m + 1) l := by rw [List.nil_append, List.drop_drop]
theorem refuse_may {s : Sec} {r : Rul} {cas size : Int} (h : refuseS s r cas size = 0) : May s r ∧ ¬ s.2.2.1 = 30 := by
  unfold refuseS at h
  split at h
  · omega
  · rename_i h1
    refine ⟨check_may.1 (by omega), ?_⟩
    repeat' split at h
    all_goals omega
theorem idx_mem {l : List Int} {v : Int} : 0 ≤ Lib.idxS (fun y => decide (v = y)) l ↔ v ∈ l := by
  constructor
  · intro h
    have h1 := (Lib.idx_pos 0 h).1
    have h2 := Lib.idx_lt (fun y => decide (v = y)) l
    have h3 := Lib.getD_mem 0 l (Lib.idxS (fun y => decide (v = y)) l).toNat (by omega)
    have h1 := of_decide_eq_true h1
    rwa [← h1] at h3
  · intro h
    apply Classical.byContradiction
    intro hn
    have := Lib.idx_neg (p := fun y => decide (v = y)) (l := l) (by omega) v h
    simp at this
theorem may_pos {s : Sec} {r : Rul} (h : checkS s r = 0) : ∀ x ∈ s.2.2.2, 1 ≤ x.1 := fun x hx => by
  have := rise_mem (check_may.1 h).2.2.1 x hx; omega
theorem read_hit {s : Sec} {n : Int} {i : Nat} (h : checkS s loose = 0) (hi : i < s.2.2.2.length) (hA : ∀ x ∈ List.take i s.2.2.2, decide (x.1 = n) = false)
    (hx : (List.getD s.2.2.2 i (0, false, false)).1 = n ∨ (n = 0 ∧ (i : Int) = (List.length s.2.2.2 : Int) - 1)) : findR s n = i := by
  have hp := may_pos h _ (Lib.getD_mem (0, false, false) s.2.2.2 i hi)
  unfold findR
  rcases hx with hx | ⟨h1, h2⟩
  · rw [if_neg (by omega)]
    exact Lib.idx_hit (0, false, false) _ i hi hA (decide_eq_true hx)
  · rw [if_pos h1, h2]
theorem read_miss {s : Sec} {n : Int} {i : Nat} (hi : s.2.2.2.length ≤ i) (hA : ∀ x ∈ List.take i s.2.2.2, decide (x.1 = n) = false) (h0 : n = 0 → i < s.2.2.2.length ∨ s.2.2.2.length = 0) : findR s n < 0 := by
  unfold findR
  split
  · rename_i h; have := h0 h; omega
  · rw [List.take_of_length_le hi] at hA
    rw [Lib.idx_none hA]; omega
theorem read_at {s : Sec} {n : Int} {i : Nat} {e : Int} (h : checkS s loose = 0) (hf : findR s n = i)
    (he : e = if (List.getD s.2.2.2 i (0, false, false)).2.1 = true ∨ (List.getD s.2.2.2 i (0, false, false)).2.2 = true then 21 else 0) : readS s n = (List.getD s.2.2.2 i (0, false, false), e) := by
  unfold readS
  rw [if_neg (by omega), if_neg (by omega), hf, he]
  rfl
theorem same_eq (a b : Sec) : decide (a = b) = (((decide (a.1 = b.1) && (a.2.1 == b.2.1)) && decide (a.2.2.1 = b.2.2.1)) && decide (a.2.2.2 = b.2.2.2)) := by
  rw [Bool.eq_iff_iff]; simp [Prod.ext_iff, and_assoc]
def refTurn (w : Int) (s : Sec) (ns : List Int) : Sec × List Int × Int := ((turnSec (whatC w) s ns).1, if w = 2 then (turnSec (whatC w) s ns).2.1 else [], (turnSec (whatC w) s ns).2.2)
theorem turn_del (s : Sec) (ns : List Int) : turnSec (whatC 0) s ns = turnSec delC s ns := by unfold turnSec; rw [turn_same (ch' := delC) (fun x hx => by simp [whatC, delC, hx])]
theorem turn_und (s : Sec) (ns : List Int) : turnSec (whatC 1) s ns = turnSec undC s ns := by unfold turnSec; rw [turn_same (ch' := undC) (fun x hx => by simp [whatC, undC, hx])]
theorem turn_des (s : Sec) (ns : List Int) : turnSec (whatC 2) s ns = turnSec desC s ns := by unfold turnSec; rw [turn_same (ch' := desC) (fun x hx => by simp [whatC, desC])]
theorem refT_arg {w : Int} {s : Sec} {ns : List Int} (h : ¬ checkS s loose = 0) : refTurn w s ns = (s, [], 2) := by unfold refTurn turnSec; simp [h]
theorem refT_none {w : Int} {s : Sec} {ns : List Int} (h : checkS s loose = 0) (h2 : s.2.2.2 = []) : refTurn w s ns = (s, [], 6) := by unfold refTurn turnSec; simp [h, h2]
theorem turn_fin {ch : RowV → RowV} {s : Sec} {ns : List Int} {k : Nat} {pre : List RowV} {out : List Int} (h : checkS s loose = 0) (h2 : ¬ s.2.2.2 = []) (hT : TurnI ch ns s.2.2.2 k pre out) (hk : s.2.2.2.length ≤ k) :
    turnSec ch s ns = ((s.1, s.2.1, s.2.2.1, pre ++ List.drop k s.2.2.2), out, 0) := by
  unfold turnSec; rw [if_neg (by omega), if_neg h2, turn_end hT hk]
theorem refT_fin {w : Int} {s : Sec} {ns : List Int} {k : Nat} {pre : List RowV} {o2 out : List Int} (h : checkS s loose = 0) (h2 : ¬ s.2.2.2 = []) (hT : TurnI (whatC w) ns s.2.2.2 k pre o2) (hk : s.2.2.2.length ≤ k) (h3 : w = 2 → out = o2) (h4 : ¬ w = 2 → out = []) :
    refTurn w s ns = ((s.1, s.2.1, s.2.2.1, pre ++ List.drop k s.2.2.2), out, 0) := by
  unfold refTurn; rw [turn_fin h h2 hT hk]
  by_cases hw : w = 2
  · rw [if_pos hw, h3 hw]
  · rw [if_neg hw, h4 hw]
theorem meant_of {ns : List Int} {k n : Nat} {x : RowV} {q : Int} (hq : q = n) (h : (x.1 ∈ ns ∨ ((List.length ns : Int) = 0 ∧ (k : Int) = q - 1)) ∧ x.2.2 = false) : Meant ns k n x ∧ x.2.2 = false := by
  refine ⟨?_, h.2⟩
  rcases h.1 with h1 | ⟨h1, h2⟩
  · exact .inl h1
  · exact .inr ⟨List.eq_nil_of_length_eq_zero (by omega), by omega⟩
theorem not_meant {ns : List Int} {k n : Nat} {x : RowV} {q : Int} (hq : q = n) (h : (¬ x.1 ∈ ns ∧ (¬ (List.length ns : Int) = 0 ∨ ¬ (k : Int) = q - 1)) ∨ x.2.2 = true) : ¬ (Meant ns k n x ∧ x.2.2 = false) := by
  rintro ⟨h1, h2⟩
  rcases h with ⟨h3, h4⟩ | h3
  · rcases h1 with h1 | ⟨h5, h6⟩
    · exact h3 h1
    · subst h5; rcases h4 with h4 | h4
      · exact h4 rfl
      · omega
  · rw [h3] at h2; cases h2
theorem meant_end {ns : List Int} {i n : Nat} {x : RowV} (h : x.1 ∉ ns) : decide (Meant ns i n x) = (decide ((List.length ns : Int) = 0) && decide ((i : Int) = (n : Int) - 1)) := by
  rw [Bool.eq_iff_iff, Bool.and_eq_true, decide_eq_true_eq, decide_eq_true_eq, decide_eq_true_eq]
  constructor
  · rintro (h1 | ⟨h1, h2⟩)
    · exact absurd h1 h
    · subst h1; exact ⟨rfl, by omega⟩
  · rintro ⟨h1, h2⟩
    exact .inr ⟨List.eq_nil_of_length_eq_zero (by omega), by omega⟩
theorem conf_no {s : Sec} {r : Rul} {most : Int} {cas : Bool} (h : ¬ checkS s r = 0 ∨ most < 0 ∨ 6 < most) : confS s r most cas = (s, [], 2) := by unfold confS; rw [if_pos h]
theorem conf_ok {s : Sec} {r : Rul} {most : Int} {cas : Bool} (h : ¬ (¬ checkS s r = 0 ∨ most < 0 ∨ 6 < most)) : confS s r most cas = ((fewerS (most, cas, s.2.2.1, s.2.2.2) r).1, (fewerS (most, cas, s.2.2.1, s.2.2.2) r).2, 0) := by unfold confS; rw [if_neg h]
theorem conf_keep {s : Sec} {r : Rul} {most : Int} {cas : Bool} (h : checkS s r = 0) (h2 : 0 ≤ most ∧ most ≤ 6) : 0 ≤ keepS (most, cas, s.2.2.1, s.2.2.2) r ∧ keepS (most, cas, s.2.2.1, s.2.2.2) r ≤ 1000 := by
  have := (check_may.1 h).1
  unfold RangeS at this
  refine keep_any (s := (most, cas, s.2.2.1, s.2.2.2)) ?_
  unfold RangeS
  simp only
  omega
end AL.Secret
