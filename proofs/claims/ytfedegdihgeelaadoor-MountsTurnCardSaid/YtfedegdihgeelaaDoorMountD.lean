/- mounts: tables of paths, in plain Lean. No condition. -/
import Derived.Test.YtfedegdihgeelaaDoorUnderD
import Derived.Test.YtfedegdihgeelaaDoorSecretD
import Derived.Test.YtfedegdihgeelaaDoorRouteD
import Derived.Test.YtfedegdihgeelaaDoorQuillD
namespace AL.Mount
open Go AL
open AL.Quill (ScanV numQ rowQ rowB)
set_option linter.unusedVariables false
set_option linter.unusedSimpArgs false

abbrev MountV := Bytes × Int × Bool
abbrev md : MountV := ([], 0, false)
def rowM (m : MountV) (i : Nat) : SC := match i with | 0 => st m.1 | 1 => i6 m.2.1 | _ => bo m.2.2
abbrev slM (l : List MountV) : SC := .sl 3 MountV md rowM l

def rowL (l : List MountV) (i : Nat) : SC := slM l
/-- What is done: a mount is removed, or added. -/
abbrev OpM := Bool × MountV
abbrev opd : OpM := (false, md)
def rowO (x : OpM) (i : Nat) : SC := match i with | 0 => bo x.1 | 1 => st x.2.1 | 2 => i6 x.2.2.1 | _ => bo x.2.2.2

/-! ### a mount -/
def checkM (m : MountV) : Int := if ¬ Route.checkS m.1 = 0 then Route.checkS m.1 else if m.2.1 < 1 ∨ 6 < m.2.1 then 2 else 0
theorem check_sec (r : Secret.Rul) : Secret.checkS (0, false, 0, []) r = if r.1 < 1 ∨ 6 < r.1 then 2 else 0 := by
  by_cases h : r.1 < 1 ∨ 6 < r.1
  · rw [if_pos h]
    exact Secret.check_no fun q => by have := q.1; unfold Secret.RangeS at this; omega
  · rw [if_neg h]
    refine Secret.check_yes ⟨by unfold Secret.RangeS; simp only []; omega, ?_, rfl, rfl⟩
    unfold Secret.keepS
    rw [if_pos rfl]
    show ((0 : Nat) : Int) ≤ r.1
    omega
theorem check_path {m : MountV} (h : checkM m = 0) : Route.checkS m.1 = 0 ∧ 1 ≤ m.2.1 ∧ m.2.1 ≤ 6 := by
  unfold checkM at h
  split at h
  · rename_i q; exact absurd h q
  · rename_i q
    split at h
    · omega
    · exact ⟨Decidable.of_not_not q, by omega, by omega⟩
theorem check_1 {m : MountV} (h : ¬ Route.checkS m.1 = 0) : checkM m = Route.checkS m.1 := if_pos h
theorem check_2 {m : MountV} (h : Route.checkS m.1 = 0) (h2 : m.2.1 < 1 ∨ 6 < m.2.1) : checkM m = 2 := by unfold checkM; rw [if_neg (fun q => q h), if_pos h2]
theorem check_3 {m : MountV} (h : Route.checkS m.1 = 0) (h2 : ¬ (m.2.1 < 1 ∨ 6 < m.2.1)) : checkM m = 0 := by unfold checkM; rw [if_neg (fun q => q h), if_neg h2]
theorem check_s {m : MountV} (h : Route.checkS m.1 = 0) : checkM m = Secret.checkS (0, false, 0, []) m.2 := by unfold checkM; rw [if_neg (fun q => q h), check_sec]
theorem path_64 {s : Bytes} (h : Route.checkS s = 0) : s.length ≤ 64 := by
  apply Classical.byContradiction
  intro hn
  rw [Route.check_big (by omega)] at h
  omega

/-! ### places -/
def findM (l : List MountV) (p : Bytes) : Int := Lib.idxS (fun m : MountV => decide (m.1 = p)) l
theorem find_no {l : List MountV} {p : Bytes} (h : findM l p < 0) : ∀ m ∈ l, m.1 ≠ p := fun m hm => by
  have := Lib.idx_neg h m hm
  exact of_decide_eq_false this
theorem find_none {l : List MountV} {p : Bytes} (h : ∀ m ∈ l, m.1 ≠ p) : findM l p = -1 := Lib.idx_none fun m hm => decide_eq_false (h m hm)
theorem find_lt (l : List MountV) (p : Bytes) : findM l p < l.length := Lib.idx_lt _ l
theorem find_ge (l : List MountV) (p : Bytes) : -1 ≤ findM l p := Lib.idx_ge _ l
def pathsM (l : List MountV) : List Bytes := l.map fun m => m.1
/-- How many stand ahead of a path, by what was looked at up to a place. -/
def kS (l : List MountV) (p : Bytes) : Nat → Nat
  | 0 => 0
  | i + 1 => if (List.getD l i md).1 < p then i + 1 else kS l p i
theorem k_le (l : List MountV) (p : Bytes) : ∀ i, kS l p i ≤ i
  | 0 => Nat.le_refl _
  | i + 1 => by unfold kS; split; exact Nat.le_refl _; exact Nat.le_succ_of_le (k_le l p i)
def insM (l : List MountV) (m : MountV) : List MountV := List.take (kS l m.1 l.length) l ++ m :: List.drop (kS l m.1 l.length) l
theorem k_at {l : List MountV} {p : Bytes} {j : Nat} (h1 : j ≤ l.length) (h2 : ∀ x ∈ List.take j l, x.1 < p) (h3 : ∀ x ∈ List.drop j l, ¬ x.1 < p) : ∀ i, j ≤ i → i ≤ l.length → kS l p i = j
  | 0, hj, _ => by
    obtain rfl : j = 0 := by omega
    rfl
  | i + 1, hj, hi => by
    rcases Nat.lt_or_ge i j with q | q
    · obtain rfl : j = i + 1 := by omega
      unfold kS
      rw [if_pos]
      refine h2 _ ?_
      rw [Lib.take_succ md l i (by omega)]
      exact List.mem_append_right _ (List.mem_singleton.2 rfl)
    · unfold kS
      rw [if_neg]
      · exact k_at h1 h2 h3 i q (by omega)
      · refine h3 _ ?_
        have : List.drop i l = List.getD l i md :: List.drop (i + 1) l := Lib.drop_cons md l i (by omega)
        have hm : List.getD l i md ∈ List.drop i l := by rw [this]; exact List.mem_cons_self ..
        rw [show i = j + (i - j) by omega, ← List.drop_drop] at hm
        rw [show i = j + (i - j) by omega]
        exact List.mem_of_mem_drop hm
theorem ins_at {l : List MountV} {m : MountV} {j : Nat} (h1 : j ≤ l.length) (h2 : ∀ x ∈ List.take j l, x.1 < m.1) (h3 : ∀ x ∈ List.drop j l, m.1 < x.1) : insM l m = List.take j l ++ m :: List.drop j l := by
  unfold insM
  rw [k_at h1 h2 (fun x hx q => absurd q (List.lt_asymm (h3 x hx))) l.length h1 (Nat.le_refl _)]
theorem ins_len (l : List MountV) (m : MountV) : (insM l m).length = l.length + 1 := by
  unfold insM
  have := k_le l m.1 l.length
  rw [List.length_append, List.length_cons, List.length_take, List.length_drop]
  omega
theorem ins_mem {l : List MountV} {m x : MountV} : x ∈ insM l m ↔ x = m ∨ x ∈ l := by
  unfold insM
  rw [List.mem_append, List.mem_cons]
  conv => rhs; rw [← List.take_append_drop (kS l m.1 l.length) l, List.mem_append]
  constructor
  · rintro (h | h | h)
    · exact .inr (.inl h)
    · exact .inl h
    · exact .inr (.inr h)
  · rintro (h | h | h)
    · exact .inr (.inl h)
    · exact .inl h
    · exact .inr (.inr h)

/-! ### tables -/
def SortM (l : List MountV) : Prop := l.Pairwise fun x y => x.1 < y.1
/-- Two paths neither of which is within the other one. -/
def Off (x y : MountV) : Prop := Under.withinS x.1 y.1 = false ∧ Under.withinS y.1 x.1 = false
theorem off_symm {x y : MountV} (h : Off x y) : Off y x := ⟨h.2, h.1⟩
structure GoodM (l : List MountV) : Prop where
  rise : SortM l
  fine : ∀ m ∈ l, checkM m = 0
  few : l.length ≤ 4
  off : l.Pairwise Off
theorem good_nil : GoodM [] := ⟨List.Pairwise.nil, fun m h => (by cases h), (by decide), List.Pairwise.nil⟩
def addM (l : List MountV) (m : MountV) : List MountV × Int :=
  if ¬ checkM m = 0 then (l, checkM m) else if 0 ≤ findM l m.1 then (l, 20) else if Under.nestedS m.1 (pathsM l) = true then (l, 15) else if 4 ≤ l.length then (l, 24) else (insM l m, 0)
theorem add_1 {l : List MountV} {m : MountV} (h : ¬ checkM m = 0) : addM l m = (l, checkM m) := if_pos h
theorem add_2 {l : List MountV} {m : MountV} (h : checkM m = 0) (h2 : 0 ≤ findM l m.1) : addM l m = (l, 20) := by
  unfold addM; rw [if_neg (fun q => q h), if_pos h2]
theorem add_3 {l : List MountV} {m : MountV} (h : checkM m = 0) (h2 : ¬ 0 ≤ findM l m.1) (h3 : Under.nestedS m.1 (pathsM l) = true) : addM l m = (l, 15) := by
  unfold addM; rw [if_neg (fun q => q h), if_neg h2, if_pos h3]
theorem add_4 {l : List MountV} {m : MountV} (h : checkM m = 0) (h2 : ¬ 0 ≤ findM l m.1) (h3 : Under.nestedS m.1 (pathsM l) = false) (h4 : (4 : Int) ≤ (List.length l : Int)) : addM l m = (l, 24) := by
  unfold addM; rw [if_neg (fun q => q h), if_neg h2, if_neg (by rw [h3]; decide), if_pos (by omega)]
theorem add_5 {l : List MountV} {m : MountV} (h : checkM m = 0) (h2 : ¬ 0 ≤ findM l m.1) (h3 : Under.nestedS m.1 (pathsM l) = false) (h4 : ¬ (4 : Int) ≤ (List.length l : Int)) : addM l m = (insM l m, 0) := by
  unfold addM; rw [if_neg (fun q => q h), if_neg h2, if_neg (by rw [h3]; decide), if_neg (by omega)]
theorem nested_off {l : List MountV} {p : Bytes} (h : Under.nestedS p (pathsM l) = false) : ∀ x ∈ l, Under.withinS p x.1 = false ∧ Under.withinS x.1 p = false := by
  intro x hx
  have := List.any_eq_false.1 h x.1 (List.mem_map.2 ⟨x, hx, rfl⟩)
  simpa using this
theorem off_nested {l : List MountV} {p : Bytes} (h : ∀ x ∈ l, Under.withinS p x.1 = false ∧ Under.withinS x.1 p = false) : Under.nestedS p (pathsM l) = false := by
  refine List.any_eq_false.2 fun t ht => ?_
  obtain ⟨x, hx, rfl⟩ := List.mem_map.1 ht
  simp [h x hx]
theorem off_find {l : List MountV} {p : Bytes} (h : Under.nestedS p (pathsM l) = false) : findM l p = -1 := find_none fun x hx e => by
  have := (nested_off h x hx).1
  rw [e, Under.within_self] at this
  cases this
theorem lt_trich {a b : Bytes} (h : a ≠ b) : a < b ∨ b < a := by
  by_cases q : a < b
  · exact .inl q
  · exact .inr (Under.lt_of_not q h)
theorem bytes_trans {a b c : Bytes} (h1 : a < b) (h2 : b < c) : a < c := List.lt_trans h1 h2
theorem bytes_irr (a : Bytes) : ¬ a < a := List.lt_irrefl a
/-- Where a new path belongs. -/
theorem sort_split {l : List MountV} (h : SortM l) {p : Bytes} (hn : ∀ m ∈ l, m.1 ≠ p) : ∃ j, j ≤ l.length ∧ (∀ x ∈ List.take j l, x.1 < p) ∧ ∀ x ∈ List.drop j l, p < x.1 := by
  induction l with
  | nil => exact ⟨0, Nat.le_refl _, fun x hx => by simp at hx, fun x hx => by simp at hx⟩
  | cons y l ih =>
    unfold SortM at h
    rw [List.pairwise_cons] at h
    rcases lt_trich (hn y (List.mem_cons_self ..)) with q | q
    · obtain ⟨j, h1, h2, h3⟩ := ih h.2 fun m hm => hn m (List.mem_cons_of_mem _ hm)
      refine ⟨j + 1, by simp; omega, fun x hx => ?_, h3⟩
      rw [List.take_succ_cons] at hx
      rcases List.mem_cons.1 hx with rfl | hx
      · exact q
      · exact h2 x hx
    · refine ⟨0, Nat.zero_le _, fun x hx => by simp at hx, fun x hx => ?_⟩
      rcases List.mem_cons.1 hx with rfl | hx
      · exact q
      · exact bytes_trans q (h.1 x hx)
theorem ins_sort {l : List MountV} (h : SortM l) {m : MountV} (hn : ∀ x ∈ l, x.1 ≠ m.1) : SortM (insM l m) := by
  obtain ⟨j, h1, h2, h3⟩ := sort_split h hn
  rw [ins_at h1 h2 h3]
  unfold SortM at *
  rw [List.pairwise_append, List.pairwise_cons]
  refine ⟨h.sublist (List.take_sublist j l), ⟨h3, h.sublist (List.drop_sublist j l)⟩, fun a ha b hb => ?_⟩
  rcases List.mem_cons.1 hb with rfl | hb
  · exact h2 a ha
  · exact bytes_trans (h2 a ha) (h3 b hb)
theorem ins_pair {l : List MountV} {m : MountV} (h : l.Pairwise Off) (hm : ∀ x ∈ l, Off m x) : (insM l m).Pairwise Off := by
  unfold insM
  rw [List.pairwise_append, List.pairwise_cons]
  refine ⟨h.sublist (List.take_sublist _ l), ⟨fun x hx => hm x (List.mem_of_mem_drop hx), h.sublist (List.drop_sublist _ l)⟩, fun a ha b hb => ?_⟩
  rcases List.mem_cons.1 hb with rfl | hb
  · exact off_symm (hm a (List.mem_of_mem_take ha))
  · have := List.take_append_drop (kS l m.1 l.length) l
    rw [← this, List.pairwise_append] at h
    exact h.2.2 a ha b hb
theorem add_cases (l : List MountV) (m : MountV) : (¬ (addM l m).2 = 0 ∧ (addM l m).1 = l) ∨ ((addM l m).2 = 0 ∧ (addM l m).1 = insM l m ∧ checkM m = 0 ∧ findM l m.1 < 0 ∧ Under.nestedS m.1 (pathsM l) = false ∧ l.length < 4) := by
  by_cases h : checkM m = 0
  · by_cases h2 : 0 ≤ findM l m.1
    · left; rw [add_2 h h2]; exact ⟨(by decide : ¬ (20 : Int) = 0), rfl⟩
    · cases h3 : Under.nestedS m.1 (pathsM l) with
      | true => left; rw [add_3 h h2 h3]; exact ⟨(by decide : ¬ (15 : Int) = 0), rfl⟩
      | false =>
        by_cases h4 : (4 : Int) ≤ (List.length l : Int)
        · left; rw [add_4 h h2 h3 h4]; exact ⟨(by decide : ¬ (24 : Int) = 0), rfl⟩
        · right; rw [add_5 h h2 h3 h4]; exact ⟨rfl, rfl, h, by omega, rfl, by omega⟩
  · left; rw [add_1 h]; exact ⟨h, rfl⟩
theorem add_good {l : List MountV} {m : MountV} (h : GoodM l) : GoodM (addM l m).1 := by
  rcases add_cases l m with ⟨_, e⟩ | ⟨_, e, h1, h2, h3, h4⟩
  · rw [e]; exact h
  · rw [e]
    refine ⟨ins_sort h.rise (find_no h2), fun x hx => ?_, by rw [ins_len]; omega, ins_pair h.off fun x hx => ⟨(nested_off h3 x hx).1, (nested_off h3 x hx).2⟩⟩
    rcases ins_mem.1 hx with rfl | hx
    · exact h1
    · exact h.fine x hx
def removeM (l : List MountV) (p : Bytes) : List MountV × Int := if findM l p < 0 then (l, 14) else (List.take (findM l p).toNat l ++ List.drop ((findM l p).toNat + 1) l, 0)
theorem remove_1 {l : List MountV} {p : Bytes} (h : findM l p < 0) : removeM l p = (l, 14) := if_pos h
theorem remove_2 {l : List MountV} {p : Bytes} (h : ¬ findM l p < 0) : removeM l p = (List.take (findM l p).toNat l ++ List.drop ((findM l p).toNat + 1) l, 0) := if_neg h
theorem remove_sub (l : List MountV) (p : Bytes) : (removeM l p).1.Sublist l := by
  unfold removeM
  split
  · exact List.Sublist.refl _
  · show (List.take _ l ++ List.drop _ l).Sublist l
    conv => rhs; rw [← List.take_append_drop (findM l p).toNat l]
    refine List.Sublist.append (List.Sublist.refl _) ?_
    rw [← List.drop_drop]
    exact List.drop_sublist _ _
theorem good_sub {l k : List MountV} (h : GoodM l) (hs : k.Sublist l) : GoodM k :=
  ⟨h.rise.sublist hs, fun m hm => h.fine m (hs.subset hm), Nat.le_trans hs.length_le h.few, h.off.sublist hs⟩
theorem remove_good {l : List MountV} {p : Bytes} (h : GoodM l) : GoodM (removeM l p).1 := good_sub h (remove_sub l p)

/-! ### what is told -/
def findT (l : List MountV) (p : Bytes) : MountV × Int := if findM l p < 0 then (md, 14) else (List.getD l (findM l p).toNat md, 0)
def placeM (l : List MountV) (p : Bytes) : Int := Lib.idxS (fun m : MountV => Under.belowS p m.1) l
def routeM (l : List MountV) (p : Bytes) : MountV × Int := if placeM l p < 0 then (md, 14) else (List.getD l (placeM l p).toNat md, 0)
theorem place_hit {l : List MountV} {p : Bytes} {k : Nat} (hk : k < l.length) (h : ∀ x ∈ List.take k l, Under.belowS p x.1 = false) (hx : Under.belowS p (List.getD l k md).1 = true) : placeM l p = k := Lib.idx_hit md l k hk h hx
theorem place_none {l : List MountV} {p : Bytes} (h : ∀ x ∈ l, Under.belowS p x.1 = false) : placeM l p = -1 := Lib.idx_none h
theorem route_hit {l : List MountV} {p : Bytes} {k : Nat} (hk : k < l.length) (h : ∀ x ∈ List.take k l, Under.belowS p x.1 = false) (hx : Under.belowS p (List.getD l k md).1 = true) : routeM l p = (List.getD l k md, 0) := by
  unfold routeM
  rw [place_hit hk h hx, if_neg (by omega)]; rfl
theorem route_none {l : List MountV} {p : Bytes} (h : ∀ x ∈ l, Under.belowS p x.1 = false) : routeM l p = (md, 14) := by
  unfold routeM
  rw [place_none h]; rfl

/-! ### texts -/
def b8 (n : Int) : UInt8 := UInt8.ofNat (n % 256).toNat
def bitB (b : Bool) : UInt8 := if b = true then 1 else 0
def pieceM (m : MountV) : Bytes := rowB m.1 ++ [b8 m.2.1, bitB m.2.2]
def textM (l : List MountV) : Bytes := l.flatMap pieceM
theorem piece_len (m : MountV) : (pieceM m).length = 4 + m.1.length := by
  unfold pieceM
  rw [List.length_append, Quill.rowB_len]
  simp; omega
theorem text_step (l : List MountV) (k : Nat) (h : k < l.length) : textM (List.take k l) ++ (rowB (List.getD l k md).1 ++ [b8 (List.getD l k md).2.1, bitB (List.getD l k md).2.2]) = textM (List.take (k + 1) l) := by
  unfold textM
  rw [Lib.take_succ md l k h, List.flatMap_append, List.flatMap_cons, List.flatMap_nil, List.append_nil]
  rfl
def lengthM (l : List MountV) : Nat := (textM l).length
theorem length_step (l : List MountV) (k : Nat) (h : k < l.length) : lengthM (List.take (k + 1) l) = lengthM (List.take k l) + (4 + (List.getD l k md).1.length) := by
  unfold lengthM
  rw [← text_step l k h, List.length_append]
  have := piece_len (List.getD l k md)
  unfold pieceM at this
  rw [this]
theorem text_len {l : List MountV} {n : Nat} (h : ∀ m ∈ l, m.1.length ≤ n) : (textM l).length ≤ l.length * (4 + n) := by
  induction l with
  | nil => simp [textM]
  | cons x l ih =>
    have h1 := ih fun m hm => h m (List.mem_cons_of_mem _ hm)
    have h2 := h x (List.mem_cons_self ..)
    have h3 := piece_len x
    show (pieceM x ++ textM l).length ≤ _
    rw [List.length_append, List.length_cons, Nat.succ_mul]
    omega
theorem good_64 {l : List MountV} (h : GoodM l) : ∀ m ∈ l, m.1.length ≤ 64 := fun m hm => path_64 (check_path (h.fine m hm)).1
theorem good_len {l : List MountV} (h : GoodM l) : (textM l).length ≤ 1000 := by
  have h1 := text_len (good_64 h)
  have h2 := h.few
  have : l.length * (4 + 64) ≤ 4 * (4 + 64) := Nat.mul_le_mul_right _ h2
  omega

/-! ### reading -/
def scanM (x : ScanV) : MountV × ScanV × Bool :=
  (((rowQ x).1, (numQ (rowQ x).2 1).1, decide ((numQ (numQ (rowQ x).2 1).2 1).1 = 1)), (numQ (numQ (rowQ x).2 1).2 1).2, decide ((numQ (numQ (rowQ x).2 1).2 1).1 ≤ 1))
/-- Does a path not follow on a table? -/
def lateM (l : List MountV) (p : Bytes) : Bool := decide (0 < l.length) && !decide ((List.getD l (l.length - 1) md).1 < p)
def parseGo (s : Bytes) : Nat → List MountV → Int → List MountV × Int
  | 0, l, _ => (l, 0)
  | f + 1, l, a => if ¬ a < (s.length : Int) then (l, 0) else if ¬ (scanM (s, a, 0)).2.1.2.2 = 0 then ([], 3) else if (scanM (s, a, 0)).2.2 = false ∨ lateM l (scanM (s, a, 0)).1.1 = true then ([], 4) else
    if ¬ (addM l (scanM (s, a, 0)).1).2 = 0 then ([], 4) else parseGo s f (addM l (scanM (s, a, 0)).1).1 (scanM (s, a, 0)).2.1.2.1
def parseM (s : Bytes) : List MountV × Int := parseGo s s.length [] 0
/-- So far all is read. -/
structure ParseAt (s : Bytes) (f : Nat) (l : List MountV) (a : Int) : Prop where
  eq : parseM s = parseGo s f l a
  fuel : (s.length : Int) - a ≤ f
  good : GoodM l
  pos : 0 ≤ a
  top : a ≤ (s.length : Int)
theorem parse_start (s : Bytes) : ParseAt s s.length [] 0 := ⟨rfl, by omega, good_nil, Int.le_refl _, by omega⟩
theorem scan_pos {s : Bytes} {a : Int} (h : (scanM (s, a, 0)).2.1.2.2 = 0) : (scanM (s, a, 0)).2.1 = (s, (scanM (s, a, 0)).2.1.2.1, 0) ∧ a + 4 ≤ (scanM (s, a, 0)).2.1.2.1 ∧ (scanM (s, a, 0)).2.1.2.1 ≤ (s.length : Int) := by
  unfold scanM at *
  simp only [] at h ⊢
  rcases Quill.num_cases (numQ (rowQ (s, a, 0)).2 1).2 (n := 1) (by decide) (by decide) with ⟨_, q⟩ | ⟨q1, q2, q3, q4, _⟩
  · exact absurd h q
  · rcases Quill.num_cases (rowQ (s, a, 0)).2 (n := 1) (by decide) (by decide) with ⟨_, q⟩ | ⟨p1, p2, p3, p4, _⟩
    · exact absurd q1 q
    · rcases Quill.row_cases (s, a, 0) with ⟨_, q, _⟩ | ⟨_, r2, r3, r4, _⟩
      · exact absurd p1 q
      · rw [p4, r3] at q3
        rw [q4, p4, r3]
        simp only [] at r2 r3 r4 q3
        refine ⟨rfl, ?_, ?_⟩
        · show a + 4 ≤ a + 2 + _ + 1 + 1; omega
        · show a + 2 + _ + 1 + 1 ≤ (s.length : Int); omega
theorem scan_txt (s : Bytes) (a : Int) : (scanM (s, a, 0)).2.1.1 = s := by
  unfold scanM
  simp only []
  rw [Quill.num_len, Quill.num_len]
  rcases Quill.row_cases (s, a, 0) with ⟨_, _, q⟩ | ⟨_, _, q, _⟩
  · exact q
  · rw [q]
theorem parse_3 {s : Bytes} {f : Nat} {l : List MountV} {a : Int} (h : ParseAt s f l a) (h1 : a < (s.length : Int)) (h2 : ¬ (scanM (s, a, 0)).2.1.2.2 = 0) : parseM s = ([], 3) := by
  have := h.fuel
  obtain ⟨g, rfl⟩ : ∃ g, f = g + 1 := ⟨f - 1, by omega⟩
  rw [h.eq]; unfold parseGo
  rw [if_neg (fun q => q h1), if_pos h2]
theorem parse_4 {s : Bytes} {f : Nat} {l : List MountV} {a : Int} (h : ParseAt s f l a) (h1 : a < (s.length : Int)) (h2 : (scanM (s, a, 0)).2.1.2.2 = 0) (h3 : (scanM (s, a, 0)).2.2 = false ∨ lateM l (scanM (s, a, 0)).1.1 = true) : parseM s = ([], 4) := by
  have := h.fuel
  obtain ⟨g, rfl⟩ : ∃ g, f = g + 1 := ⟨f - 1, by omega⟩
  rw [h.eq]; unfold parseGo
  rw [if_neg (fun q => q h1), if_neg (fun q => q h2), if_pos h3]
theorem parse_5 {s : Bytes} {f : Nat} {l : List MountV} {a : Int} (h : ParseAt s f l a) (h1 : a < (s.length : Int)) (h2 : (scanM (s, a, 0)).2.1.2.2 = 0) (h3 : ¬ ((scanM (s, a, 0)).2.2 = false ∨ lateM l (scanM (s, a, 0)).1.1 = true)) (h4 : ¬ (addM l (scanM (s, a, 0)).1).2 = 0) : parseM s = ([], 4) := by
  have := h.fuel
  obtain ⟨g, rfl⟩ : ∃ g, f = g + 1 := ⟨f - 1, by omega⟩
  rw [h.eq]; unfold parseGo
  rw [if_neg (fun q => q h1), if_neg (fun q => q h2), if_neg h3, if_pos h4]
theorem parse_next {s : Bytes} {f : Nat} {l : List MountV} {a : Int} (h : ParseAt s f l a) (h1 : a < (s.length : Int)) (h2 : (scanM (s, a, 0)).2.1.2.2 = 0) (h3 : ¬ ((scanM (s, a, 0)).2.2 = false ∨ lateM l (scanM (s, a, 0)).1.1 = true)) (h4 : (addM l (scanM (s, a, 0)).1).2 = 0) :
    ParseAt s (f - 1) (addM l (scanM (s, a, 0)).1).1 (scanM (s, a, 0)).2.1.2.1 := by
  have hf := h.fuel
  obtain ⟨g, rfl⟩ : ∃ g, f = g + 1 := ⟨f - 1, by omega⟩
  have hp := scan_pos h2
  refine ⟨?_, by omega, add_good h.good, by have := h.pos; omega, hp.2.2⟩
  rw [h.eq]
  conv => lhs; unfold parseGo
  rw [if_neg (fun q => q h1), if_neg (fun q => q h2), if_neg h3, if_neg (fun q => q h4)]
  rfl
theorem parse_end {s : Bytes} {f : Nat} {l : List MountV} {a : Int} (h : ParseAt s f l a) (h1 : ¬ a < (s.length : Int)) : parseM s = (l, 0) := by
  rw [h.eq]
  cases f with
  | zero => rfl
  | succ f => unfold parseGo; rw [if_pos h1]
theorem parseGo_good (s : Bytes) : ∀ (f : Nat) (l : List MountV) (a : Int), GoodM l → GoodM (parseGo s f l a).1
  | 0, l, a, h => h
  | f + 1, l, a, h => by
    unfold parseGo
    split
    · exact h
    · split
      · exact good_nil
      · split
        · exact good_nil
        · split
          · exact good_nil
          · exact parseGo_good s f _ _ (add_good h)
theorem parse_good (s : Bytes) : GoodM (parseM s).1 := parseGo_good s _ _ _ good_nil

/-! ### a table is told by its text -/
theorem byte_b8 {n : Int} (h : 0 ≤ n) (h2 : n < 256) : ((b8 n).toNat : Int) = n := by
  unfold b8
  rw [Quill.byte_of h]; omega
theorem big_one (b : UInt8) : Quill.bigS [b] = (b.toNat : Int) := by
  unfold Quill.bigS
  simp
theorem scan_lay (a c : Bytes) (m : MountV) (h : checkM m = 0) : scanM (a ++ (pieceM m ++ c), (a.length : Int), 0) = (m, (a ++ (pieceM m ++ c), ((a ++ pieceM m).length : Int), 0), true) := by
  obtain ⟨h1, h2, h3⟩ := check_path h
  have hl := path_64 h1
  have r1 := Quill.row_lay a m.1 ([b8 m.2.1, bitB m.2.2] ++ c) (by omega)
  have e1 : a ++ (pieceM m ++ c) = a ++ (rowB m.1 ++ ([b8 m.2.1, bitB m.2.2] ++ c)) := by unfold pieceM; simp only [List.append_assoc]
  have r2 := Quill.num_lay (a ++ rowB m.1) [b8 m.2.1] ([bitB m.2.2] ++ c) (n := 1) rfl
  have e2 : (a ++ rowB m.1) ++ ([b8 m.2.1] ++ ([bitB m.2.2] ++ c)) = a ++ (rowB m.1 ++ ([b8 m.2.1, bitB m.2.2] ++ c)) := by simp only [List.append_assoc, List.cons_append, List.nil_append]
  have r3 := Quill.num_lay ((a ++ rowB m.1) ++ [b8 m.2.1]) [bitB m.2.2] c (n := 1) rfl
  have e3 : ((a ++ rowB m.1) ++ [b8 m.2.1]) ++ ([bitB m.2.2] ++ c) = a ++ (rowB m.1 ++ ([b8 m.2.1, bitB m.2.2] ++ c)) := by simp only [List.append_assoc, List.cons_append, List.nil_append]
  rw [e2, big_one, byte_b8 (by omega) (by omega)] at r2
  rw [e3, big_one] at r3
  unfold scanM
  rw [e1, r1]
  simp only []
  rw [r2]
  simp only []
  rw [r3]
  simp only []
  have e4 : ((a ++ rowB m.1) ++ [b8 m.2.1]) ++ [bitB m.2.2] = a ++ pieceM m := by unfold pieceM; simp only [List.append_assoc, List.cons_append, List.nil_append]
  rw [e4]
  obtain ⟨m1, m2, m3⟩ := m
  cases m3 <;> rfl
theorem add_last {l : List MountV} {m : MountV} (h : GoodM (l ++ [m])) : addM l m = (l ++ [m], 0) ∧ lateM l m.1 = false := by
  have h1 := h.rise
  unfold SortM at h1
  rw [List.pairwise_append] at h1
  have h2 := h.off
  rw [List.pairwise_append] at h2
  have hm : ∀ x ∈ l, x.1 < m.1 := fun x hx => h1.2.2 x hx m (List.mem_singleton.2 rfl)
  have hf := h.few
  rw [List.length_append] at hf
  have hf : l.length + 1 ≤ 4 := hf
  have ho : Under.nestedS m.1 (pathsM l) = false := off_nested fun x hx => ⟨(h2.2.2 x hx m (List.mem_singleton.2 rfl)).2, (h2.2.2 x hx m (List.mem_singleton.2 rfl)).1⟩
  constructor
  · rw [add_5 (h.fine m (List.mem_append_right _ (List.mem_singleton.2 rfl))) (by rw [off_find ho]; decide) ho (by omega), ins_at (Nat.le_refl _) (by rw [List.take_length]; exact hm) (fun x hx => by rw [List.drop_length] at hx; cases hx), List.take_length, List.drop_length]
  · unfold lateM
    by_cases q : 0 < l.length
    · rw [decide_eq_true (hm _ (Lib.getD_mem md l (l.length - 1) (by omega)))]; simp
    · rw [decide_eq_false q]; rfl
theorem parse_go_text {l : List MountV} (h : GoodM l) : ∀ (n k f : Nat), k + n = l.length → (textM l).length ≤ f + (textM (List.take k l)).length → parseGo (textM l) f (List.take k l) ((textM (List.take k l)).length : Int) = (l, 0)
  | 0, k, f, hk, hf => by
    rw [List.take_of_length_le (by omega)]
    cases f with
    | zero => rfl
    | succ f => unfold parseGo; rw [if_pos (by omega)]
  | n + 1, k, f, hk, hf => by
    have hkl : k < l.length := by omega
    have hs := text_step l k hkl
    have hd : textM l = textM (List.take k l) ++ (pieceM (List.getD l k md) ++ textM (List.drop (k + 1) l)) := by
      conv => lhs; rw [Lib.take_cons md l k hkl]
      unfold textM
      rw [List.flatMap_append, List.flatMap_cons]
    have hp := piece_len (List.getD l k md)
    have hlen := congrArg List.length hd
    rw [List.length_append, List.length_append] at hlen
    obtain ⟨g, rfl⟩ : ∃ g, f = g + 1 := ⟨f - 1, by omega⟩
    have hm : checkM (List.getD l k md) = 0 := h.fine _ (Lib.getD_mem md l k hkl)
    have sc := scan_lay (textM (List.take k l)) (textM (List.drop (k + 1) l)) (List.getD l k md) hm
    rw [← hd] at sc
    have hg : GoodM (List.take k l ++ [List.getD l k md]) := by rw [← Lib.take_succ md l k hkl]; exact good_sub h (List.take_sublist _ _)
    obtain ⟨ha, hb⟩ := add_last hg
    unfold parseGo
    rw [if_neg (by omega), sc]
    simp only []
    rw [if_neg (by simp), if_neg (by rw [hb]; simp), ha, if_neg (by simp), ← Lib.take_succ md l k hkl]
    have e : textM (List.take k l) ++ pieceM (List.getD l k md) = textM (List.take (k + 1) l) := hs
    rw [e]
    have e2 := congrArg List.length e
    rw [List.length_append] at e2
    exact parse_go_text h n (k + 1) g (by omega) (by omega)
theorem parse_text {l : List MountV} (h : GoodM l) : parseM (textM l) = (l, 0) := parse_go_text h l.length 0 _ (by omega) (by simp [textM])
end AL.Mount
