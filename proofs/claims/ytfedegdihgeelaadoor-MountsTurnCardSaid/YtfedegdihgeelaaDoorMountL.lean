/- mounts: what the laws ask, in plain Lean. No condition. -/
import Derived.Test.YtfedegdihgeelaaDoorMountF
namespace AL.Mount
open Go AL
open AL.Quill (ScanV numQ rowQ rowB)
set_option linter.unusedVariables false
set_option linter.unusedSimpArgs false

def overM (l : List OpM) : Bool := decide ((30 : Int) < (List.length l : Int)) || l.any fun x => decide ((200 : Int) < (List.length x.2.1 : Int))
theorem over_ok {l : List OpM} (h : overM l = false) : l.length ≤ 30 ∧ ∀ x ∈ l, x.2.1.length ≤ 200 := by
  unfold overM at h
  rw [Bool.or_eq_false_iff] at h
  refine ⟨by have := of_decide_eq_false h.1; omega, fun x hx => ?_⟩
  have := of_decide_eq_false (by simpa using List.any_eq_false.1 h.2 x hx : decide ((200 : Int) < (List.length x.2.1 : Int)) = false)
  omega
theorem over_1 {l : List OpM} (h : (30 : Int) < (List.length l : Int)) : overM l = true := by unfold overM; rw [decide_eq_true h]; rfl
theorem over_2 {l : List OpM} {i : Nat} (hi : i < l.length) (h : (200 : Int) < (List.length (List.getD l i opd).2.1 : Int)) : overM l = true := by
  unfold overM
  rw [Bool.or_eq_true]
  exact .inr (List.any_eq_true.2 ⟨_, Lib.getD_mem opd l i hi, decide_eq_true h⟩)
theorem over_3 {l : List OpM} {i : Nat} (h : ¬ (30 : Int) < (List.length l : Int)) (hi : l.length ≤ i) (hN : ∀ x ∈ List.take i l, decide ((200 : Int) < (List.length x.2.1 : Int)) = false) : overM l = false := by
  rw [List.take_of_length_le hi] at hN
  unfold overM
  rw [Bool.or_eq_false_iff]
  exact ⟨decide_eq_false h, List.any_eq_false.2 fun x hx => by rw [hN x hx]; decide⟩
theorem over_one {x : OpM} (h : overM [x] = false) : x.2.1.length ≤ 200 := (over_ok h).2 x (List.mem_singleton.2 rfl)
theorem place_ge (l : List MountV) (p : Bytes) : -1 ≤ placeM l p := Lib.idx_ge _ l
theorem place_lt (l : List MountV) (p : Bytes) : placeM l p < l.length := Lib.idx_lt _ l
instance (l : List MountV) : Decidable (SortM l) := inferInstanceAs (Decidable (List.Pairwise _ _))
def aw1 : List MountV := [([97, 47, 98], 2, false)]
def aw2 : List MountV := [([97, 47, 98], 2, false), ([97, 47, 98, 99], 1, true)]
def aw3 : List MountV := [([97, 47, 98, 99], 1, true)]

/-! ### no two of a table are above one path -/
theorem below_off {x y : MountV} {p : Bytes} (h : Off x y) (hx : Under.belowS p x.1 = true) (hy : Under.belowS p y.1 = true) : False := by
  have wx : Under.withinS p x.1 = true := by unfold Under.withinS; rw [hx, Bool.or_true]
  have wy : Under.withinS p y.1 = true := by unfold Under.withinS; rw [hy, Bool.or_true]
  rcases Nat.le_total x.1.length y.1.length with q | q
  · have := Under.within_chain wx wy q
    rw [h.2] at this; cases this
  · have := Under.within_chain wy wx q
    rw [h.1] at this; cases this
theorem off_at {l : List MountV} (h : GoodM l) {i k : Nat} (hk : k < i) (hi : i < l.length) : Off (List.getD l k md) (List.getD l i md) := by
  rw [Lib.getD_lt _ _ _ hi, Lib.getD_lt _ _ _ (by omega)]
  exact List.pairwise_iff_getElem.1 h.off k i (by omega) hi hk
theorem rise_lt {l : List MountV} (h : GoodM l) {i k : Nat} (hk : k < i) (hi : i < l.length) : (List.getD l k md).1 < (List.getD l i md).1 := by
  rw [Lib.getD_lt _ _ _ hi, Lib.getD_lt _ _ _ (by omega)]
  exact List.pairwise_iff_getElem.1 h.rise k i (by omega) hi hk
theorem place_at {l : List MountV} {p : Bytes} (h : GoodM l) {j : Nat} (hj : j < l.length) (hb : Under.belowS p (List.getD l j md).1 = true) : placeM l p = j := by
  refine place_hit hj (fun x hx => ?_) hb
  obtain ⟨k, hk, rfl⟩ := List.mem_take_iff_getElem.1 hx
  cases hq : Under.belowS p l[k].1 with
  | false => rfl
  | true =>
    have := off_at h (i := j) (k := k) (by omega) hj
    rw [Lib.getD_lt md l k (by omega)] at this
    exact absurd (below_off this hq hb) id
theorem route_at {l : List MountV} {p : Bytes} (h : GoodM l) {j : Nat} (hj : j < l.length) (hb : Under.belowS p (List.getD l j md).1 = true) : routeM l p = (List.getD l j md, 0) := by
  unfold routeM
  rw [place_at h hj hb, if_neg (by omega)]; rfl
/-- How many of those up to a place are above a path. -/
def nB (l : List MountV) (p : Bytes) (j : Nat) : Int := if 0 ≤ placeM l p ∧ placeM l p < (j : Int) then 1 else 0
theorem nb_rng (l : List MountV) (p : Bytes) (j : Nat) : 0 ≤ nB l p j ∧ nB l p j ≤ 1 := by unfold nB; split <;> omega
theorem nb_0 (l : List MountV) (p : Bytes) : nB l p 0 = 0 := if_neg (by omega)
theorem nb_y {l : List MountV} {p : Bytes} (h : GoodM l) {j : Nat} (hj : j < l.length) (hb : Under.belowS p (List.getD l j md).1 = true) : nB l p j + 1 = nB l p (j + 1) := by
  have e := place_at h hj hb
  unfold nB
  rw [e, if_neg (by omega), if_pos (by omega)]; rfl
theorem place_below {l : List MountV} {p : Bytes} (h : 0 ≤ placeM l p) : Under.belowS p (List.getD l (placeM l p).toNat md).1 = true := by
  have key : ∀ l : List MountV, 0 ≤ Lib.idxS (fun m : MountV => Under.belowS p m.1) l → Under.belowS p (List.getD l (Lib.idxS (fun m : MountV => Under.belowS p m.1) l).toNat md).1 = true := by
    intro l
    induction l with
    | nil => intro h; exact absurd (show (0 : Int) ≤ -1 from h) (by decide)
    | cons x l ih =>
      intro h
      unfold Lib.idxS at h ⊢
      by_cases q : Under.belowS p x.1 = true
      · rw [if_pos q]; exact q
      · rw [if_neg q] at h ⊢
        by_cases q2 : Lib.idxS (fun m : MountV => Under.belowS p m.1) l < 0
        · rw [if_pos q2] at h; exact absurd h (by decide)
        · rw [if_neg q2]
          have := ih (by omega)
          rw [show (Lib.idxS (fun m : MountV => Under.belowS p m.1) l + 1).toNat = (Lib.idxS (fun m : MountV => Under.belowS p m.1) l).toNat + 1 by omega, List.getD_cons_succ]
          exact this
  exact key l h
theorem nb_n {l : List MountV} {p : Bytes} {j : Nat} (hb : Under.belowS p (List.getD l j md).1 = false) : nB l p j = nB l p (j + 1) := by
  unfold nB
  by_cases q : 0 ≤ placeM l p ∧ placeM l p < (j : Int)
  · rw [if_pos q, if_pos (by omega)]
  · rw [if_neg q, if_neg]
    intro z
    have e : placeM l p = j := by omega
    have := place_below z.1
    rw [e, Int.toNat_natCast, hb] at this
    cases this
theorem nb_end {l : List MountV} {p : Bytes} {j : Nat} (hj : l.length ≤ j) : nB l p j = if placeM l p < 0 then 0 else 1 := by
  have := place_lt l p
  unfold nB
  split
  · rw [if_neg (by omega)]
  · rw [if_pos (by omega)]
theorem route_2 (l : List MountV) (p : Bytes) : (routeM l p).2 = if placeM l p < 0 then 14 else 0 := by
  unfold routeM; split <;> rfl

/-! ### added from behind -/
theorem drop_good {l : List MountV} (h : GoodM l) (k : Nat) : GoodM (List.drop k l) := good_sub h (List.drop_sublist k l)
theorem add_front {l : List MountV} (h : GoodM l) {k : Nat} (hk : k < l.length) : addM (List.drop (k + 1) l) (List.getD l k md) = (List.drop k l, 0) := by
  have hg := drop_good h k
  have e := Lib.drop_cons md l k hk
  rw [e] at hg
  have h1 := hg.rise
  unfold SortM at h1
  rw [List.pairwise_cons] at h1
  have h2 := hg.off
  rw [List.pairwise_cons] at h2
  have hf := hg.few
  rw [List.length_cons] at hf
  have ho : Under.nestedS (List.getD l k md).1 (pathsM (List.drop (k + 1) l)) = false := off_nested fun x hx => h2.1 x hx
  rw [add_5 (hg.fine _ (List.mem_cons_self ..)) (by rw [off_find ho]; decide) ho (by omega), ins_at (j := 0) (Nat.zero_le _) (fun x hx => by simp at hx) (fun x hx => h1.1 x hx), e]; rfl
theorem turn_at {l : List MountV} (h : GoodM l) {j : Nat} (hj : j < l.length) : addM (List.drop (l.length - j) l) (List.getD l ((List.length l : Int) - 1 - (j : Int)).toNat md) = (List.drop (l.length - (j + 1)) l, 0) := by
  have := add_front h (k := l.length - (j + 1)) (by omega)
  rw [show ((List.length l : Int) - 1 - (j : Int)).toNat = l.length - (j + 1) by omega]
  rwa [show l.length - (j + 1) + 1 = l.length - j by omega] at this
theorem ins_find {l : List MountV} {m : MountV} (hs : SortM l) (h : ∀ x ∈ l, x.1 ≠ m.1) : ∃ j : Nat, j ≤ l.length ∧ insM l m = List.take j l ++ m :: List.drop j l ∧ findM (insM l m) m.1 = j := by
  obtain ⟨j, h1, h2, h3⟩ := sort_split hs h
  refine ⟨j, h1, ins_at h1 h2 h3, ?_⟩
  rw [ins_at h1 h2 h3]
  have := Lib.idx_app (p := fun x : MountV => decide (x.1 = m.1)) (x := m) (m := List.drop j l) (l := List.take j l) (fun y hy => decide_eq_false (h y (List.mem_of_mem_take hy))) (decide_eq_true rfl)
  unfold findM
  rw [this, List.length_take]
  congr 1; omega
/-- What was added is there, and can be taken away again. -/
theorem add_turn {l : List MountV} {m : MountV} (h : GoodM l) (ha : (addM l m).2 = 0) : findT (addM l m).1 m.1 = (m, 0) ∧ removeM (addM l m).1 m.1 = (l, 0) ∧ ¬ (addM l m).1 = l ∧ (addM l m).1.length = l.length + 1 := by
  rcases add_cases l m with ⟨q, _⟩ | ⟨_, e, _, hf, _, _⟩
  · exact absurd ha q
  · rw [e]
    obtain ⟨j, h1, h2, h3⟩ := ins_find h.rise (find_no hf)
    have hl := ins_len l m
    have ht : (List.take j l).length = j := by rw [List.length_take]; omega
    refine ⟨?_, ?_, fun z => ?_, hl⟩
    · unfold findT
      rw [h3, if_neg (by omega), Int.toNat_natCast, h2, List.getD_eq_getElem?_getD, List.getElem?_append_right (by omega), ht, Nat.sub_self]; rfl
    · rw [remove_2 (by rw [h3]; omega), h3, Int.toNat_natCast, h2]
      have e1 : List.take j (List.take j l ++ m :: List.drop j l) = List.take j l := by
        rw [List.take_append_of_le_length (by omega), List.take_of_length_le (by omega)]
      have e2 : List.drop (j + 1) (List.take j l ++ m :: List.drop j l) = List.drop j l := by
        rw [List.drop_append, ht, show j + 1 - j = 1 by omega, List.drop_of_length_le (by omega)]; rfl
      rw [e1, e2, List.take_append_drop]
    · have := congrArg List.length z
      omega
theorem add_bad {l : List MountV} {m : MountV} (h : ¬ (addM l m).2 = 0) : (addM l m).1 = l := by
  rcases add_cases l m with ⟨_, e⟩ | ⟨q, _⟩
  · exact e
  · exact absurd q h
end AL.Mount
