/- gate: what its functions compute, in plain Lean. No condition. -/
import Derived.Test.YtbfhmgbgehenoaaLibD
namespace AL.Gate
open Go AL
set_option linter.unusedVariables false
set_option linter.unusedSimpArgs false

abbrev One := Int × Int
abbrev Gt := List One × List One
def rowO (x : One) (i : Nat) : SC := match i with | 0 => i6 x.1 | _ => u8 x.2
def rowL (l : List One) (_ : Nat) : SC := .sl 2 One (0, 0) rowO l
abbrev slO (l : List One) : SC := .sl 2 One (0, 0) rowO l
abbrev slL (l : List (List One)) : SC := .sl 1 (List One) [] rowL l
def isW (w : Int) (x : One) : Bool := decide (x.1 = w)
def findS (l : List One) (w : Int) : Int := Lib.idxS (isW w) l
def openS (l : List One) (m : Int) : Bool := match l with | [] => true | x :: _ => decide (m = 1) && decide (x.2 = 1)
def intoS : List One → One → List One
  | [], x => [x]
  | y :: l, x => if y.1 < x.1 then y :: intoS l x else x :: y :: l
def dropS (w : Int) : List One → List One
  | [] => []
  | x :: l => if x.1 = w then l else x :: dropS w l
def modeS (l : List One) (w : Int) : Int := if findS l w < 0 then 0 else (List.getD l (findS l w).toNat (0, 0)).2
def namesS (l : List One) : List Int := l.map (·.1)
def askS (g : Gt) (w m : Int) : Gt × Bool × Int :=
  if w < 0 ∨ (m ≠ 1 ∧ m ≠ 2) then (g, false, 2) else
  if ¬ findS g.1 w < 0 ∨ ¬ findS g.2 w < 0 then (g, false, 9) else
  if g.2 = [] ∧ openS g.1 m = true then ((intoS g.1 (w, m), []), true, 0) else ((g.1, g.2 ++ [(w, m)]), false, 0)
def letS : List One → List One → List One × List One × List Int
  | h, [] => (h, [], [])
  | h, x :: r => if openS h x.2 then ((letS (intoS h x) r).1, (letS (intoS h x) r).2.1, x.1 :: (letS (intoS h x) r).2.2) else (h, x :: r, [])
def leaveS (g : Gt) (w : Int) : Gt × List Int × Int :=
  if w < 0 then (g, [], 2) else if findS g.1 w < 0 ∧ findS g.2 w < 0 then (g, [], 6) else
  (((letS (dropS w g.1) (dropS w g.2)).1, (letS (dropS w g.1) (dropS w g.2)).2.1), (letS (dropS w g.1) (dropS w g.2)).2.2, 0)

/-! ### Places and modes -/
theorem find_neg {l : List One} {w : Int} : findS l w < 0 ↔ w ∉ namesS l := by
  constructor
  · intro h hm
    obtain ⟨x, hx, rfl⟩ := List.mem_map.1 hm
    have := Lib.idx_neg h x hx
    simp [isW] at this
  · intro h
    have : findS l w = -1 := Lib.idx_none fun x hx => by
      simp only [isW, decide_eq_false_iff_not]
      rintro rfl
      exact h (List.mem_map.2 ⟨x, hx, rfl⟩)
    omega
theorem find_lt (l : List One) (w : Int) : findS l w < l.length := Lib.idx_lt _ _
theorem find_pos {l : List One} {w : Int} (h : 0 ≤ findS l w) : (List.getD l (findS l w).toNat (0, 0)).1 = w := by
  have := (Lib.idx_pos (0, 0) h).1
  simpa [isW, findS] using this
theorem mode_mem {l : List One} {w : Int} (h : ¬ findS l w < 0) : (w, modeS l w) ∈ l := by
  have h0 : 0 ≤ findS l w := by omega
  have h1 := find_pos h0
  have h2 := find_lt l w
  have : List.getD l (findS l w).toNat (0, 0) ∈ l := Lib.getD_mem _ _ _ (by omega)
  unfold modeS
  rw [if_neg h]
  rw [show (w, (List.getD l (findS l w).toNat (0, 0)).2) = List.getD l (findS l w).toNat (0, 0) from by
    exact Prod.ext (by simpa using h1.symm) rfl]
  exact this
theorem names_mem {l : List One} {x : One} (h : x ∈ l) : x.1 ∈ namesS l := List.mem_map.2 ⟨x, h, rfl⟩
theorem nodup_eq {l : List One} (h : (namesS l).Nodup) {x y : One} (hx : x ∈ l) (hy : y ∈ l) (e : x.1 = y.1) : x = y := by
  induction l with
  | nil => cases hx
  | cons z l ih =>
    simp only [namesS, List.map_cons, List.nodup_cons] at h
    rcases List.mem_cons.1 hx with e1 | h1
    · rcases List.mem_cons.1 hy with e2 | h2
      · rw [e1, e2]
      · exact absurd (List.mem_map.2 ⟨y, h2, by rw [← e, e1]⟩) h.1
    · rcases List.mem_cons.1 hy with e2 | h2
      · exact absurd (List.mem_map.2 ⟨x, h1, by rw [e, e2]⟩) h.1
      · exact ih h.2 h1 h2
theorem mode_eq {l : List One} (h : (namesS l).Nodup) {x : One} (hx : x ∈ l) : modeS l x.1 = x.2 := by
  have h1 : ¬ findS l x.1 < 0 := fun h => find_neg.1 h (names_mem hx)
  have := nodup_eq h (mode_mem h1) hx rfl
  rw [← this]
theorem mode_zero {l : List One} {w : Int} (h : findS l w < 0) : modeS l w = 0 := by unfold modeS; rw [if_pos h]

/-! ### Let in, taken out -/
theorem into_perm (l : List One) (x : One) : (intoS l x).Perm (x :: l) := by
  induction l with
  | nil => exact List.Perm.refl _
  | cons y l ih =>
    unfold intoS
    split
    · exact (ih.cons y).trans (List.Perm.swap x y l)
    · exact List.Perm.refl _
theorem into_len (l : List One) (x : One) : (intoS l x).length = l.length + 1 := by rw [(into_perm l x).length_eq, List.length_cons]
theorem into_mem {l : List One} {x y : One} : y ∈ intoS l x ↔ y = x ∨ y ∈ l := by rw [(into_perm l x).mem_iff, List.mem_cons]
theorem into_ne (l : List One) (x : One) : intoS l x ≠ [] := fun h => by have := into_len l x; rw [h] at this; simp at this
theorem into_cut (l : List One) (x : One) (k : Nat) (hk : k ≤ l.length) (h1 : ∀ y ∈ List.take k l, y.1 < x.1) (h2 : k < l.length → ¬ (List.getD l k (0, 0)).1 < x.1) :
    (List.take k l ++ [x]) ++ List.drop k l = intoS l x := by
  induction l generalizing k with
  | nil => simp at hk; subst hk; rfl
  | cons y l ih =>
    cases k with
    | zero =>
      have := h2 (by simp)
      unfold intoS
      rw [if_neg (by simpa using this)]
      rfl
    | succ k =>
      have hy : y.1 < x.1 := h1 y (by simp)
      unfold intoS
      rw [if_pos hy, ← ih k (by simpa using hk) (fun z hz => h1 z (by simp [hz])) (fun h => by have := h2 (by simpa using h); simpa using this)]
      rfl
/-- By rising numbers. -/
def Up (l : List One) : Prop := l.Pairwise fun x y => x.1 < y.1
theorem into_up {l : List One} {x : One} (h : Up l) (hx : x.1 ∉ namesS l) : Up (intoS l x) := by
  induction l with
  | nil => exact List.pairwise_singleton _ _
  | cons y l ih =>
    obtain ⟨h1, h2⟩ := List.pairwise_cons.1 h
    simp only [namesS, List.map_cons, List.mem_cons, not_or] at hx
    unfold intoS
    split
    · rename_i hlt
      refine List.pairwise_cons.2 ⟨fun z hz => ?_, ih h2 hx.2⟩
      rcases into_mem.1 hz with rfl | hz
      · exact hlt
      · exact h1 z hz
    · rename_i hge
      refine List.pairwise_cons.2 ⟨fun z hz => ?_, h⟩
      rcases List.mem_cons.1 hz with rfl | hz
      · omega
      · have := h1 z hz; omega
theorem up_ahead {l : List One} (h : Up l) (w : Int) : Lib.Ahead (fun y : One => decide (y.1 - w < 0)) l := by
  refine List.Pairwise.imp (fun {x y} hxy => ?_) h
  simp only [decide_eq_true_eq]
  omega
theorem into_lead (l : List One) (x : One) (h : Up l) : (List.take (Lib.leadS (fun y : One => decide (y.1 - x.1 < 0)) l) l ++ [x]) ++ List.drop (Lib.leadS (fun y : One => decide (y.1 - x.1 < 0)) l) l = intoS l x := by
  have hle := Lib.lead_le (fun y : One => decide (y.1 - x.1 < 0)) l
  refine into_cut l x _ hle (fun y hy => ?_) fun hk hlt => ?_
  · have ht : List.take (Lib.leadS (fun y : One => decide (y.1 - x.1 < 0)) l) l = l.takeWhile fun y => decide (y.1 - x.1 < 0) := by
      have := List.takeWhile_prefix (fun y : One => decide (y.1 - x.1 < 0)) (l := l)
      exact (List.prefix_iff_eq_take.1 this).symm
    rw [ht] at hy
    have := Lib.takeWhile_all hy
    simp only [decide_eq_true_eq] at this
    omega
  · unfold Lib.leadS at hk hlt
    induction l with
    | nil => simp at hk
    | cons y l ih =>
      rw [List.takeWhile_cons] at hk hlt
      split at hk
      · rename_i hp
        rw [if_pos hp] at hlt
        refine ih (List.pairwise_cons.1 h).2 (Lib.lead_le _ _) (by simpa using hk) (by simpa using hlt)
      · rename_i hp
        rw [if_neg hp] at hlt
        simp at hlt hp
        omega
theorem drop_sub (w : Int) (l : List One) : (dropS w l).Sublist l := by
  induction l with
  | nil => exact List.Sublist.slnil
  | cons x l ih =>
    unfold dropS
    split
    · exact List.sublist_cons_self _ _
    · exact ih.cons_cons x
theorem drop_none {w : Int} {l : List One} (h : findS l w < 0) : dropS w l = l := by
  have h := find_neg.1 h
  induction l with
  | nil => rfl
  | cons x l ih =>
    simp only [namesS, List.map_cons, List.mem_cons, not_or] at h
    unfold dropS
    rw [if_neg (fun e => h.1 e.symm), ih (find_neg.2 h.2) h.2]
theorem drop_at {w : Int} {l : List One} (h : 0 ≤ findS l w) : List.take (findS l w).toNat l ++ List.drop ((findS l w).toNat + 1) l = dropS w l := by
  induction l with
  | nil => simp [findS, Lib.idxS] at h
  | cons x l ih =>
    by_cases hx : x.1 = w
    · have e : findS (x :: l) w = 0 := by unfold findS Lib.idxS; rw [if_pos (by simpa [isW] using hx)]
      rw [e, dropS, if_pos hx]
      rfl
    · have e : findS (x :: l) w = if findS l w < 0 then -1 else findS l w + 1 := by
        show Lib.idxS (isW w) (x :: l) = _
        rw [Lib.idxS, if_neg (by simpa [isW] using hx)]; rfl
      rw [e] at h ⊢
      split at h
      · omega
      · rename_i hn
        rw [if_neg hn, dropS, if_neg hx, ← ih (by omega), show (findS l w + 1).toNat = (findS l w).toNat + 1 by omega]
        rfl
theorem drop_len {w : Int} {l : List One} (h : ¬ findS l w < 0) : (dropS w l).length + 1 = l.length := by
  have hl := find_lt l w
  rw [← drop_at (by omega), List.length_append, List.length_take, List.length_drop]
  omega
theorem drop_mem {w : Int} {l : List One} (hn : (namesS l).Nodup) {x : One} : x ∈ dropS w l ↔ x ∈ l ∧ x.1 ≠ w := by
  induction l with
  | nil => simp [dropS]
  | cons y l ih =>
    simp only [namesS, List.map_cons, List.nodup_cons] at hn
    unfold dropS
    split
    · rename_i hy
      constructor
      · intro hx; refine ⟨List.mem_cons_of_mem _ hx, fun e => hn.1 (List.mem_map.2 ⟨x, hx, by rw [e, hy]⟩)⟩
      · rintro ⟨hx, hne⟩
        rcases List.mem_cons.1 hx with rfl | hx
        · exact absurd hy hne
        · exact hx
    · rename_i hy
      rw [List.mem_cons, ih hn.2, List.mem_cons]
      constructor
      · rintro (rfl | ⟨h1, h2⟩)
        · exact ⟨.inl rfl, hy⟩
        · exact ⟨.inr h1, h2⟩
      · rintro ⟨rfl | h1, h2⟩
        · exact .inl rfl
        · exact .inr ⟨h1, h2⟩

/-! ### What holds of every gate -/
def okO (x : One) : Prop := 0 ≤ x.1 ∧ (x.2 = 1 ∨ x.2 = 2)
structure Wf (g : Gt) : Prop where
  ok : ∀ x ∈ g.1 ++ g.2, okO x
  up : Up g.1
  nd : (namesS (g.1 ++ g.2)).Nodup
theorem wf_nil : Wf ([], []) := ⟨fun x h => by simp at h, List.Pairwise.nil, List.nodup_nil⟩
theorem wf_sub {h r h' r' : List One} (h1 : h'.Sublist h) (h2 : r'.Sublist r) (hw : Wf (h, r)) : Wf (h', r') :=
  ⟨fun x hx => hw.ok x ((h1.append h2).subset hx), hw.up.sublist h1, hw.nd.sublist ((h1.append h2).map _)⟩
theorem Wf.nd1 {g : Gt} (h : Wf g) : (namesS g.1).Nodup := by have := h.nd; unfold namesS at this; rw [List.map_append] at this; exact (List.nodup_append.1 this).1
theorem Wf.nd2 {g : Gt} (h : Wf g) : (namesS g.2).Nodup := by have := h.nd; unfold namesS at this; rw [List.map_append] at this; exact (List.nodup_append.1 this).2.1
theorem Wf.dis {g : Gt} (h : Wf g) {w : Int} (h1 : w ∈ namesS g.1) (h2 : w ∈ namesS g.2) : False := by
  have := h.nd; unfold namesS at this; rw [List.map_append] at this
  exact (List.nodup_append.1 this).2.2 w h1 w h2 rfl
theorem wf_in {h r : List One} {x : One} (hw : Wf (h, r)) (hx : okO x) (h1 : x.1 ∉ namesS h) (h2 : x.1 ∉ namesS r) : Wf (intoS h x, r) := by
  have hp : (intoS h x ++ r).Perm (x :: (h ++ r)) := (into_perm h x).append_right r
  refine ⟨fun y hy => ?_, into_up hw.up h1, ?_⟩
  · rcases List.mem_cons.1 (hp.mem_iff.1 hy) with rfl | hy
    · exact hx
    · exact hw.ok y hy
  · refine ((hp.map _).nodup_iff).2 ?_
    refine List.nodup_cons.2 ⟨?_, hw.nd⟩
    rw [List.map_append, List.mem_append]
    rintro (h | h)
    · exact h1 h
    · exact h2 h
theorem wf_row {h r : List One} {x : One} (hw : Wf (h, r)) (hx : okO x) (h1 : x.1 ∉ namesS h) (h2 : x.1 ∉ namesS r) : Wf (h, r ++ [x]) := by
  have hp : (h ++ (r ++ [x])).Perm (x :: (h ++ r)) := by rw [← List.append_assoc]; exact List.perm_append_singleton _ _
  refine ⟨fun y hy => ?_, hw.up, ?_⟩
  · rcases List.mem_cons.1 (hp.mem_iff.1 hy) with rfl | hy
    · exact hx
    · exact hw.ok y hy
  · refine ((hp.map _).nodup_iff).2 ?_
    refine List.nodup_cons.2 ⟨?_, hw.nd⟩
    rw [List.map_append, List.mem_append]
    rintro (h | h)
    · exact h1 h
    · exact h2 h
theorem wf_next {h r : List One} {x : One} (hw : Wf (h, x :: r)) : okO x ∧ x.1 ∉ namesS h ∧ x.1 ∉ namesS r ∧ Wf (h, r) := by
  have hnd := hw.nd
  unfold namesS at hnd
  rw [List.map_append, List.nodup_append] at hnd
  refine ⟨hw.ok x (by simp), fun h1 => hnd.2.2 _ h1 x.1 (by simp) rfl, ?_, wf_sub (List.Sublist.refl _) (List.sublist_cons_self _ _) hw⟩
  have := hnd.2.1
  rw [List.map_cons, List.nodup_cons] at this
  exact this.1
theorem let_wf : ∀ (r h : List One), Wf (h, r) → Wf ((letS h r).1, (letS h r).2.1)
  | [], h, hw => hw
  | x :: r, h, hw => by
    unfold letS
    split
    · obtain ⟨h1, h2, h3, h4⟩ := wf_next hw
      exact let_wf r _ (wf_in h4 h1 h2 h3)
    · exact hw
theorem ask_wf {g : Gt} {w m : Int} (hg : Wf g) : Wf (askS g w m).1 := by
  unfold askS
  split
  · exact hg
  · rename_i h1
    split
    · exact hg
    · rename_i h2
      have hx : okO (w, m) := ⟨by show 0 ≤ w; omega, by show m = 1 ∨ m = 2; omega⟩
      have h3 : w ∉ namesS g.1 := find_neg.1 (by omega)
      have h4 : w ∉ namesS g.2 := find_neg.1 (by omega)
      split
      · rename_i h5
        have := wf_in (x := (w, m)) hg hx h3 h4
        rwa [h5.1] at this
      · exact wf_row (x := (w, m)) hg hx h3 h4
theorem leave_wf {g : Gt} {w : Int} (hg : Wf g) : Wf (leaveS g w).1 := by
  unfold leaveS
  split
  · exact hg
  · split
    · exact hg
    · exact let_wf _ _ (wf_sub (drop_sub w _) (drop_sub w _) hg)
def sizeS (g : Gt) : Nat := g.1.length + g.2.length
theorem let_perm : ∀ (r h : List One), ((letS h r).1 ++ (letS h r).2.1).Perm (h ++ r)
  | [], h => List.Perm.refl _
  | x :: r, h => by
    unfold letS
    split
    · refine (let_perm r _).trans ?_
      refine ((into_perm h x).append_right r).trans ?_
      exact (List.perm_middle).symm
    · exact List.Perm.refl _
theorem let_size (r h : List One) : (letS h r).1.length + (letS h r).2.1.length = h.length + r.length := by
  have := (let_perm r h).length_eq
  rwa [List.length_append, List.length_append] at this
theorem let_out : ∀ (r h : List One), (letS h r).2.2.length ≤ r.length
  | [], h => Nat.le_refl _
  | x :: r, h => by
    unfold letS
    split
    · have := let_out r (intoS h x)
      simp only [List.length_cons]; omega
    · simp
theorem ask_size (g : Gt) (w m : Int) : sizeS (askS g w m).1 ≤ sizeS g + 1 := by
  unfold askS sizeS
  split
  · simp
  · split
    · simp
    · split
      · simp [into_len]
      · simp; omega
theorem drop_le (w : Int) (l : List One) : (dropS w l).length ≤ l.length := (drop_sub w l).length_le
theorem leave_size (g : Gt) (w : Int) : sizeS (leaveS g w).1 ≤ sizeS g := by
  unfold leaveS sizeS
  split
  · exact Nat.le_refl _
  · split
    · exact Nat.le_refl _
    · have h1 := let_size (dropS w g.2) (dropS w g.1)
      have h2 := drop_le w g.1
      have h3 := drop_le w g.2
      simp only
      omega

/-! ### Ops, one behind the other -/
structure OpS where
  leave : Bool
  who : Int
  mode : Int
def rowP (o : OpS) (i : Nat) : SC := match i with | 0 => bo o.leave | 1 => i6 o.who | _ => u8 o.mode
def opd : OpS := ⟨false, 0, 0⟩
abbrev slP (l : List OpS) : SC := .sl 3 OpS opd rowP l
def stepS (g : Gt) (o : OpS) : Gt := if o.leave then (leaveS g o.who).1 else (askS g o.who o.mode).1
def runS (l : List OpS) : Gt := l.foldl stepS ([], [])
theorem run_step (l : List OpS) (k : Nat) (hk : k < l.length) : stepS (runS (List.take k l)) (List.getD l k opd) = runS (List.take (k + 1) l) := by
  rw [Lib.take_succ opd l k hk]; unfold runS; rw [List.foldl_append]; rfl
theorem step_wf {g : Gt} {o : OpS} (h : Wf g) : Wf (stepS g o) := by unfold stepS; split; exact leave_wf h; exact ask_wf h
theorem step_size (g : Gt) (o : OpS) : sizeS (stepS g o) ≤ sizeS g + 1 := by
  unfold stepS; split
  · have := leave_size g o.who; omega
  · exact ask_size _ _ _
theorem fold_wf : ∀ (l : List OpS) {g : Gt}, Wf g → Wf (l.foldl stepS g)
  | [], _, h => h
  | o :: l, _, h => fold_wf l (step_wf h)
theorem fold_size : ∀ (l : List OpS) (g : Gt), sizeS (l.foldl stepS g) ≤ sizeS g + l.length
  | [], _ => Nat.le_refl _
  | o :: l, g => by
    have := fold_size l (stepS g o)
    have := step_size g o
    simp only [List.foldl_cons, List.length_cons]; omega
theorem run_wf (l : List OpS) : Wf (runS l) := fold_wf l wf_nil
theorem run_size (l : List OpS) : sizeS (runS l) ≤ l.length := by have := fold_size l ([], []); unfold runS; simp [sizeS] at this ⊢; omega

/-! ### What the walks ask -/
theorem ask_arg {g : Gt} {w m : Int} (h : w < 0 ∨ (m ≠ 1 ∧ m ≠ 2)) : askS g w m = (g, false, 2) := by unfold askS; rw [if_pos h]
theorem ask_state {g : Gt} {w m : Int} (h : ¬ (w < 0 ∨ (m ≠ 1 ∧ m ≠ 2))) (h2 : ¬ findS g.1 w < 0 ∨ ¬ findS g.2 w < 0) : askS g w m = (g, false, 9) := by
  unfold askS; rw [if_neg h, if_pos h2]
theorem ask_in {g : Gt} {w m : Int} (h : ¬ (w < 0 ∨ (m ≠ 1 ∧ m ≠ 2))) (h2 : findS g.1 w < 0 ∧ findS g.2 w < 0) (h3 : g.2 = []) (h4 : openS g.1 m = true) : askS g w m = ((intoS g.1 (w, m), []), true, 0) := by
  unfold askS; rw [if_neg h, if_neg (by omega), if_pos ⟨h3, h4⟩]
theorem ask_row {g : Gt} {w m : Int} (h : ¬ (w < 0 ∨ (m ≠ 1 ∧ m ≠ 2))) (h2 : findS g.1 w < 0 ∧ findS g.2 w < 0) (h3 : ¬ (g.2 = [] ∧ openS g.1 m = true)) : askS g w m = ((g.1, g.2 ++ [(w, m)]), false, 0) := by
  unfold askS; rw [if_neg h, if_neg (by omega), if_neg h3]
theorem leave_arg {g : Gt} {w : Int} (h : w < 0) : leaveS g w = (g, [], 2) := by unfold leaveS; rw [if_pos h]
theorem leave_none {g : Gt} {w : Int} (h : ¬ w < 0) (h2 : findS g.1 w < 0 ∧ findS g.2 w < 0) : leaveS g w = (g, [], 6) := by unfold leaveS; rw [if_neg h, if_pos h2]
theorem leave_ok {g : Gt} {w : Int} (h : ¬ w < 0) (h2 : ¬ (findS g.1 w < 0 ∧ findS g.2 w < 0)) {h' r' : List One} {o' : List Int} (h3 : letS (dropS w g.1) (dropS w g.2) = (h', r', o')) : leaveS g w = ((h', r'), o', 0) := by
  unfold leaveS; rw [if_neg h, if_neg h2, h3]
theorem mode_ne {g : Gt} (hg : Wf g) {w : Int} : modeS g.1 w = 0 ↔ findS g.1 w < 0 := by
  constructor
  · intro h
    apply Classical.byContradiction
    intro hn
    have := hg.ok _ (List.mem_append_left _ (mode_mem hn))
    rcases this.2 with h2 | h2 <;> simp only at h2 <;> omega
  · exact mode_zero
theorem let_go {h r : List One} (hr : 0 < r.length) (ho : openS h (List.getD r 0 (0, 0)).2 = true) :
    letS h r = ((letS (intoS h (List.getD r 0 (0, 0))) (List.drop 1 r)).1, (letS (intoS h (List.getD r 0 (0, 0))) (List.drop 1 r)).2.1, (List.getD r 0 (0, 0)).1 :: (letS (intoS h (List.getD r 0 (0, 0))) (List.drop 1 r)).2.2) := by
  cases r with
  | nil => simp at hr
  | cons x r => 
    have ho : openS h x.2 = true := ho
    show letS h (x :: r) = _
    rw [letS, if_pos ho]
    rfl
theorem let_stop {h r : List One} (ho : 0 < r.length → openS h (List.getD r 0 (0, 0)).2 = false) : letS h r = (h, r, []) := by
  cases r with
  | nil => rfl
  | cons x r =>
    have ho : openS h x.2 = false := ho (by simp)
    rw [letS, if_neg (by simp [ho])]
theorem open_eq (l : List One) (m : Int) : openS l m = (decide ((List.length l : Int) = 0) || (decide (m = 1) && decide ((List.getD l 0 (0, 0)).2 = 1))) := by
  cases l with
  | nil => rfl
  | cons x l =>
    have : ¬ (((l.length : Nat) : Int) + 1 = 0) := by omega
    simp [openS, this]
theorem leave_fin {g : Gt} {w : Int} {h r : List One} {o : List Int} (h1 : ¬ w < 0) (h2 : ¬ (findS g.1 w < 0 ∧ findS g.2 w < 0)) (hG : letS (dropS w g.1) (dropS w g.2) = ((letS h r).1, (letS h r).2.1, o ++ (letS h r).2.2))
    (hs : ¬ (0 < r.length ∧ openS h (List.getD r 0 (0, 0)).2 = true)) : leaveS g w = ((h, r), o, 0) := by
  have e : letS h r = (h, r, []) := let_stop fun hr => by
    cases hx : openS h (List.getD r 0 (0, 0)).2 with
    | false => rfl
    | true => exact absurd ⟨hr, hx⟩ hs
  rw [e] at hG
  simp only [List.append_nil] at hG
  exact leave_ok h1 h2 hG
theorem wf_go {h r : List One} (hw : Wf (h, r)) (hr : 0 < r.length) : Wf (intoS h (List.getD r 0 (0, 0)), List.drop 1 r) := by
  cases r with
  | nil => simp at hr
  | cons x r =>
    obtain ⟨h1, h2, h3, h4⟩ := wf_next hw
    exact wf_in h4 h1 h2 h3
theorem wf_head {h r : List One} (hw : Wf (h, r)) (hr : 0 < r.length) : 0 ≤ (List.getD r 0 (0, 0)).1 := by
  cases r with
  | nil => simp at hr
  | cons x r => exact (wf_next hw).1.1
theorem glue_go {T : List One × List One × List Int} {h r : List One} {o : List Int} (hG : T = ((letS h r).1, (letS h r).2.1, o ++ (letS h r).2.2)) (hr : 0 < r.length) (ho : openS h (List.getD r 0 (0, 0)).2 = true) :
    T = ((letS (intoS h (List.getD r 0 (0, 0))) (List.drop 1 r)).1, (letS (intoS h (List.getD r 0 (0, 0))) (List.drop 1 r)).2.1, (o ++ [(List.getD r 0 (0, 0)).1]) ++ (letS (intoS h (List.getD r 0 (0, 0))) (List.drop 1 r)).2.2) := by
  rw [hG, let_go hr ho]; simp
theorem Wf.pos {g : Gt} (h : Wf g) : ∀ y ∈ g.1, 0 ≤ y.1 := fun y hy => (h.ok y (List.mem_append_left _ hy)).1
theorem names_len (l : List One) : (namesS l).length = l.length := List.length_map _
theorem names_step (l : List One) (k : Nat) (hk : k < l.length) : namesS (List.take k l) ++ [(List.getD l k (0, 0)).1] = namesS (List.take (k + 1) l) := by
  rw [Lib.take_succ (0, 0) l k hk]; simp [namesS]
def cutS (l : List One) (i : Int) : List One := if i < 0 then l else List.take i.toNat l ++ List.drop (i.toNat + 1) l
theorem cut_find (l : List One) (w : Int) : cutS l (findS l w) = dropS w l := by
  unfold cutS
  split
  · rename_i h; exact (drop_none h).symm
  · exact drop_at (by omega)
theorem cut_zero (l : List One) : cutS l 0 = List.drop 1 l := by unfold cutS; rw [if_neg (by omega)]; rfl
theorem sz_ask {g : Gt} {w m : Int} {n : Nat} (h : sizeS g ≤ n) : sizeS (askS g w m).1 ≤ n + 1 := Nat.le_trans (ask_size g w m) (by omega)
theorem sz_leave {g : Gt} {w : Int} {n : Nat} (h : sizeS g ≤ n) : sizeS (leaveS g w).1 ≤ n := Nat.le_trans (leave_size g w) h
theorem sz_run {l : List OpS} {k n : Nat} (h : l.length ≤ n) : sizeS (runS (List.take k l)) ≤ n := by
  have := run_size (List.take k l); rw [List.length_take] at this; omega
theorem sz_runs {l : List OpS} {n : Nat} (h : l.length ≤ n) : sizeS (runS l) ≤ n := Nat.le_trans (run_size l) h
theorem leave_out (g : Gt) (w : Int) : (leaveS g w).2.1.length ≤ sizeS g := by
  unfold leaveS sizeS
  split
  · simp
  · split
    · simp
    · have h1 := let_out (dropS w g.2) (dropS w g.1)
      have h2 := drop_le w g.2
      simp only
      omega
theorem names_get (l : List One) (i : Nat) : List.getD (namesS l) i 0 = (List.getD l i (0, 0)).1 := by
  simp only [namesS, List.getD_eq_getElem?_getD, List.getElem?_map]
  cases l[i]? <;> rfl
theorem mode_two {mode : Int} (h : 0 ≤ mode ∧ mode ≤ 255) : IntKind.wrap .u8 (1 + Int.tmod mode 2) = 1 ∨ IntKind.wrap .u8 (1 + Int.tmod mode 2) = 2 := by
  obtain ⟨n, rfl⟩ : ∃ n : Nat, mode = n := ⟨mode.toNat, by omega⟩
  have e : Int.tmod (n : Int) 2 = ((n % 2 : Nat) : Int) := rfl
  rw [e]
  have : n % 2 = 0 ∨ n % 2 = 1 := by omega
  rcases this with h | h <;> rw [h] <;> decide +kernel
end AL.Gate
