/- locks: what holds of every table, however it is asked and left: plain Lean. No condition. -/
import Derived.Test.YtbfhmgbgehenoaaLocksE
namespace AL.Locks
open Go Go.Proofs AL AL.Gate
set_option linter.unusedVariables false
set_option linter.unusedSimpArgs false

structure Lop where
  kind : Int
  who : Int
  lock : Int
  mode : Int
def rowK (o : Lop) (i : Nat) : SC := match i with | 0 => u8 o.kind | 1 => i6 o.who | 2 => i6 o.lock | _ => u8 o.mode
def lopd : Lop := ⟨0, 0, 0, 0⟩
abbrev slK (l : List Lop) : SC := .sl 4 Lop lopd rowK l
def whosS (l : List Lop) : List Int := l.map (·.who)
theorem whos_step (l : List Lop) (k : Nat) (hk : k < l.length) : whosS (List.take (k + 1) l) = whosS (List.take k l) ++ [(List.getD l k lopd).who] := by
  rw [AL.Lib.take_succ lopd l k hk]; unfold whosS; simp

/-! ### gates -/
theorem let_row : ∀ (r h : List One), (letS h r).2.1.Sublist r
  | [], h => List.Sublist.refl _
  | x :: r, h => by
    unfold letS
    split
    · exact (let_row r _).trans (List.sublist_cons_self _ _)
    · exact List.Sublist.refl _
theorem names_sub {a b : List One} (h : a.Sublist b) {x : Int} (hx : x ∈ namesS a) : x ∈ namesS b := (h.map Prod.fst).subset hx
theorem leave_row {g : Gt} {w x : Int} (h : x ∈ namesS (leaveS g w).1.2) : x ∈ namesS g.2 := by
  unfold leaveS at h
  split at h
  · exact h
  · split at h
    · exact h
    · exact names_sub ((let_row _ _).trans (drop_sub w _)) h
theorem leave_names {g : Gt} {w x : Int} (h : x ∈ namesS ((leaveS g w).1.1 ++ (leaveS g w).1.2)) : x ∈ namesS (g.1 ++ g.2) := by
  unfold leaveS at h
  split at h
  · exact h
  · split at h
    · exact h
    · have hp := (let_perm (dropS w g.2) (dropS w g.1)).map Prod.fst
      have h : x ∈ List.map Prod.fst ((letS (dropS w g.1) (dropS w g.2)).1 ++ (letS (dropS w g.1) (dropS w g.2)).2.1) := h
      rw [hp.mem_iff] at h
      exact names_sub ((drop_sub w _).append (drop_sub w _)) h
theorem ask_row' {g : Gt} {w m x : Int} (h : x ∈ namesS (askS g w m).1.2) : x ∈ namesS g.2 ∨ x = w := by
  unfold askS at h
  split at h
  · exact .inl h
  · split at h
    · exact .inl h
    · split at h
      · simp [namesS] at h
      · have h : x ∈ namesS (g.2 ++ [(w, m)]) := h
        rw [names_app, List.mem_append] at h
        rcases h with h | h
        · exact .inl h
        · exact .inr (by simpa [namesS] using h)
theorem ask_names {g : Gt} {w m x : Int} (h : x ∈ namesS ((askS g w m).1.1 ++ (askS g w m).1.2)) : x ∈ namesS (g.1 ++ g.2) ∨ x = w := by
  unfold askS at h
  split at h
  · exact .inl h
  · split at h
    · exact .inl h
    · split at h
      · rename_i h5
        have h : x ∈ namesS (intoS g.1 (w, m) ++ []) := h
        rw [List.append_nil] at h
        obtain ⟨y, hy, rfl⟩ := List.mem_map.1 h
        rcases into_mem.1 hy with rfl | hy
        · exact .inr rfl
        · exact .inl (names_mem (List.mem_append_left _ hy))
      · have h : x ∈ namesS (g.1 ++ (g.2 ++ [(w, m)])) := h
        rw [names_app, names_app, List.mem_append, List.mem_append] at h
        rw [names_app, List.mem_append]
        rcases h with h | h | h
        · exact .inl (.inl h)
        · exact .inl (.inr h)
        · exact .inr (by simpa [namesS] using h)

/-! ### tables -/
abbrev at_ (t : Tab) (i : Nat) : Gt := List.getD t i ([], [])
abbrev allN (g : Gt) : List Int := namesS (g.1 ++ g.2)
structure TabOk (n : Nat) (ws : List Int) (t : Tab) : Prop where
  good : GoodT n t
  who : ∀ g ∈ t, ∀ x ∈ allN g, x ∈ ws
  below : ∀ i j, i < j → j < t.length → ∀ w ∈ namesS (at_ t i).2, w ∉ allN (at_ t j)
  kept : ∀ g ∈ t, Kept g
  wr : ∀ g ∈ t, Wr g.1
theorem at_with (t : Tab) (k i : Nat) (g : Gt) (hk : k < t.length) : at_ (List.set t k g) i = if i = k then g else at_ t i := by
  unfold at_
  rw [List.getD_eq_getElem?_getD, List.getElem?_set]
  split
  · rename_i e; subst e; rw [if_pos rfl]; simp
  · rename_i e; rw [if_neg (fun q => e q.symm), ← List.getD_eq_getElem?_getD]
theorem ok_with {n m : Nat} {ws ws' : List Int} {t : Tab} {k : Nat} {g : Gt} {w0 : Int} (h : TabOk n ws t) (hk : k < t.length) (hn : n ≤ m) (hg : Wf g ∧ sizeS g ≤ m) (hw : ∀ x ∈ ws, x ∈ ws')
    (h1 : ∀ x ∈ allN g, x ∈ allN (at_ t k) ∨ (x = w0 ∧ w0 ∈ ws' ∧ ∀ i, i < t.length → w0 ∉ namesS (at_ t i).2))
    (h2 : ∀ x ∈ namesS g.2, x ∈ namesS (at_ t k).2 ∨ (x = w0 ∧ ∀ j, k < j → j < t.length → w0 ∉ allN (at_ t j))) (h3 : Kept g) (h4 : Wr g.1) : TabOk m ws' (List.set t k g) := by
  have hat : at_ t k ∈ t := AL.Lib.getD_mem _ _ _ hk
  refine ⟨good_with (k := (k : Int)) (good_mono h.good hn) hg, fun x hx y hy => ?_, fun i j hij hj w hwi hwj => ?_, fun x hx => ?_, fun x hx => ?_⟩
  · rcases List.mem_or_eq_of_mem_set hx with hx | rfl
    · exact hw _ (h.who x hx y hy)
    · rcases h1 y hy with q | ⟨rfl, q, _⟩
      · exact hw _ (h.who _ hat y q)
      · exact q
  · rw [List.length_set] at hj
    rw [at_with t k i g hk] at hwi
    rw [at_with t k j g hk] at hwj
    split at hwi
    · rename_i e; subst e
      rw [if_neg (by omega)] at hwj
      rcases h2 w hwi with q | ⟨rfl, q⟩
      · exact h.below i j hij hj w q hwj
      · exact q j hij hj hwj
    · split at hwj
      · rename_i e; subst e
        rcases h1 w hwj with q | ⟨rfl, _, q⟩
        · exact h.below i j hij hj w hwi q
        · exact q i (by omega) hwi
      · exact h.below i j hij hj w hwi hwj
  · rcases List.mem_or_eq_of_mem_set hx with hx | rfl
    · exact h.kept x hx
    · exact h3
  · rcases List.mem_or_eq_of_mem_set hx with hx | rfl
    · exact h.wr x hx
    · exact h4
theorem ok_mono {n m : Nat} {ws ws' : List Int} {t : Tab} (h : TabOk n ws t) (hn : n ≤ m) (hw : ∀ x ∈ ws, x ∈ ws') : TabOk m ws' t :=
  ⟨good_mono h.good hn, fun g hg x hx => hw _ (h.who g hg x hx), h.below, h.kept, h.wr⟩
theorem ok_new (k : Int) : TabOk 0 [] (newS k).1 := by
  have key : ∀ g ∈ (newS k).1, g = (([], []) : Gt) := by
    intro g hg
    unfold newS at hg
    split at hg
    · simp at hg
    · exact (List.mem_replicate.1 hg).2
  refine ⟨new_good k, fun g hg x hx => ?_, fun i j hij hj w hw => ?_, fun g hg => ?_, fun g hg => ?_⟩
  · rw [key g hg] at hx; simp [allN, namesS] at hx
  · have := key (at_ (newS k).1 i) (AL.Lib.getD_mem _ _ _ (by omega))
    rw [this] at hw; simp [namesS] at hw
  · rw [key g hg]; exact fun q => absurd rfl q
  · rw [key g hg]; intro x hx; simp at hx
theorem not_late {t : Tab} {w k : Int} (h : lateS t w k = false) : (∀ i, i < t.length → w ∉ namesS (at_ t i).2) ∧ ∀ i : Nat, i < t.length → k ≤ (i : Int) → modeS (at_ t i).1 w = 0 := by
  unfold lateS at h
  rw [List.any_eq_false] at h
  constructor
  · intro i hi hm
    have := h i (List.mem_range.2 hi)
    simp only [Bool.or_eq_true, not_or, decide_eq_true_eq] at this
    exact find_neg.1 (show findS (at_ t i).2 w < 0 by have := this.1; unfold at_; omega) hm
  · intro i hi hk
    have := h i (List.mem_range.2 hi)
    simp only [Bool.or_eq_true, not_or, Bool.and_eq_true, decide_eq_true_eq, Bool.not_eq_true', decide_eq_false_iff_not, not_and, Decidable.not_not] at this
    exact this.2 hk
theorem ok_ask {n : Nat} {ws : List Int} {t : Tab} {w k m : Int} (h : TabOk n ws t) : TabOk (n + 1) (ws ++ [w]) (askT t w k m).1 := by
  have h0 := ok_mono (m := n + 1) (ws' := ws ++ [w]) h (by omega) (fun x hx => List.mem_append_left _ hx)
  unfold askT
  split
  · exact h0
  · rename_i hh
    split
    · exact h0
    · split
      · exact h0
      · rename_i hl
        have hk := has_iff.1 (show hasS t k = true by simpa using hh)
        obtain ⟨n1, n2⟩ := not_late (show lateS t w k = false by simpa using hl)
        have hat : at_ t k.toNat ∈ t := AL.Lib.getD_mem _ _ _ (by omega)
        have hg := h.good.2 _ hat
        refine ok_with (w0 := w) h (by omega) (by omega) ⟨ask_wf hg.1, sz_ask hg.2⟩ (fun x hx => List.mem_append_left _ hx) (fun x hx => ?_) (fun x hx => ?_) (ask_kept (h.kept _ hat)) (ask_wr (h.wr _ hat))
        · rcases ask_names hx with q | q
          · exact .inl q
          · exact .inr ⟨q, by simp, n1⟩
        · rcases ask_row' hx with q | q
          · exact .inl q
          · refine .inr ⟨q, fun j hj hjl hm => ?_⟩
            rw [allN, names_app, List.mem_append] at hm
            rcases hm with hm | hm
            · have hgj := h.good.2 _ (AL.Lib.getD_mem ([], []) t j hjl)
              exact find_neg.1 ((mode_ne hgj.1).1 (n2 j hjl (by omega))) hm
            · exact n1 j hjl hm
theorem ok_leave {n : Nat} {ws : List Int} {t : Tab} {w k : Int} (h : TabOk n ws t) : TabOk n ws (leaveT t w k).1 := by
  unfold leaveT
  split
  · exact h
  · rename_i hh
    split
    · exact h
    · have hk := has_iff.1 (show hasS t k = true by simpa using hh)
      have hat : at_ t k.toNat ∈ t := AL.Lib.getD_mem _ _ _ (by omega)
      have hg := h.good.2 _ hat
      exact ok_with (w0 := w) h (by omega) (Nat.le_refl _) ⟨leave_wf hg.1, sz_leave hg.2⟩ (fun x hx => hx) (fun x hx => .inl (leave_names hx)) (fun x hx => .inl (leave_row hx)) (leave_kept (h.kept _ hat)) (leave_wr (h.wr _ hat))
theorem ok_quit {n : Nat} {ws : List Int} {w : Int} : ∀ (k : Nat) {t : Tab}, TabOk n ws t → TabOk n ws (quitT w k t)
  | 0, _, h => h
  | k + 1, _, h => ok_quit k (ok_leave h)
def stepT (t : Tab) (o : Lop) : Tab :=
  if Int.tmod o.kind 7 = 4 ∨ Int.tmod o.kind 7 = 5 then (leaveT t o.who o.lock).1 else if Int.tmod o.kind 7 = 6 then quitT o.who t.length t else (askT t o.who o.lock o.mode).1
theorem ok_step {n : Nat} {ws : List Int} {t : Tab} (o : Lop) (h : TabOk n ws t) : TabOk (n + 1) (ws ++ [o.who]) (stepT t o) := by
  unfold stepT
  split
  · exact ok_mono (ok_leave h) (by omega) (fun x hx => List.mem_append_left _ hx)
  · split
    · exact ok_mono (ok_quit _ h) (by omega) (fun x hx => List.mem_append_left _ hx)
    · exact ok_ask h

/-! ### who waits, who holds -/
theorem waits_iff {t : Tab} {w : Int} : 0 ≤ waitIx t w ↔ ∃ i, i < t.length ∧ w ∈ namesS (at_ t i).2 := by
  unfold waitIx
  constructor
  · intro h
    have h1 := (AL.Lib.idx_pos (p := fun g : Gt => decide (0 ≤ findS g.2 w)) (l := t) ([], []) h).1
    have h2 := AL.Lib.idx_lt (fun g : Gt => decide (0 ≤ findS g.2 w)) t
    refine ⟨(AL.Lib.idxS (fun g : Gt => decide (0 ≤ findS g.2 w)) t).toNat, by omega, ?_⟩
    · exact Classical.byContradiction fun q => by have := find_neg.2 q; unfold at_ at this; rw [decide_eq_true_eq] at h1; omega
  · rintro ⟨i, hi, hm⟩
    refine Int.not_lt.1 fun h => ?_
    have := AL.Lib.idx_neg (p := fun g : Gt => decide (0 ≤ findS g.2 w)) (l := t) h _ (AL.Lib.getD_mem ([], []) t i hi)
    rw [decide_eq_false_iff_not] at this
    exact find_neg.1 (show findS (at_ t i).2 w < 0 by unfold at_; omega) hm
theorem holds_iff {n : Nat} {t : Tab} (hg : GoodT n t) {w : Int} {x : Int} : x ∈ heldS t w t.length ↔ ∃ i : Nat, i < t.length ∧ x = (i : Int) ∧ w ∈ namesS (at_ t i).1 := by
  obtain ⟨h1, h2, h3⟩ := held_spec t w t.length
  constructor
  · intro hx
    obtain ⟨i, a, b, c⟩ := h1 x hx
    have hw := (hg.2 _ (AL.Lib.getD_mem ([], []) t i a)).1
    refine ⟨i, a, b, Classical.byContradiction fun q => c ((mode_ne hw).2 (find_neg.2 q))⟩
  · rintro ⟨i, a, rfl, c⟩
    have hw := (hg.2 _ (AL.Lib.getD_mem ([], []) t i a)).1
    exact h2 i a fun q => find_neg.1 ((mode_ne hw).1 q) c
theorem rows_mem {t : Tab} {w : Int} : w ∈ rowsS t ↔ 0 ≤ waitIx t w := by
  rw [waits_iff]
  unfold rowsS
  rw [List.mem_flatten]
  constructor
  · rintro ⟨l, hl, hw⟩
    obtain ⟨g, hg, rfl⟩ := List.mem_map.1 hl
    obtain ⟨i, hi, rfl⟩ := List.mem_iff_getElem.1 hg
    refine ⟨i, hi, ?_⟩
    rw [at_, List.getD_eq_getElem?_getD, List.getElem?_eq_getElem hi]
    exact hw
  · rintro ⟨i, hi, hw⟩
    exact ⟨_, List.mem_map.2 ⟨at_ t i, AL.Lib.getD_mem _ _ _ hi, rfl⟩, hw⟩
theorem blocked_mem {t : Tab} {w : Int} : w ∈ blockedS t ↔ 0 ≤ waitIx t w := by
  unfold blockedS; rw [AL.Ints.sort_mem, rows_mem]
theorem wait_pos {n : Nat} {t : Tab} (hg : GoodT n t) {w : Int} (h : 0 ≤ waitIx t w) : 0 ≤ w := by
  obtain ⟨i, hi, hm⟩ := waits_iff.1 h
  have hw := (hg.2 _ (AL.Lib.getD_mem ([], []) t i hi)).1
  obtain ⟨x, hx, rfl⟩ := List.mem_map.1 hm
  exact (hw.ok x (List.mem_append_right _ hx)).1
/-- IF SOMEONE WAITS, SOMEONE HOLDS A LOCK WHO DOES NOT WAIT: at the greatest lock that is waited for. -/
theorem never {n : Nat} {ws : List Int} {t : Tab} (h : TabOk n ws t) {w : Int} (hw : 0 ≤ waitIx t w) : ∃ v ∈ ws, ¬ 0 ≤ waitIx t v ∧ heldS t v t.length ≠ [] := by
  have key : ∀ d i, i < t.length → t.length - i ≤ d → (at_ t i).2 ≠ [] → ∃ i, i < t.length ∧ (at_ t i).2 ≠ [] ∧ ∀ j, i < j → j < t.length → (at_ t j).2 = [] := by
    intro d
    induction d with
    | zero => intro i hi hd; omega
    | succ d ih =>
      intro i hi hd hr
      by_cases hx : ∃ j, i < j ∧ j < t.length ∧ (at_ t j).2 ≠ []
      · obtain ⟨j, h1, h2, h3⟩ := hx
        exact ih j h2 (by omega) h3
      · exact ⟨i, hi, hr, fun j h1 h2 => Classical.byContradiction fun q => hx ⟨j, h1, h2, q⟩⟩
  obtain ⟨i0, hi0, hm0⟩ := waits_iff.1 hw
  obtain ⟨i, hi, hr, hmax⟩ := key _ i0 hi0 (Nat.le_refl _) (fun q => by rw [q] at hm0; simp [namesS] at hm0)
  have hat : at_ t i ∈ t := AL.Lib.getD_mem _ _ _ hi
  have hk := h.kept _ hat hr
  obtain ⟨y, l, hyl⟩ := List.exists_cons_of_ne_nil hk
  have hy : y.1 ∈ namesS (at_ t i).1 := names_mem (by rw [hyl]; simp)
  refine ⟨y.1, h.who _ hat _ (by rw [allN, names_app, List.mem_append]; exact .inl hy), fun q => ?_, fun q => ?_⟩
  · obtain ⟨j, hj, hm⟩ := waits_iff.1 q
    rcases Nat.lt_trichotomy j i with hji | hji | hji
    · exact h.below j i hji hi y.1 hm (by rw [allN, names_app, List.mem_append]; exact .inl hy)
    · subst hji; exact (h.good.2 _ hat).1.dis hy hm
    · rw [hmax j hji hj] at hm; simp [namesS] at hm
  · have := (holds_iff h.good (w := y.1) (x := (i : Int))).2 ⟨i, hi, rfl, hy⟩
    rw [q] at this; cases this

/-! ### Quit leaves nothing -/
theorem at_leave {t : Tab} {w : Int} {k : Nat} (hk : k < t.length) (i : Nat) : at_ (leaveT t w (k : Int)).1 i = at_ t i ∨ (i = k ∧ at_ (leaveT t w (k : Int)).1 i = (leaveS (at_ t k) w).1) := by
  unfold leaveT
  split
  · exact .inl rfl
  · split
    · exact .inl rfl
    · simp only [withS, Int.toNat_natCast]
      rw [at_with t k i _ hk]
      split
      · exact .inr ⟨by assumption, rfl⟩
      · exact .inl rfl
theorem leave_clean {n : Nat} {t : Tab} (hg : GoodT n t) {w : Int} {k : Nat} (hk : k < t.length) : w ∉ allN (at_ (leaveT t w (k : Int)).1 k) := by
  have hw := (hg.2 _ (AL.Lib.getD_mem ([], []) t k hk)).1
  have hc := leave_gone hw (w := w)
  unfold leaveT
  rw [if_neg (by rw [has_iff.2 (by omega)]; decide)]
  split
  · rename_i he
    intro hm
    have hz := (leave_dec hw (w := w) hm).2
    rw [Int.toNat_natCast] at he
    exact he hz
  · simp only [withS, Int.toNat_natCast]
    rw [at_with t k k _ hk, if_pos rfl]
    exact hc
theorem quit_clean {n : Nat} {w : Int} : ∀ (k : Nat) {t : Tab}, GoodT n t → k ≤ t.length → (∀ i, k ≤ i → i < t.length → w ∉ allN (at_ t i)) → ∀ i, i < t.length → w ∉ allN (at_ (quitT w k t) i)
  | 0, t, _, _, h, i, hi => h i (Nat.zero_le _) hi
  | k + 1, t, hg, hk, h, i, hi => by
    rw [quitT]
    refine quit_clean k (leave_good hg) (by rw [leave_len]; omega) (fun j hj hjl => ?_) i (by rw [leave_len]; exact hi)
    rw [leave_len] at hjl
    by_cases e : j = k
    · subst e; exact leave_clean hg hjl
    · rcases at_leave (w := w) (show k < t.length by omega) j with q | ⟨q, _⟩
      · rw [q]; exact h j (by omega) hjl
      · exact absurd q e
theorem quit_none {n : Nat} {t : Tab} (hg : GoodT n t) (w : Int) : ¬ 0 ≤ waitIx (quitT w t.length t) w ∧ heldS (quitT w t.length t) w (quitT w t.length t).length = [] := by
  have hc := quit_clean (w := w) t.length hg (Nat.le_refl _) (fun i h1 h2 => by omega)
  constructor
  · intro q
    obtain ⟨i, hi, hm⟩ := waits_iff.1 q
    rw [quit_len] at hi
    exact hc i hi (by rw [allN, names_app, List.mem_append]; exact .inr hm)
  · refine List.eq_nil_iff_forall_not_mem.2 fun x hx => ?_
    obtain ⟨i, hi, _, hm⟩ := (holds_iff (quit_good _ hg)).1 hx
    rw [quit_len] at hi
    exact hc i hi (by rw [allN, names_app, List.mem_append]; exact .inl hm)

/-! ### what is given -/
theorem ask_given {n : Nat} {t : Tab} (hg : GoodT n t) {w k m : Int} (h : (askT t w k m).2.2 = 0) : hasS t k = true ∧ lateS t w k = false ∧ (askT t w k m).1 = withS t k (askS (List.getD t k.toNat ([], [])) w m).1 ∧ (askT t w k m).2.1 = (askS (List.getD t k.toNat ([], [])) w m).2.1 := by
  unfold askT at h
  split at h
  · cases h
  · rename_i h1
    split at h
    · cases h
    · rename_i h2
      split at h
      · cases h
      · rename_i h3
        have h1 : hasS t k = true := by simpa using h1
        have h3 : lateS t w k = false := by simpa using h3
        exact ⟨h1, h3, by rw [ask_4 h1 h2 h3], by rw [ask_4 h1 h2 h3]⟩
theorem ask_no {t : Tab} {w k m : Int} (h : ¬ (askT t w k m).2.2 = 0) : (askT t w k m).2.1 = false := by
  cases h1 : hasS t k with
  | false => rw [ask_1 h1]
  | true =>
    by_cases h2 : w < 0 ∨ (m ≠ 1 ∧ m ≠ 2)
    · rw [ask_2 h1 h2]
    · cases h3 : lateS t w k with
      | true => rw [ask_3 h1 h2 h3]
      | false =>
        rw [ask_4 h1 h2 h3] at h ⊢
        simp only at h ⊢
        unfold askS at h ⊢
        split
        · rfl
        · rename_i q1
          rw [if_neg q1] at h
          split
          · rfl
          · rename_i q2
            rw [if_neg q2] at h
            split
            · rename_i q3; rw [if_pos q3] at h; exact absurd rfl h
            · rfl
/-- A write is alone. -/
theorem alone {n : Nat} {ws : List Int} {t : Tab} (h : TabOk n ws t) {w k m : Int} (hm2 : m = 2) (hi : (askT t w k m).2.1 = true) {v : Int} (hv : k ∈ heldS (askT t w k m).1 v (askT t w k m).1.length) : v = w := by
  subst hm2
  have hz : (askT t w k 2).2.2 = 0 := Classical.byContradiction fun q => by rw [ask_no q] at hi; cases hi
  obtain ⟨h1, h2, h3, h4⟩ := ask_given h.good hz
  have hk := has_iff.1 h1
  have hok := ok_ask (w := w) (k := k) (m := 2) h
  obtain ⟨i, hil, hki, hm⟩ := (holds_iff hok.good).1 hv
  have hie : i = k.toNat := by omega
  rw [h3, hie] at hm
  unfold withS at hm
  rw [at_with t k.toNat k.toNat _ (by omega), if_pos rfl] at hm
  rw [h4] at hi
  generalize hg : List.getD t k.toNat ([], []) = g at hm hi
  unfold askS at hm hi
  split at hi
  · cases hi
  · rename_i q1
    rw [if_neg q1] at hm
    split at hi
    · cases hi
    · rename_i q2
      rw [if_neg q2] at hm
      split at hi
      · rename_i q3
        rw [if_pos q3] at hm
        have ho := q3.2
        have : g.1 = [] := by
          cases hg1 : g.1 with
          | nil => rfl
          | cons y l => rw [hg1] at ho; simp [openS] at ho
        have hm : v ∈ namesS (intoS g.1 (w, 2)) := hm
        rw [this] at hm
        simpa [intoS, namesS] using hm
      · cases hi
theorem aloneX {n : Nat} {ws : List Int} {t : Tab} (h : TabOk n ws t) {w k m : Int} (hm2 : m = 2) (hi : (askT t w k m).2.1 = true) {v x : Int} (hv : x ∈ heldS (askT t w k m).1 v (askT t w k m).1.length) (e : x = k) : v = w :=
  alone h hm2 hi (by rw [e] at hv; exact hv)
/-- What is not given: someone waits, or holds this lock or a greater one. -/
def tooLate (t : Tab) (w k : Int) : Bool := decide (0 ≤ waitIx t w) || (decide ((0 : Int) < (List.length (heldS t w t.length) : Int)) && decide (k ≤ List.getD (heldS t w t.length) ((List.length (heldS t w t.length) : Int) - 1).toNat 0))
theorem not_given {n : Nat} {t : Tab} (hg : GoodT n t) {w k m : Int} (h : (askT t w k m).2.2 = 0) (hl : 0 ≤ waitIx t w ∨ ((0 : Int) < (List.length (heldS t w t.length) : Int) ∧ k ≤ List.getD (heldS t w t.length) ((List.length (heldS t w t.length) : Int) - 1).toNat 0)) : False := by
  have h1 := (ask_given hg h).2.1
  rw [(late_iff t w k).2 hl] at h1
  cases h1
theorem new_len (k : Int) : (newS k).1.length ≤ 12 := by
  unfold newS
  split
  · exact Nat.zero_le _
  · rw [List.length_replicate]; omega
theorem free_step (t : Tab) (k : Nat) (hk : k < t.length) : (freeS (List.take k t) && decide ((List.length (List.getD t k ([], [])).1 : Int) + (List.length (List.getD t k ([], [])).2 : Int) = 0)) = freeS (List.take (k + 1) t) := by
  rw [AL.Lib.take_succ ([], []) t k hk]; unfold freeS; simp
theorem ok_who {n : Nat} {ws : List Int} {t : Tab} (h : TabOk n ws t) {w : Int} (hw : 0 ≤ waitIx t w) : w ∈ ws := by
  obtain ⟨i, hi, hm⟩ := waits_iff.1 hw
  exact h.who _ (AL.Lib.getD_mem ([], []) t i hi) w (by rw [allN, names_app, List.mem_append]; exact .inr hm)

/-! ### who is blocked, by those of some ops -/
def Cand (t : Tab) (s : List Int) (w : Int) : Prop := 0 ≤ waitIx t w ∧ ((List.length s : Int) = 0 ∨ List.getD s ((List.length s : Int) - 1).toNat 0 < w)
def BestOk (t : Tab) (s : List Int) (l : List Lop) (k : Nat) (b : Int) : Prop :=
  (b < 0 ∧ ∀ i, i < k → ¬ Cand t s (List.getD l i lopd).who) ∨ (0 ≤ b ∧ Cand t s b ∧ ∀ i, i < k → Cand t s (List.getD l i lopd).who → b ≤ (List.getD l i lopd).who)
theorem best_0 (t : Tab) (s : List Int) (l : List Lop) : BestOk t s l 0 (-1) := .inl ⟨by omega, fun i hi => by omega⟩
theorem best_t {n : Nat} {t : Tab} (hg : GoodT n t) {s : List Int} {l : List Lop} {k : Nat} {b : Int} (h : BestOk t s l k b) (hc : Cand t s (List.getD l k lopd).who) (hb : b < 0 ∨ (List.getD l k lopd).who < b) : BestOk t s l (k + 1) (List.getD l k lopd).who := by
  refine .inr ⟨wait_pos hg hc.1, hc, fun i hi hci => ?_⟩
  by_cases e : i = k
  · subst e; exact Int.le_refl _
  · rcases h with ⟨h1, h2⟩ | ⟨h1, h2, h3⟩
    · exact absurd hci (h2 i (by omega))
    · have := h3 i (by omega) hci; omega
theorem best_f {t : Tab} {s : List Int} {l : List Lop} {k : Nat} {b : Int} (h : BestOk t s l k b) (hb : ¬ (Cand t s (List.getD l k lopd).who ∧ (b < 0 ∨ (List.getD l k lopd).who < b))) : BestOk t s l (k + 1) b := by
  rcases h with ⟨h1, h2⟩ | ⟨h1, h2, h3⟩
  · refine .inl ⟨h1, fun i hi hci => ?_⟩
    by_cases e : i = k
    · subst e; exact hb ⟨hci, .inl h1⟩
    · exact h2 i (by omega) hci
  · refine .inr ⟨h1, h2, fun i hi hci => ?_⟩
    by_cases e : i = k
    · subst e; exact Int.not_lt.1 fun q => hb ⟨hci, .inr q⟩
    · exact h3 i (by omega) hci
theorem last_take (s : List Int) (j : Nat) (hj : j ≤ s.length) (h0 : 0 < j) : List.getD (List.take j s) ((List.length (List.take j s) : Int) - 1).toNat 0 = List.getD s (j - 1) 0 := by
  rw [List.length_take, Nat.min_eq_left hj, show ((j : Int) - 1).toNat = j - 1 by omega, List.getD_eq_getElem?_getD, List.getD_eq_getElem?_getD, List.getElem?_take, if_pos (by omega)]
theorem rise_get {s : List Int} (h : AL.Ints.Rise s) {i j : Nat} (hij : i < j) (hj : j < s.length) : List.getD s i 0 < List.getD s j 0 := by
  have := List.pairwise_iff_getElem.1 h i j (by omega) hj hij
  rw [List.getD_eq_getElem?_getD, List.getD_eq_getElem?_getD, List.getElem?_eq_getElem hj, List.getElem?_eq_getElem (show i < s.length by omega)]
  exact this
theorem cand_get {t : Tab} {j : Nat} (hj : j < (blockedS t).length) : Cand t (List.take j (blockedS t)) (List.getD (blockedS t) j 0) := by
  refine ⟨blocked_mem.1 (AL.Lib.getD_mem 0 _ j hj), ?_⟩
  by_cases h0 : j = 0
  · subst h0; exact .inl rfl
  · right
    rw [last_take _ j (by omega) (by omega)]
    exact rise_get (AL.Ints.sort_rise _) (by omega) hj
theorem who_ix {l : List Lop} {w : Int} (h : w ∈ whosS l) : ∃ i, i < l.length ∧ (List.getD l i lopd).who = w := by
  obtain ⟨o, ho, rfl⟩ := List.mem_map.1 h
  obtain ⟨i, hi, rfl⟩ := List.mem_iff_getElem.1 ho
  exact ⟨i, hi, by rw [List.getD_eq_getElem?_getD, List.getElem?_eq_getElem hi]; rfl⟩
theorem blocked_end {t : Tab} {l : List Lop} {j k : Nat} {b : Int} (hW : ∀ w, 0 ≤ waitIx t w → w ∈ whosS l) (hj : j ≤ (blockedS t).length) (hk : l.length ≤ k) (h : BestOk t (List.take j (blockedS t)) l k b) (hb : b < 0) : List.take j (blockedS t) = blockedS t := by
  rcases h with ⟨_, h2⟩ | ⟨h1, _⟩
  · refine List.take_of_length_le (Nat.le_of_not_lt fun hlt => ?_)
    have hc := cand_get hlt
    obtain ⟨i, hi, e⟩ := who_ix (hW _ hc.1)
    exact h2 i (by omega) (by rw [e]; exact hc)
  · omega
theorem blocked_next {t : Tab} {l : List Lop} {j k : Nat} {b : Int} (hW : ∀ w, 0 ≤ waitIx t w → w ∈ whosS l) (hj : j ≤ (blockedS t).length) (hk : l.length ≤ k) (h : BestOk t (List.take j (blockedS t)) l k b) (hb : ¬ b < 0) :
    j < (blockedS t).length ∧ List.take j (blockedS t) ++ [b] = List.take (j + 1) (blockedS t) := by
  rcases h with ⟨h1, _⟩ | ⟨_, h2, h3⟩
  · exact absurd h1 hb
  · obtain ⟨i, hi, e⟩ := List.mem_iff_getElem.1 (blocked_mem.2 h2.1)
    have e : List.getD (blockedS t) i 0 = b := by rw [List.getD_eq_getElem?_getD, List.getElem?_eq_getElem hi]; exact e
    have hij : j ≤ i := by
      refine Nat.le_of_not_lt fun hlt => ?_
      rcases h2.2 with q | q
      · rw [List.length_take] at q; omega
      · rw [last_take _ j hj (by omega)] at q
        by_cases ee : i = j - 1
        · subst ee; omega
        · have := rise_get (AL.Ints.sort_rise (rowsS t)) (show i < j - 1 by omega) (show j - 1 < (blockedS t).length by omega)
          have this : List.getD (blockedS t) i 0 < List.getD (blockedS t) (j - 1) 0 := this
          omega
    have hjl : j < (blockedS t).length := by omega
    have hc := cand_get hjl
    obtain ⟨p, hp, ep⟩ := who_ix (hW _ hc.1)
    have hle := h3 p (by omega) (by rw [ep]; exact hc)
    rw [ep] at hle
    have : i = j := by
      rcases Nat.lt_or_ge j i with q | q
      · have := rise_get (AL.Ints.sort_rise (rowsS t)) q hi
        have this : List.getD (blockedS t) j 0 < List.getD (blockedS t) i 0 := this
        omega
      · omega
    subst this
    exact ⟨hjl, by rw [AL.Lib.take_succ 0 _ i hjl, e]⟩

/-! ### someone goes on -/
def goes1 (t : Tab) (o : Lop) : Bool := !decide (0 ≤ waitIx t o.who) && decide ((0 : Int) < (List.length (heldS t o.who t.length) : Int))
def goesS (t : Tab) (l : List Lop) : Bool := l.any (goes1 t)
theorem goes_step (t : Tab) (l : List Lop) (k : Nat) (hk : k < l.length) : (goesS t (List.take k l) || goes1 t (List.getD l k lopd)) = goesS t (List.take (k + 1) l) := by
  rw [AL.Lib.take_succ lopd l k hk]; unfold goesS; simp
theorem goes_never {n : Nat} {t : Tab} {l : List Lop} (h : TabOk n (whosS l) t) (hb : ¬ (List.length (blockedS t) : Int) = 0) : goesS t l = true := by
  have hm := AL.Lib.getD_mem 0 (blockedS t) 0 (by omega)
  obtain ⟨v, hv, h1, h2⟩ := never h (blocked_mem.1 hm)
  obtain ⟨o, ho, rfl⟩ := List.mem_map.1 hv
  refine List.any_eq_true.2 ⟨o, ho, ?_⟩
  unfold goes1
  have := List.length_pos_iff.2 h2
  rw [decide_eq_false h1, decide_eq_true (by omega)]; rfl
theorem len_step (t : Tab) (o : Lop) : (stepT t o).length = t.length := by
  unfold stepT
  split
  · exact leave_len _ _ _
  · split
    · exact quit_len _ _ _
    · exact ask_len _ _ _ _
theorem blocked_le {t : Tab} {l : List Lop} (hW : ∀ w, 0 ≤ waitIx t w → w ∈ whosS l) (hl : l.length ≤ 60) : (blockedS t).length ≤ 100 := by
  have h : (blockedS t).length ≤ (whosS l).length := by
    refine List.Nodup.length_le_of_subset ?_ (fun x hx => hW x (blocked_mem.1 hx))
    exact (AL.Ints.sort_rise (rowsS t)).imp (fun h e => by rw [e] at h; exact Int.lt_irrefl _ h)
  unfold whosS at h
  rw [List.length_map] at h
  omega
theorem good_len {n : Nat} {t : Tab} (h : GoodT n t) : t.length ≤ 100 := h.1
theorem tmod8 {n : Int} (h : 0 ≤ n) : 0 ≤ Int.tmod n 8 ∧ Int.tmod n 8 < 8 := ⟨Int.tmod_nonneg 8 h, Int.tmod_lt_of_pos n (by decide)⟩
theorem new_ok (k : Int) (h : 1 ≤ k ∧ k ≤ 8) : (newS k).2 = 0 := by unfold newS; rw [if_neg (by omega)]
end AL.Locks
