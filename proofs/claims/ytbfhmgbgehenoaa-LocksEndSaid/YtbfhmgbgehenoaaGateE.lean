/- gate: what holds of every gate, however it is asked, and who is let in, in plain Lean. No condition. -/
import Derived.Test.YtbfhmgbgehenoaaGateD
namespace AL.Gate
open Go AL
set_option linter.unusedVariables false
set_option linter.unusedSimpArgs false

/-- One that writes is alone. -/
def Wr (h : List One) : Prop := ∀ x ∈ h, x.2 = 2 → h.length = 1
/-- If someone waits, someone holds. -/
def Kept (g : Gt) : Prop := g.2 ≠ [] → g.1 ≠ []
theorem wr_sub {h h' : List One} (hs : h'.Sublist h) (hw : Wr h) : Wr h' := fun x hx h2 => by
  have h1 := hw x (hs.subset hx) h2
  have h3 := hs.length_le
  have h4 : 0 < h'.length := List.length_pos_of_mem hx
  omega
theorem wr_into {h : List One} {x : One} (hw : Wr h) (ho : openS h x.2 = true) : Wr (intoS h x) := by
  cases h with
  | nil => intro z hz _; rfl
  | cons y l =>
    simp only [openS, Bool.and_eq_true, decide_eq_true_eq] at ho
    intro z hz h2
    rcases into_mem.1 hz with rfl | hz
    · omega
    · have h1 := hw z hz h2
      simp only [List.length_cons] at h1
      have : l = [] := List.eq_nil_of_length_eq_zero (by omega)
      subst this
      rw [List.mem_singleton.1 hz] at h2
      omega
theorem let_wr : ∀ (r h : List One), Wr h → Wr (letS h r).1
  | [], h, hw => hw
  | x :: r, h, hw => by
    unfold letS
    split
    · rename_i ho; exact let_wr r _ (wr_into hw ho)
    · exact hw
theorem let_kept : ∀ (r h : List One), Kept ((letS h r).1, (letS h r).2.1)
  | [], h => fun h => absurd rfl h
  | x :: r, h => by
    unfold letS
    split
    · exact let_kept r _
    · rename_i ho
      intro _ e
      simp only at e
      subst e
      simp [openS] at ho
theorem ask_wr {g : Gt} {w m : Int} (hg : Wr g.1) : Wr (askS g w m).1.1 := by
  unfold askS
  split
  · exact hg
  · split
    · exact hg
    · split
      · rename_i h; exact wr_into (x := (w, m)) hg h.2
      · exact hg
theorem ask_kept {g : Gt} {w m : Int} (hg : Kept g) : Kept (askS g w m).1 := by
  unfold askS
  split
  · exact hg
  · split
    · exact hg
    · split
      · intro h; exact absurd rfl h
      · rename_i h
        intro _ e
        simp only at e
        by_cases h2 : g.2 = []
        · exact h ⟨h2, by rw [e]; rfl⟩
        · exact hg h2 e
theorem leave_wr {g : Gt} {w : Int} (hg : Wr g.1) : Wr (leaveS g w).1.1 := by
  unfold leaveS
  split
  · exact hg
  · split
    · exact hg
    · exact let_wr _ _ (wr_sub (drop_sub w _) hg)
theorem leave_kept {g : Gt} {w : Int} (hg : Kept g) : Kept (leaveS g w).1 := by
  unfold leaveS
  split
  · exact hg
  · split
    · exact hg
    · exact let_kept _ _
theorem step_wr {g : Gt} {o : OpS} (h : Wr g.1) : Wr (stepS g o).1 := by unfold stepS; split; exact leave_wr h; exact ask_wr h
theorem step_kept {g : Gt} {o : OpS} (h : Kept g) : Kept (stepS g o) := by unfold stepS; split; exact leave_kept h; exact ask_kept h
theorem fold_wr : ∀ (l : List OpS) {g : Gt}, Wr g.1 → Wr (l.foldl stepS g).1
  | [], _, h => h
  | o :: l, _, h => fold_wr l (step_wr h)
theorem fold_kept : ∀ (l : List OpS) {g : Gt}, Kept g → Kept (l.foldl stepS g)
  | [], _, h => h
  | o :: l, _, h => fold_kept l (step_kept h)
theorem run_wr (l : List OpS) : Wr (runS l).1 := fold_wr l fun x h => by cases h
theorem run_kept (l : List OpS) : Kept (runS l) := fold_kept l fun h => absurd rfl h

theorem leave_dec {g : Gt} (hg : Wf g) {w : Int} (hw : w ∈ namesS (g.1 ++ g.2)) : sizeS (leaveS g w).1 + 1 = sizeS g ∧ (leaveS g w).2.2 = 0 := by
  have h0 : ¬ w < 0 := by
    obtain ⟨x, hx, rfl⟩ := List.mem_map.1 hw
    have := (hg.ok x hx).1; omega
  unfold namesS at hw
  rw [List.map_append, List.mem_append] at hw
  have h2 : ¬ (findS g.1 w < 0 ∧ findS g.2 w < 0) := fun h => by
    rcases hw with h' | h'
    · exact find_neg.1 h.1 h'
    · exact find_neg.1 h.2 h'
  have hs := let_size (dropS w g.2) (dropS w g.1)
  unfold leaveS sizeS
  rw [if_neg h0, if_neg h2]
  refine ⟨?_, rfl⟩
  simp only
  rcases hw with h' | h'
  · have h3 : findS g.2 w < 0 := find_neg.2 fun h => hg.dis h' h
    have h4 : ¬ findS g.1 w < 0 := fun h => find_neg.1 h h'
    have := drop_len h4
    rw [drop_none h3] at hs ⊢
    omega
  · have h3 : findS g.1 w < 0 := find_neg.2 fun h => hg.dis h h'
    have h4 : ¬ findS g.2 w < 0 := fun h => find_neg.1 h h'
    have := drop_len h4
    rw [drop_none h3] at hs ⊢
    omega

/-! ### Who waited longer is let in first -/
theorem let_mono : ∀ (r h : List One) {x : One}, x ∈ h → x ∈ (letS h r).1
  | [], h, x, hx => hx
  | y :: r, h, x, hx => by
    unfold letS
    split
    · exact let_mono r _ (into_mem.2 (.inr hx))
    · exact hx
theorem fair_let (p : One) (R2 : List One) : ∀ (Q h : List One), p ∈ (letS h (Q ++ p :: R2)).1 ∨
    ∃ Q', (letS h (Q ++ p :: R2)).2.1 = Q' ++ p :: R2 ∧ ((letS h (Q ++ p :: R2)).1 ++ Q').Perm (h ++ Q) ∧ ∀ n ∈ (letS h (Q ++ p :: R2)).2.2, n ∈ namesS Q
  | [], h => by
    rw [List.nil_append, letS]
    split
    · exact .inl (let_mono _ _ (into_mem.2 (.inl rfl)))
    · exact .inr ⟨[], rfl, by simp, fun n hn => by cases hn⟩
  | x :: Q, h => by
    rw [List.cons_append, letS]
    split
    · rcases fair_let p R2 Q (intoS h x) with h1 | ⟨Q', h1, h2, h3⟩
      · exact .inl h1
      · refine .inr ⟨Q', h1, h2.trans (((into_perm h x).append_right Q).trans List.perm_middle.symm), fun n hn => ?_⟩
        rcases List.mem_cons.1 hn with rfl | hn
        · exact List.mem_cons_self ..
        · exact List.mem_cons_of_mem _ (h3 n hn)
    · exact .inr ⟨x :: Q, rfl, List.Perm.refl _, fun n hn => by cases hn⟩

structure FairS (me M : Int) (rest : List Int) (g : Gt) : Prop where
  wf : Wf g
  kept : Kept g
  nd : rest.Nodup
  out : me ∉ rest
  way : ((me, M) ∈ g.1 ∧ ∀ w ∈ rest, w ∈ namesS (g.1 ++ g.2)) ∨ ∃ R1 R2, g.2 = R1 ++ (me, M) :: R2 ∧ ∀ w, w ∈ namesS (g.1 ++ R1) ↔ w ∈ rest

theorem names_app (a b : List One) : namesS (a ++ b) = namesS a ++ namesS b := List.map_append
theorem drop_app {p : One} {R2 : List One} {w : Int} (hne : p.1 ≠ w) : ∀ (R1 : List One), (w ∈ namesS R1 ∨ w ∉ namesS R2) → dropS w (R1 ++ p :: R2) = dropS w R1 ++ p :: R2
  | [], h => by
    show (if p.1 = w then R2 else p :: dropS w R2) = p :: R2
    rw [if_neg hne, drop_none (find_neg.2 (h.resolve_left (by simp [namesS])))]
  | x :: R1, h => by
    show (if x.1 = w then R1 ++ p :: R2 else x :: dropS w (R1 ++ p :: R2)) = (if x.1 = w then R1 else x :: dropS w R1) ++ p :: R2
    split
    · rfl
    · rename_i hx
      rw [drop_app hne R1 (h.imp (fun h => ?_) id)]
      · rfl
      · rcases List.mem_cons.1 h with h | h
        · exact absurd h.symm hx
        · exact h
theorem names_drop {w : Int} {l : List One} (hn : (namesS l).Nodup) {n : Int} : n ∈ namesS (dropS w l) ↔ n ∈ namesS l ∧ n ≠ w := by
  constructor
  · intro h
    obtain ⟨x, hx, rfl⟩ := List.mem_map.1 h
    obtain ⟨h1, h2⟩ := (drop_mem hn).1 hx
    exact ⟨names_mem h1, h2⟩
  · rintro ⟨h, hne⟩
    obtain ⟨x, hx, rfl⟩ := List.mem_map.1 h
    exact names_mem ((drop_mem hn).2 ⟨hx, hne⟩)

theorem fair_in {me M : Int} {rest : List Int} {g : Gt} {w : Int} (hM : M ≠ 0) (h : FairS me M (w :: rest) g) :
    (leaveS g w).2.2 = 0 ∧ FairS me M rest (leaveS g w).1 ∧ ∀ n ∈ (leaveS g w).2.1, n ≠ me → n ∉ rest → modeS (leaveS g w).1.1 me ≠ 0 := by
  have hne : w ≠ me := fun e => h.out (by rw [e]; exact List.mem_cons_self ..)
  have hin : w ∈ namesS (g.1 ++ g.2) := by
    rcases h.way with ⟨_, h2⟩ | ⟨R1, R2, h1, h2⟩
    · exact h2 w (List.mem_cons_self ..)
    · have := (h2 w).2 (List.mem_cons_self ..)
      rw [names_app, List.mem_append] at this
      rw [names_app, List.mem_append, h1, names_app, List.mem_append]
      rcases this with h | h
      · exact .inl h
      · exact .inr (.inl h)
  have hd := leave_dec h.wf hin
  have h0 : ¬ w < 0 := by
    obtain ⟨x, hx, rfl⟩ := List.mem_map.1 hin
    have := (h.wf.ok x hx).1; omega
  have hor : ¬ (findS g.1 w < 0 ∧ findS g.2 w < 0) := fun hh => by
    rw [names_app, List.mem_append] at hin
    rcases hin with h' | h'
    · exact find_neg.1 hh.1 h'
    · exact find_neg.1 hh.2 h'
  have hE : leaveS g w = (((letS (dropS w g.1) (dropS w g.2)).1, (letS (dropS w g.1) (dropS w g.2)).2.1), (letS (dropS w g.1) (dropS w g.2)).2.2, 0) := by
    unfold leaveS; rw [if_neg h0, if_neg hor]
  have hwf := leave_wf (w := w) h.wf
  have hk := leave_kept (w := w) h.kept
  have hnd := (List.nodup_cons.1 h.nd)
  have hme : me ∉ rest := fun hm => h.out (List.mem_cons_of_mem _ hm)
  have hmode : ∀ g' : Gt, Wf g' → (me, M) ∈ g'.1 → modeS g'.1 me ≠ 0 := fun g' hg' hm => by
    rw [mode_eq hg'.nd1 hm]; exact hM
  refine ⟨hd.2, ?_⟩
  rw [hE] at hwf hk ⊢
  rcases h.way with ⟨h1, h2⟩ | ⟨R1, R2, h1, h2⟩
  · have hin1 : (me, M) ∈ dropS w g.1 := (drop_mem h.wf.nd1).2 ⟨h1, fun e => hne e.symm⟩
    have hin2 := let_mono (dropS w g.2) (dropS w g.1) hin1
    refine ⟨⟨hwf, hk, hnd.2, hme, .inl ⟨hin2, fun n hn => ?_⟩⟩, fun n _ _ _ => hmode _ hwf hin2⟩
    have hnw : n ≠ w := fun e => hnd.1 (by rw [← e]; exact hn)
    have h3 := h2 n (List.mem_cons_of_mem _ hn)
    have hp := (let_perm (dropS w g.2) (dropS w g.1)).map Prod.fst
    show n ∈ List.map Prod.fst _
    rw [hp.mem_iff]
    show n ∈ namesS (dropS w g.1 ++ dropS w g.2)
    rw [names_app, List.mem_append] at h3 ⊢
    rcases h3 with h3 | h3
    · exact .inl ((names_drop h.wf.nd1).2 ⟨h3, hnw⟩)
    · exact .inr ((names_drop h.wf.nd2).2 ⟨h3, hnw⟩)
  · have hnd2 := h.wf.nd2
    rw [h1, names_app] at hnd2
    have hR1 : (namesS R1).Nodup := (List.nodup_append.1 hnd2).1
    have hdr : dropS w g.2 = dropS w R1 ++ (me, M) :: R2 := by
      rw [h1]
      refine drop_app (fun e => hne e.symm) R1 ?_
      have h3 := (h2 w).2 (List.mem_cons_self ..)
      rw [names_app, List.mem_append] at h3
      rcases h3 with h3 | h3
      · refine .inr fun h4 => h.wf.dis h3 ?_
        rw [h1, names_app, List.mem_append]
        exact .inr (List.mem_cons_of_mem _ h4)
      · exact .inl h3
    have hnames : ∀ n, n ∈ namesS (dropS w g.1 ++ dropS w R1) ↔ n ∈ rest := fun n => by
      rw [names_app, List.mem_append, names_drop h.wf.nd1, names_drop hR1, ← or_and_right]
      have := h2 n
      rw [names_app, List.mem_append] at this
      rw [this, List.mem_cons]
      constructor
      · rintro ⟨rfl | h3, h4⟩
        · exact absurd rfl h4
        · exact h3
      · intro h3
        exact ⟨.inr h3, fun e => hnd.1 (by rw [← e]; exact h3)⟩
    rw [hdr] at hwf hk ⊢
    rcases fair_let (me, M) R2 (dropS w R1) (dropS w g.1) with h3 | ⟨Q', h3, h4, h5⟩
    · refine ⟨⟨hwf, hk, hnd.2, hme, .inl ⟨h3, fun n hn => ?_⟩⟩, fun n _ _ _ => hmode _ hwf h3⟩
      have hp := (let_perm (dropS w R1 ++ (me, M) :: R2) (dropS w g.1)).map Prod.fst
      show n ∈ List.map Prod.fst _
      rw [hp.mem_iff]
      show n ∈ namesS (dropS w g.1 ++ (dropS w R1 ++ (me, M) :: R2))
      have := (hnames n).2 hn
      rw [names_app, List.mem_append] at this
      rw [names_app, List.mem_append, names_app, List.mem_append]
      rcases this with h | h
      · exact .inl h
      · exact .inr (.inl h)
    · refine ⟨⟨hwf, hk, hnd.2, hme, .inr ⟨Q', R2, h3, fun n => ?_⟩⟩, fun n hn hn1 hn2 => ?_⟩
      · have hp := h4.map Prod.fst
        show n ∈ List.map Prod.fst _ ↔ _
        rw [hp.mem_iff]
        exact hnames n
      · have := h5 n hn
        exact absurd ((hnames n).1 (by rw [names_app, List.mem_append]; exact .inr this)) hn2

theorem fair_end {me M : Int} {g : Gt} (h : FairS me M [] g) : modeS g.1 me = M ∧ findS g.2 me < 0 := by
  rcases h.way with ⟨h1, _⟩ | ⟨R1, R2, h1, h2⟩
  · exact ⟨mode_eq h.wf.nd1 h1, find_neg.2 fun hm => h.wf.dis (names_mem h1) hm⟩
  · have h3 := h.kept (by rw [h1]; simp)
    cases hg : g.1 with
    | nil => exact absurd hg h3
    | cons x l =>
      have := (h2 x.1).1 (by rw [hg]; exact List.mem_cons_self ..)
      cases this

theorem fair_ask {me M : Int} {rest : List Int} {g : Gt} {w m : Int} (h : FairS me M rest g) : FairS me M rest (askS g w m).1 := by
  refine ⟨ask_wf h.wf, ask_kept h.kept, h.nd, h.out, ?_⟩
  unfold askS
  split
  · exact h.way
  · split
    · exact h.way
    · split
      · rename_i h5
        rcases h.way with ⟨h1, h2⟩ | ⟨R1, R2, h1, h2⟩
        · refine .inl ⟨into_mem.2 (.inr h1), fun n hn => ?_⟩
          have := h2 n hn
          rw [names_app, List.mem_append, h5.1] at this
          rw [names_app, List.mem_append]
          rcases this with h3 | h3
          · left
            obtain ⟨x, hx, rfl⟩ := List.mem_map.1 h3
            exact names_mem (into_mem.2 (.inr hx))
          · cases h3
        · rw [h5.1] at h1; simp at h1
      · rcases h.way with ⟨h1, h2⟩ | ⟨R1, R2, h1, h2⟩
        · refine .inl ⟨h1, fun n hn => ?_⟩
          have := h2 n hn
          rw [names_app, List.mem_append] at this ⊢
          rw [names_app, List.mem_append]
          rcases this with h3 | h3
          · exact .inl h3
          · exact .inr (.inl h3)
        · exact .inr ⟨R1, R2 ++ [(w, m)], by simp [h1], h2⟩

theorem leave_gone {g : Gt} (hg : Wf g) {w : Int} : w ∉ namesS ((leaveS g w).1.1 ++ (leaveS g w).1.2) := by
  unfold leaveS
  split
  · rename_i h
    intro hm
    obtain ⟨x, hx, rfl⟩ := List.mem_map.1 hm
    have := (hg.ok x hx).1; omega
  · split
    · rename_i h
      rw [names_app, List.mem_append]
      rintro (h1 | h1)
      · exact find_neg.1 h.1 h1
      · exact find_neg.1 h.2 h1
    · have hp := (let_perm (dropS w g.2) (dropS w g.1)).map Prod.fst
      intro hm
      have hm : w ∈ List.map Prod.fst ((letS (dropS w g.1) (dropS w g.2)).1 ++ (letS (dropS w g.1) (dropS w g.2)).2.1) := hm
      rw [hp.mem_iff] at hm
      have hm : w ∈ namesS (dropS w g.1 ++ dropS w g.2) := hm
      rw [names_app, List.mem_append, names_drop hg.nd1, names_drop hg.nd2] at hm
      rcases hm with h | h
      · exact h.2 rfl
      · exact h.2 rfl

theorem fair_start {g : Gt} (hg : Wf g) (hk : Kept g) {me M : Int} (hme : me ∉ namesS (g.1 ++ g.2)) (h0 : 0 ≤ me) (hM : M = 1 ∨ M = 2) :
    (askS g me M).2.2 = 0 ∧ FairS me M (namesS g.1 ++ namesS g.2) (askS g me M).1 ∧ (askS g me M).2.1 = decide (findS (askS g me M).1.2 me < 0) := by
  have hn := hg.nd
  rw [names_app] at hn
  have hm2 := hme
  rw [names_app, List.mem_append, not_or] at hm2
  have h1 : ¬ (me < 0 ∨ (M ≠ 1 ∧ M ≠ 2)) := by omega
  have h2 : findS g.1 me < 0 ∧ findS g.2 me < 0 := ⟨find_neg.2 hm2.1, find_neg.2 hm2.2⟩
  by_cases h3 : g.2 = [] ∧ openS g.1 M = true
  · have hE := ask_in h1 h2 h3.1 h3.2
    have hw := ask_wf (w := me) (m := M) hg
    have hk' := ask_kept (w := me) (m := M) hk
    rw [hE] at hw hk' ⊢
    refine ⟨rfl, ⟨hw, hk', hn, by rw [List.mem_append, not_or]; exact hm2, .inl ⟨into_mem.2 (.inl rfl), fun n hn => ?_⟩⟩, by simp [findS, Lib.idxS]⟩
    rw [h3.1] at hn
    rw [List.mem_append] at hn
    rcases hn with hn | hn
    · obtain ⟨x, hx, rfl⟩ := List.mem_map.1 hn
      rw [names_app, List.mem_append]
      exact .inl (names_mem (into_mem.2 (.inr hx)))
    · cases hn
  · have hE := ask_row h1 h2 h3
    have hw := ask_wf (w := me) (m := M) hg
    have hk' := ask_kept (w := me) (m := M) hk
    rw [hE] at hw hk' ⊢
    refine ⟨rfl, ⟨hw, hk', hn, by rw [List.mem_append, not_or]; exact hm2, .inr ⟨g.2, [], rfl, fun n => by rw [names_app]⟩⟩, ?_⟩
    have : ¬ findS (g.2 ++ [(me, M)]) me < 0 := fun h => find_neg.1 h (by rw [names_app, List.mem_append]; exact .inr (List.mem_cons_self ..))
    simp only [decide_eq_false this]
theorem fine_end {g : Gt} (hk : Kept g) : (decide ((List.length (namesS g.2) : Int) = 0) || decide ((0 : Int) < List.length (namesS g.1))) = true := by
  rw [names_len, names_len, Bool.or_eq_true, decide_eq_true_eq, decide_eq_true_eq]
  by_cases h : g.2 = []
  · left; rw [h]; rfl
  · right
    have := List.length_pos_iff.2 (hk h)
    omega
end AL.Gate
