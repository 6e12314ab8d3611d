/- The proof library and the contracts that the law reaches: joined by a program. No condition. -/
import Derived.Test.YtlgmdlckjinfcaaGreatDoorTTd
namespace AL.Token
open Go AL
open AL.Policy (RuleV rowP slP checkP coversS capsP textP parseP)
set_option linter.unusedVariables false
set_option linter.unusedSimpArgs false
theorem new_wf : WF [firstT] := ⟨fun t ht => by rw [List.mem_singleton.1 ht]; decide, fun _ => 0, fun t ht => .inl (List.mem_singleton.1 ht)⟩
theorem new_sort : SortT [firstT] := List.pairwise_singleton _ _
theorem make_wf {s : List TokV} {t : TokV} (hw : WF s) : WF (makeT s t).1 := by
  rcases make_cases s t with ⟨h, _⟩ | ⟨h, hc, hp, hn, hf, hv⟩
  · rw [h]; exact hw
  · rw [h]
    obtain ⟨d, hd⟩ := hw.ex
    have h1 := find_at hf
    have hne := find_no.1 hn
    refine ⟨fun x hx => ?_, fun n => if n = t.1 then d t.2.1 + 1 else d n, fun x hx => ?_⟩
    · rcases into_mem.1 hx with rfl | hx
      · exact hc
      · exact hw.chk x hx
    · rcases into_mem.1 hx with rfl | hx
      · right
        have h2 : ¬ x.2.1 = x.1 := fun e => hne _ h1.2 (h1.1.trans e)
        refine ⟨hp, ?_, _, into_mem.2 (.inr h1.2), h1.1, hv⟩
        dsimp only
        rw [if_pos rfl, if_neg h2]
      · rcases hd x hx with e | ⟨q1, q2, p, q3, q4, q5⟩
        · exact .inl e
        · right
          refine ⟨q1, ?_, p, into_mem.2 (.inr q3), q4, q5⟩
          dsimp only
          rw [if_neg (hne x hx), if_neg (fun e => hne p q3 (q4.trans e))]
          exact q2
theorem revoke_same {s : List TokV} {n : Bytes} : (revokeT s n).1 = s ↔ ¬ (revokeT s n).2.2 = 0 := by
  unfold revokeT
  split
  · exact ⟨fun _ => show ¬ (6 : Int) = 0 by decide, fun _ => rfl⟩
  · rename_i h
    refine ⟨fun e => ?_, fun q => absurd rfl q⟩
    have hf := find_at (l := s) (n := n) (by omega)
    have hm : List.getD s (findT s n).toNat tokd ∈ leftT s n := by
      show _ ∈ (leftT s n, goneT s n, (0 : Int)).1
      rw [e]; exact hf.2
    have := (List.mem_filter.1 hm).2
    unfold goneS at this
    rw [up_1 hf.1 (Nat.succ_pos _)] at this
    cases this
theorem make_same {s : List TokV} {t : TokV} : (makeT s t).1 = s ↔ ¬ (makeT s t).2 = 0 := by
  rcases make_cases s t with ⟨h1, h2⟩ | ⟨h, _⟩
  · exact ⟨fun _ => h2, fun _ => h1⟩
  · rw [h]
    refine ⟨fun e => ?_, fun q => absurd rfl q⟩
    have := congrArg List.length e
    rw [into_len] at this
    omega
theorem wf_rules {s : List TokV} (hw : WF s) : ∀ x ∈ s, x.2.2.length ≤ 100000 := fun x hx => Nat.le_trans (check_le (hw.chk x hx)) (by decide)
structure Good (s : List TokV) (k : Nat) : Prop where
  wf : WF s
  rise : SortT s
  few : s.length ≤ k + 1
def bigT (x : TokV) : Bool := decide (40 < x.1.length) || (decide (40 < x.2.1.length) || decide (0 < Policy.overP x.2.2))
def overT (l : List TokV) : Int := if 12 < l.length ∨ l.any bigT = true then 1 else 0
def SmallTo (l : List TokV) (k : Nat) : Prop := ∀ x ∈ List.take k l, bigT x = false
theorem small_0 (l : List TokV) : SmallTo l 0 := fun x hx => by simp at hx
theorem small_step {l : List TokV} {k : Nat} (h : k < l.length) (hN : SmallTo l k) (h1 : (¬ (40 : Int) < (List.length (List.getD l k tokd).1 : Int) ∧ ¬ (40 : Int) < (List.length (List.getD l k tokd).2.1 : Int)) ∧ ¬ 0 < Policy.overP (List.getD l k tokd).2.2) : SmallTo l (k + 1) := by
  intro x hx
  rw [Lib.take_succ tokd l k h] at hx
  rcases List.mem_append.1 hx with q | q
  · exact hN x q
  · rw [List.mem_singleton.1 q]
    unfold bigT
    rw [decide_eq_false (by omega), decide_eq_false (by omega), decide_eq_false h1.2]; rfl
theorem over_1 {l : List TokV} (h : (12 : Int) < (List.length l : Int)) : overT l = 1 := if_pos (.inl (by omega))
theorem over_2 {l : List TokV} {k : Nat} (hk : k < l.length) (h : ((40 : Int) < (List.length (List.getD l k tokd).1 : Int) ∨ (40 : Int) < (List.length (List.getD l k tokd).2.1 : Int)) ∨ 0 < Policy.overP (List.getD l k tokd).2.2) : overT l = 1 := by
  refine if_pos (.inr (List.any_eq_true.2 ⟨_, Lib.getD_mem tokd l k hk, ?_⟩))
  unfold bigT
  rcases h with (h | h) | h
  · rw [decide_eq_true (p := 40 < (List.getD l k tokd).1.length) (by omega)]; rfl
  · rw [decide_eq_true (p := 40 < (List.getD l k tokd).2.1.length) (by omega)]; simp
  · rw [decide_eq_true (p := 0 < Policy.overP (List.getD l k tokd).2.2) h]; simp
theorem over_0 {l : List TokV} {k : Nat} (h12 : ¬ (12 : Int) < (List.length l : Int)) (hk : l.length ≤ k) (hN : SmallTo l k) : overT l = 0 := by
  unfold SmallTo at hN
  rw [List.take_of_length_le hk] at hN
  refine if_neg fun h => ?_
  rcases h with h | h
  · omega
  · obtain ⟨x, hx, h2⟩ := List.any_eq_true.1 h
    rw [hN x hx] at h2
    cases h2
theorem over_ok {l : List TokV} (h : ¬ 0 < overT l) : l.length ≤ 12 ∧ ∀ x ∈ l, x.1.length ≤ 40 ∧ x.2.1.length ≤ 40 ∧ x.2.2.length ≤ 8 := by
  unfold overT at h
  split at h
  · exact absurd h (by decide)
  · rename_i q
    rw [not_or] at q
    refine ⟨by omega, fun x hx => ?_⟩
    have : bigT x = false := by
      cases hb : bigT x with
      | false => rfl
      | true => exact absurd (List.any_eq_true.2 ⟨x, hx, hb⟩) q.2
    unfold bigT at this
    simp only [Bool.or_eq_false_iff, decide_eq_false_iff_not] at this
    exact ⟨by omega, by omega, (Policy.over_ok this.2.2).1⟩
theorem names_at {l : List TokV} {i : Nat} (h : i < l.length) : List.getD (namesT l) i [] = (List.getD l i tokd).1 := by
  unfold namesT
  rw [Lib.getD_lt _ _ _ (by rw [List.length_map]; exact h), Lib.getD_lt _ _ _ h, List.getElem_map]
theorem findR_at {l : List TokV} (hs : SortT l) {i : Nat} (h : i < l.length) : findR l (List.getD l i tokd).1 = (List.getD l i tokd, true) := by
  have := find_yes hs (Lib.getD_mem tokd l i h) rfl
  unfold findR
  rw [if_neg (by omega), this.2]
theorem parse_rules (n s : Bytes) : (parseT n s).1.2.2.length ≤ 4 := by
  unfold parseT
  split
  · exact Nat.zero_le _
  · split
    · exact Nat.zero_le _
    · split
      · exact Nat.zero_le _
      · rename_i h
        rw [not_or] at h
        exact check_le (t := (n, List.getD (splitR s).1 0 [], (parseP (List.getD (splitR s).1 1 [])).1)) (Decidable.not_not.1 h.2)
theorem root_first {t : TokV} : (((t.2.1 = [] ∧ t.1 = rootB) ∧ checkT t = 0) ∧ t.2.2 = firstT.2.2) ↔ t = firstT := by
  constructor
  · rintro ⟨⟨⟨h1, h2⟩, _⟩, h3⟩
    exact Prod.ext h2 (Prod.ext h1 h3)
  · rintro rfl
    exact ⟨⟨⟨rfl, rfl⟩, by decide⟩, rfl⟩
def RootIn (s : List TokV) : Prop := s = [] ∨ 0 ≤ findT s rootB
theorem find_into {s : List TokV} {t : TokV} {n : Bytes} : 0 ≤ findT (intoT s t) n ↔ t.1 = n ∨ 0 ≤ findT s n := by
  have key : ∀ l : List TokV, 0 ≤ findT l n ↔ ∃ x ∈ l, x.1 = n := fun l => by
    constructor
    · intro h; exact ⟨_, (find_at h).2, (find_at h).1⟩
    · rintro ⟨x, hx, e⟩
      rcases Int.lt_or_le (findT l n) 0 with q | q
      · exact absurd e (find_no.1 q x hx)
      · exact q
  rw [key, key]
  constructor
  · rintro ⟨x, hx, e⟩
    rcases into_mem.1 hx with rfl | hx
    · exact .inl e
    · exact .inr ⟨x, hx, e⟩
  · rintro (e | ⟨x, hx, e⟩)
    · exact ⟨t, into_mem.2 (.inl rfl), e⟩
    · exact ⟨x, into_mem.2 (.inr hx), e⟩
theorem step_add {s : List TokV} (hr : RootIn s) (t : TokV) : stepR s t = (addL s t).getD s := by
  by_cases h1 : t = firstT
  · subst h1
    by_cases h2 : s = []
    · subst h2
      decide +kernel
    · have h3 : ¬ (s.length : Int) = 0 := fun q => h2 (List.eq_nil_of_length_eq_zero (by omega))
      have e : rootR s firstT = s := root_n fun q => by
        have := q.2
        rcases hr with q | q
        · exact h2 q
        · omega
      have ha : addL s firstT = none := by unfold addL; rw [if_neg (fun q => h3 q.2), if_pos (.inr rfl)]
      rw [ha, ← step_n e (.inr rfl)]; rfl
  · have e : rootR s t = s := root_n fun q => h1 (root_first.1 q.1)
    by_cases h2 : (makeT s t).2 = 0 ∧ ¬ t.1 = rootB
    · have ha : addL s t = some (makeT s t).1 := by unfold addL; rw [if_neg (fun q => h1 q.1), if_neg (fun q => q.elim (fun z => z h2.1) (fun z => h2.2 z))]
      rw [ha, ← step_y e h2]; rfl
    · have h3 : ¬ (makeT s t).2 = 0 ∨ t.1 = rootB := by
        by_cases h3 : (makeT s t).2 = 0
        · exact .inr (Decidable.not_not.1 fun q => h2 ⟨h3, q⟩)
        · exact .inl h3
      have ha : addL s t = none := by unfold addL; rw [if_neg (fun q => h1 q.1), if_pos h3]
      rw [ha, ← step_n e h3]; rfl
theorem add_cases {s s' : List TokV} {t : TokV} (h : addL s t = some s') : s' = intoT s t ∧ ((t = firstT ∧ s = []) ∨ (makeT s t = (intoT s t, 0) ∧ ¬ t.1 = rootB)) := by
  unfold addL at h
  split at h
  · rename_i q
    cases h
    exact ⟨rfl, .inl ⟨q.1, List.eq_nil_of_length_eq_zero (by omega)⟩⟩
  · split at h
    · cases h
    · rename_i q
      rw [not_or] at q
      rcases make_cases s t with ⟨_, q2⟩ | ⟨q2, _⟩
      · exact absurd q2 q.1
      · cases h
        rw [q2]
        exact ⟨rfl, .inr ⟨rfl, q.2⟩⟩
theorem add_root {s s' : List TokV} {t : TokV} (hr : RootIn s) (h : addL s t = some s') : RootIn s' := by
  obtain ⟨rfl, h2⟩ := add_cases h
  right
  rw [find_into]
  rcases h2 with ⟨rfl, _⟩ | ⟨q, _⟩
  · exact .inl rfl
  · right
    rcases hr with rfl | hr
    · rcases make_cases [] t with ⟨_, z⟩ | ⟨_, _, _, _, z, _⟩
      · rw [q] at z; exact absurd rfl z
      · cases z
    · exact hr
theorem step_root {s : List TokV} (hr : RootIn s) (t : TokV) : RootIn (stepR s t) := by
  rw [step_add hr]
  cases h : addL s t with
  | none => exact hr
  | some s' => exact add_root hr h
theorem add_in {s : List TokV} {t : TokV} (hr : RootIn s) (h : 0 ≤ findT s t.1) : addL s t = none := by
  unfold addL
  rw [if_neg]
  · rw [if_pos]
    left
    rcases make_cases s t with ⟨_, q⟩ | ⟨_, _, _, q, _⟩
    · exact q
    · omega
  · rintro ⟨_, q⟩
    have := find_lt s t.1
    omega
theorem step_in {s : List TokV} {t : TokV} (hr : RootIn s) (h : 0 ≤ findT s t.1) : stepR s t = s := by rw [step_add hr, add_in hr h]; rfl
theorem step_keep {s : List TokV} {t : TokV} (hr : RootIn s) {n : Bytes} (h : 0 ≤ findT s n) : 0 ≤ findT (stepR s t) n := by
  rw [step_add hr]
  cases ha : addL s t with
  | none => exact h
  | some s' =>
    rw [(add_cases ha).1]
    exact find_into.2 (.inr h)
inductive Thin (s : List TokV) : List TokV → List TokV → Prop
  | nil : Thin s [] []
  | keep {t a l} : Thin s a l → Thin s (t :: a) (t :: l)
  | drop {t a l} : 0 ≤ findT s t.1 → Thin s a l → Thin s (t :: a) l
theorem Thin.refl {s : List TokV} : ∀ l : List TokV, Thin s l l
  | [] => .nil
  | _ :: l => .keep (Thin.refl l)
theorem Thin.mono {s s' : List TokV} (h : ∀ n, 0 ≤ findT s n → 0 ≤ findT s' n) {a l : List TokV} (ht : Thin s a l) : Thin s' a l := by
  induction ht with
  | nil => exact .nil
  | keep _ ih => exact .keep ih
  | drop q _ ih => exact .drop (h _ q) ih
theorem pass_thin : ∀ {a l : List TokV} {s : List TokV}, RootIn s → Thin s a l → a.foldl stepR s = (passL s l).1 ∧ Thin (passL s l).1 a (passL s l).2 ∧ RootIn (passL s l).1 ∧ ∀ n, 0 ≤ findT s n → 0 ≤ findT (passL s l).1 n
  | _, _, s, hr, .nil => ⟨rfl, .nil, hr, fun _ h => h⟩
  | t :: a, _, s, hr, .drop q ht => by
    rw [List.foldl_cons, step_in hr q]
    obtain ⟨h1, h2, h3, h4⟩ := pass_thin hr ht
    exact ⟨h1, .drop (h4 _ q) h2, h3, h4⟩
  | t :: a, _, s, hr, .keep (l := l) ht => by
    rw [List.foldl_cons, passL]
    have hk := fun n => step_keep (t := t) hr (n := n)
    have hr2 := step_root hr t
    have hsa := step_add hr t
    cases ha : addL s t with
    | none =>
      rw [ha] at hsa
      have hsa : stepR s t = s := hsa
      rw [hsa]
      obtain ⟨h1, h2, h3, h4⟩ := pass_thin hr ht
      exact ⟨h1, .keep h2, h3, h4⟩
    | some s' =>
      rw [ha] at hsa
      have hsa : stepR s t = s' := hsa
      rw [hsa] at hk hr2 ⊢
      obtain ⟨h1, h2, h3, h4⟩ := pass_thin hr2 (ht.mono hk)
      refine ⟨h1, .drop (h4 _ ?_) h2, h3, fun n hn => h4 n (hk n hn)⟩
      rw [(add_cases ha).1]
      exact find_into.2 (.inl rfl)
theorem pass_count : ∀ (l s : List TokV), (passL s l).1.length + (passL s l).2.length = s.length + l.length
  | [], s => rfl
  | t :: l, s => by
    unfold passL
    split
    · rename_i s' h
      rw [pass_count l s', (add_cases h).1, into_len, List.length_cons]; omega
    · have := pass_count l s
      simp only [List.length_cons]; omega
theorem pass_same : ∀ (l s : List TokV), (passL s l).2.length = l.length → (passL s l).1 = s ∧ (passL s l).2 = l
  | [], s, _ => ⟨rfl, rfl⟩
  | t :: l, s, h => by
    unfold passL at h ⊢
    split at h
    · have := pass_len l (by assumption)
      rw [List.length_cons] at h; omega
    · rename_i ha
      rw [List.length_cons, List.length_cons] at h
      obtain ⟨h1, h2⟩ := pass_same l s (by omega)
      exact ⟨h1, by rw [h2]⟩
theorem rounds_stay {l s : List TokV} (h : l.foldl stepR s = s) {n : Nat} (hn : roundsR l n = s) : ∀ m, n ≤ m → roundsR l m = s
  | 0, hm => by rwa [show n = 0 by omega] at hn
  | m + 1, hm => by
    rcases Nat.eq_or_lt_of_le hm with e | e
    · rwa [e] at hn
    · rw [roundsR, rounds_stay h hn m (by omega), h]
theorem load_same (l : List TokV) : ∀ (f n : Nat) (s left : List TokV), left.length < f → n + left.length ≤ l.length → s.length + left.length = l.length → RootIn s → Thin s l left → roundsR l n = s → loadL f s left = loadR l
  | 0, _, _, _, h, _, _, _, _, _ => absurd h (Nat.not_lt_zero _)
  | f + 1, n, s, left, hf, hn, hl, hr, ht, he => by
    obtain ⟨h1, h2, h3, h4⟩ := pass_thin hr ht
    have hc := pass_count left s
    have hpl := pass_len left s
    unfold loadL
    split
    · rename_i h0
      have hs : left = [] := List.eq_nil_of_length_eq_zero h0
      subst hs
      have := rounds_stay h1 he l.length (by omega)
      unfold loadR
      rw [this, if_neg (by simp at hl; omega)]
    · split
      · rename_i h0 hq
        obtain ⟨q1, _⟩ := pass_same left s hq
        rw [q1] at h1
        have := rounds_stay h1 he l.length (by omega)
        unfold loadR
        rw [this, if_pos (by omega)]
      · rename_i h0 hq
        refine load_same l f (n + 1) _ _ (by omega) (by omega) (by omega) h3 h2 ?_
        rw [roundsR, he, h1]
theorem load_eq (l : List TokV) : loadR l = loadT l := (load_same l (l.length + 1) 0 [] l (Nat.lt_succ_self _) (by omega) (by simp) (.inl rfl) (Thin.refl l) rfl).symm
theorem pass_mem : ∀ {l s : List TokV} {x : TokV}, x ∈ (passL s l).1 ∨ x ∈ (passL s l).2 → x ∈ s ∨ x ∈ l
  | [], s, x, h => h
  | t :: l, s, x, h => by
    unfold passL at h
    split at h
    · rename_i s' ha
      rcases pass_mem h with q | q
      · rw [(add_cases ha).1] at q
        rcases into_mem.1 q with rfl | q
        · exact .inr (List.mem_cons_self ..)
        · exact .inl q
      · exact .inr (List.mem_cons_of_mem _ q)
    · rcases h with h | h
      · rcases pass_mem (.inl h) with q | q
        · exact .inl q
        · exact .inr (List.mem_cons_of_mem _ q)
      · rcases List.mem_cons.1 h with rfl | h
        · exact .inr (List.mem_cons_self ..)
        · rcases pass_mem (.inr h) with q | q
          · exact .inl q
          · exact .inr (List.mem_cons_of_mem _ q)
theorem pass_sort : ∀ {l s : List TokV}, SortT s → SortT (passL s l).1
  | [], s, h => h
  | t :: l, s, h => by
    unfold passL
    split
    · rename_i s' ha
      refine pass_sort ?_
      obtain ⟨e, h2⟩ := add_cases ha
      rw [e]
      rcases h2 with ⟨rfl, rfl⟩ | ⟨q, _⟩
      · exact List.pairwise_singleton _ _
      · have := make_sort (t := t) h
        rwa [q] at this
    · exact pass_sort h
theorem loadL_ok : ∀ (f : Nat) (s left : List TokV), SortT s → SortT (loadL f s left).1 ∧ ∀ x ∈ (loadL f s left).1, x ∈ s ∨ x ∈ left
  | 0, _, _, _ => ⟨List.Pairwise.nil, fun x hx => by cases hx⟩
  | f + 1, s, left, h => by
    unfold loadL
    split
    · exact ⟨h, fun x hx => .inl hx⟩
    · split
      · exact ⟨List.Pairwise.nil, fun x hx => by cases hx⟩
      · obtain ⟨h1, h2⟩ := loadL_ok f (passL s left).1 (passL s left).2 (pass_sort h)
        exact ⟨h1, fun x hx => pass_mem (h2 x hx)⟩
theorem load_sort (l : List TokV) : SortT (loadT l).1 := (loadL_ok _ [] l List.Pairwise.nil).1
theorem load_mem {l : List TokV} : ∀ x ∈ (loadT l).1, x ∈ l := fun x hx => by
  rcases (loadL_ok _ [] l List.Pairwise.nil).2 x hx with q | q
  · cases q
  · exact q
theorem load_len {l : List TokV} : (loadT l).1.length ≤ l.length := by
  have key : ∀ (f : Nat) (s left : List TokV), (loadL f s left).1.length ≤ s.length + left.length := by
    intro f
    induction f with
    | zero => intro s left; exact Nat.zero_le _
    | succ f ih =>
      intro s left
      unfold loadL
      split
      · exact Nat.le_add_right _ _
      · split
        · exact Nat.zero_le _
        · have := ih (passL s left).1 (passL s left).2
          have := pass_count left s
          omega
  have := key (l.length + 1) [] l
  rw [List.length_nil, Nat.zero_add] at this
  exact this
def bobT : TokV := ([98, 111, 98], rootB, [([97], 1)])
def eveT : TokV := ([101, 118, 101], [98, 111, 98], [])
def maxT : TokV := ([109, 97, 120], [98, 111, 98], [([], 1)])
def awA : List TokV := [bobT, firstT]
def awB : List TokV := [bobT, eveT, firstT]
instance (l : List TokV) : Decidable (SortT l) := inferInstanceAs (Decidable (List.Pairwise _ _))
theorem awm1 : makeT [firstT] bobT = (awA, 0) := Prod.ext (by decide +kernel) (by decide +kernel)
theorem awm2 : makeT awA eveT = (awB, 0) := Prod.ext (by decide +kernel) (by decide +kernel)
theorem awm3 : (makeT awB maxT).2 = 13 := by decide +kernel
theorem awr : revokeT awB [98, 111, 98] = ([firstT], [[98, 111, 98], [101, 118, 101]], 0) := Prod.ext (by decide +kernel) (Prod.ext (by decide +kernel) (by decide +kernel))
theorem aws1 : SortT awA := by decide +kernel
theorem aws2 : SortT awB := by decide +kernel
theorem aww1 : WF awA := by
  have := make_wf (t := bobT) new_wf
  rwa [awm1] at this
theorem aww2 : WF awB := by
  have := make_wf (t := eveT) aww1
  rwa [awm2] at this
theorem awf1 : (findR [firstT] [98, 111, 98]).2 = false := by decide +kernel
theorem awf2 : findR awB [98, 111, 98] = (bobT, true) := by decide +kernel
theorem awt : (textT bobT).2 = 0 := by decide +kernel
theorem awp : parseT [98, 111, 98] (textT bobT).1 = (bobT, 0) := by decide +kernel
theorem awl : (textT bobT).1.length ≤ 2000 := by decide +kernel
end AL.Token
namespace AL.Token
open Go Go.Proofs AL
open AL.Policy (RuleV rowP slP checkP coversS capsP)
set_option linter.unusedVariables false
set_option linter.unusedSimpArgs false
theorem f14_body : Tryz.f14.body = some (.seq (.region 0 (rg Tryz.f14 0) false) (.seq (.region 1 (rg Tryz.f14 1) true) (.ret))) := by kernel_rfl
set_option maxRecDepth 100000 in
set_option maxHeartbeats 8000000 in
theorem Own_c (t : TokV) (hr : t.2.2.length ≤ 100000) : Pure Tryz.prog 14 [TV.agg [.s (st t.1), .s (st t.2.1), .s (AL.Policy.slP t.2.2)]] (AV.t (TV.agg [.s (st t.1), .s (st t.2.1), .s (AL.Policy.slP t.2.2)])) := by
 refine Pure.of_body Tryz.func14 f14_body (by kernel_rfl) Tryz.ntmps14 (by kernel_rfl) (by kernel_rfl) ?_
 refine gS [] [] 11 [(1, vp 1 0), (2, vp 2 0)] [(1, AObj.row [.s (st t.1), .s (st t.2.1), .s (AL.Policy.slP t.2.2)]), (2, AObj.row [.s (st []), .s (st []), .s (SC.nilsl)])] trivial ?_
 refine gY [(6, CE.call [] [] (vc (AL.Policy.slP t.2.2)) [])] [(1, [1]), (3, [1]), (5, [1]), (8, [2])] [Spec Tryz.prog 42 [tc (AL.Policy.slP t.2.2)] (ofH []) (vc (AL.Policy.slP t.2.2)) (ofH [])] 11 [(2, vp 2 0)] [(2, AObj.row [.s (st t.1), .s (st t.2.1), .s (AL.Policy.slP t.2.2)])] mixed (Policy.Own_c t.2.2 (by omega)) ?_
 exact gT (AV.t (TV.agg [.s (st t.1), .s (st t.2.1), .s (AL.Policy.slP t.2.2)])) rfl
theorem f37_body : Tryz.f37.body = some (.seq (.region 0 (rg Tryz.f37 0) false) (.seq (.region 1 (rg Tryz.f37 1) true) (.ret))) := by kernel_rfl
set_option maxRecDepth 100000 in
set_option maxHeartbeats 8000000 in
theorem Back_c (t : TokV) (hr : t.2.2.length ≤ 100000) : Pure Tryz.prog 37 [TV.agg [.s (st t.1), .s (st t.2.1), .s (AL.Policy.slP t.2.2)]] (AV.t (TV.agg [.s (st t.1), .s (st t.2.1), .s (AL.Policy.slP t.2.2)])) := by
 refine Pure.of_body Tryz.func37 f37_body (by kernel_rfl) Tryz.ntmps37 (by kernel_rfl) (by kernel_rfl) ?_
 refine gS [] [] 11 [(1, vp 1 0), (2, vp 2 0)] [(1, AObj.row [.s (st t.1), .s (st t.2.1), .s (AL.Policy.slP t.2.2)]), (2, AObj.row [.s (st []), .s (st []), .s (SC.nilsl)])] trivial ?_
 refine gY [(6, CE.call [] [] (vc (AL.Policy.slP t.2.2)) [])] [(1, [1]), (3, [1]), (5, [1]), (8, [2])] [Spec Tryz.prog 71 [tc (AL.Policy.slP t.2.2)] (ofH []) (vc (AL.Policy.slP t.2.2)) (ofH [])] 11 [(2, vp 2 0)] [(2, AObj.row [.s (st t.1), .s (st t.2.1), .s (AL.Policy.slP t.2.2)])] mixed (Policy.Back_c t.2.2 (by omega)) ?_
 exact gT (AV.t (TV.agg [.s (st t.1), .s (st t.2.1), .s (AL.Policy.slP t.2.2)])) rfl
theorem f8_body : Tryz.f8.body = some (.seq (.region 0 (rg Tryz.f8 0) false) (.seq (.seq (.region 1 (rg Tryz.f8 1) false) (.cond (.tmp 6) (.seq (.region 2 (rg Tryz.f8 2) false) (.ret)) (.skip))) (.seq (.seq (.region 3 (rg Tryz.f8 3) false) (.block 0 (.loop (.seq (.seq (.region 4 (rg Tryz.f8 4) false) (.cond (.tmp 10) (.skip) (.exit 0))) (.seq (.block 1 (.seq (.region 6 (rg Tryz.f8 6) false) (.cond (.tmp 37) (.seq (.region 7 (rg Tryz.f8 7) false) (.ret)) (.skip)))) (.region 5 (rg Tryz.f8 5) false)))))) (.seq (.region 8 (rg Tryz.f8 8) false) (.ret))))) := by kernel_rfl
set_option maxRecDepth 100000 in
set_option maxHeartbeats 8000000 in
theorem Over_c (l : List TokV) : Pure Tryz.prog 8 [tc (slT l)] (vc (i6 (overT l))) := by
 refine Pure.of_body Tryz.func8 f8_body (by kernel_rfl) Tryz.ntmps8 (by kernel_rfl) (by kernel_rfl) ?_
 refine AMx.sl 0 (l := l) rfl (fun hl => ?_)
 simp only [maxLen] at hl
 refine gS [] [] 38 [(0, vc (slT l))] [] trivial ?_
 refine gQ ?_
 refine gS [] [] 38 [(0, vc (slT l)), (6, vc (bo (decide (12 < (List.length l : Int)))))] [] trivial ?_
 refine gC (12 < (List.length l : Int)) (fun hc1 => ?_) fun hc1 => ?_
 ·
  refine gS [] [] 38 [(2, vc (i6 1))] [] trivial ?_
  exact gT (vc (i6 1)) (by first | rw [over_1 hc1] | rw [over_2 (k := i) (by omega) hc3])
 ·
  refine AMx.skip ?_
  refine gQ ?_
  refine gS [] [] 38 [(0, vc (slT l)), (3, vc (i6 0))] [] trivial ?_
  refine AMx.block ?_
  refine AMx.ent (s' := AS.lst 38 [(0, vc (slT l)), (3, vc (i6 0))] []) (ent_proj [0, 3] []) ?_
  refine AMx.loop (fun mm ss => ∃ (i : Nat), (i ≤ l.length ∧ SmallTo l i) ∧ mm = l.length - i ∧ ss = AS.lst 38 [(0, vc (slT l)), (3, vc (i6 (i : Int)))] []) ⟨0, ?_, rfl, ?_⟩ ?_
  · exact ⟨Nat.zero_le _, small_0 l⟩
  · rfl
  rintro mm ss ⟨i, ⟨hI, hN⟩, rfl, rfl⟩
  refine gQ ?_
  refine gS [] [] 38 [(0, vc (slT l)), (3, vc (i6 (i : Int))), (10, vc (bo (decide ((i : Int) < (List.length l : Int)))))] [] trivial ?_
  refine gC ((i : Int) < (List.length l : Int)) (fun hc2 => ?_) fun hc2 => ?_
  ·
   refine AMx.skip ?_
   refine gQ ?_
   refine AMx.block ?_
   refine gS [(22, CE.call [] [] (vc (i6 (Policy.overP ((List.getD l i tokd).2.2)))) [])] [(0 : Int) ≤ (i : Int), (i : Int) < List.length l, ((decide (40 < (List.length ((List.getD l i tokd).1 : List UInt8) : Int))) = false) → allP [(decide (40 < (List.length ((List.getD l i tokd).1 : List UInt8) : Int))) = false, (decide (40 < (List.length ((List.getD l i tokd).1 : List UInt8) : Int))) = false, (0 : Int) ≤ (i : Int), (i : Int) < List.length l], ((decide (40 < (List.length ((List.getD l i tokd).1 : List UInt8) : Int))) = false) → allP [(decide (40 < (List.length ((List.getD l i tokd).1 : List UInt8) : Int))) = false], ((decide (40 < (List.length ((List.getD l i tokd).1 : List UInt8) : Int))) = false) → allP [(decide (40 < (List.length ((List.getD l i tokd).1 : List UInt8) : Int))) = false], ((decide (40 < (List.length ((List.getD l i tokd).1 : List UInt8) : Int))) = false) → allP [(decide (40 < (List.length ((List.getD l i tokd).1 : List UInt8) : Int))) = false], ((decide (40 < (List.length ((List.getD l i tokd).1 : List UInt8) : Int))) = false) → allP [(decide (40 < (List.length ((List.getD l i tokd).1 : List UInt8) : Int))) = false], (decide (40 < (List.length ((List.getD l i tokd).1 : List UInt8) : Int))) = false → allP [(decide (40 < (List.length ((List.getD l i tokd).1 : List UInt8) : Int))) = false], (((decide (40 < (List.length ((List.getD l i tokd).1 : List UInt8) : Int))) || (decide (40 < (List.length ((List.getD l i tokd).2.1 : List UInt8) : Int)))) = false) → allP [((decide (40 < (List.length ((List.getD l i tokd).1 : List UInt8) : Int))) || (decide (40 < (List.length ((List.getD l i tokd).2.1 : List UInt8) : Int)))) = false, ((decide (40 < (List.length ((List.getD l i tokd).1 : List UInt8) : Int))) || (decide (40 < (List.length ((List.getD l i tokd).2.1 : List UInt8) : Int)))) = false, (0 : Int) ≤ (i : Int), (i : Int) < List.length l], (((decide (40 < (List.length ((List.getD l i tokd).1 : List UInt8) : Int))) || (decide (40 < (List.length ((List.getD l i tokd).2.1 : List UInt8) : Int)))) = false) → allP [((decide (40 < (List.length ((List.getD l i tokd).1 : List UInt8) : Int))) || (decide (40 < (List.length ((List.getD l i tokd).2.1 : List UInt8) : Int)))) = false], (((decide (40 < (List.length ((List.getD l i tokd).1 : List UInt8) : Int))) || (decide (40 < (List.length ((List.getD l i tokd).2.1 : List UInt8) : Int)))) = false) → allP [((decide (40 < (List.length ((List.getD l i tokd).1 : List UInt8) : Int))) || (decide (40 < (List.length ((List.getD l i tokd).2.1 : List UInt8) : Int)))) = false], (((decide (40 < (List.length ((List.getD l i tokd).1 : List UInt8) : Int))) || (decide (40 < (List.length ((List.getD l i tokd).2.1 : List UInt8) : Int)))) = false) → allP [((decide (40 < (List.length ((List.getD l i tokd).1 : List UInt8) : Int))) || (decide (40 < (List.length ((List.getD l i tokd).2.1 : List UInt8) : Int)))) = false, Spec Tryz.prog 38 [tc (AL.Policy.slP ((List.getD l i tokd).2.2))] (ofH []) (vc (i6 (Policy.overP ((List.getD l i tokd).2.2)))) (ofH [])], (((decide (40 < (List.length ((List.getD l i tokd).1 : List UInt8) : Int))) || (decide (40 < (List.length ((List.getD l i tokd).2.1 : List UInt8) : Int)))) = false) → allP [((decide (40 < (List.length ((List.getD l i tokd).1 : List UInt8) : Int))) || (decide (40 < (List.length ((List.getD l i tokd).2.1 : List UInt8) : Int)))) = false], ((decide (40 < (List.length ((List.getD l i tokd).1 : List UInt8) : Int))) || (decide (40 < (List.length ((List.getD l i tokd).2.1 : List UInt8) : Int)))) = false → allP [((decide (40 < (List.length ((List.getD l i tokd).1 : List UInt8) : Int))) || (decide (40 < (List.length ((List.getD l i tokd).2.1 : List UInt8) : Int)))) = false]] 38 [(0, vc (slT l)), (3, vc (i6 (i : Int))), (37, vc (bo (((decide (40 < (List.length ((List.getD l i tokd).1 : List UInt8) : Int))) || (decide (40 < (List.length ((List.getD l i tokd).2.1 : List UInt8) : Int)))) || (decide (0 < Policy.overP ((List.getD l i tokd).2.2))))))] [] ⟨(by omega), (by omega), (fun hp => by have hq := hp; (try simp only [xT, xF, xA, xO, xB, xP, xN, xM, Bool.not_eq_true, Bool.not_eq_false] at hq); exact ⟨hp, hp, (by omega), (show (i : Int) < List.length l from (by omega))⟩), (fun hp => hp), (fun hp => hp), (fun hp => hp), (fun hp => hp), (fun hp2 => (by first | exact hp2 | exact ⟨hp, hp2⟩)), (fun hp => by have hq := hp; (try simp only [xT, xF, xA, xO, xB, xP, xN, xM, Bool.not_eq_true, Bool.not_eq_false] at hq); exact ⟨hp, hp, (by omega), (show (i : Int) < List.length l from (by omega))⟩), (fun hp => hp), (fun hp => hp), (fun hp => by have hq := hp; (try simp only [xT, xF, xA, xO, xB, xP, xN, xM, Bool.not_eq_true, Bool.not_eq_false] at hq); exact ⟨hp, (Policy.Over_c ((List.getD l i tokd).2.2))⟩), (fun hp => hp), (fun hp2 => (by first | exact hp2 | exact ⟨hp, hp2⟩))⟩ ?_
   refine gB ((((decide (40 < (List.length ((List.getD l i tokd).1 : List UInt8) : Int))) || (decide (40 < (List.length ((List.getD l i tokd).2.1 : List UInt8) : Int)))) || (decide (0 < Policy.overP ((List.getD l i tokd).2.2))))) (fun hc3 => ?_) fun hc3 => ?_
   ·
    try simp only [xT, xF, xO, xP] at hc3
    refine gS [] [] 38 [(2, vc (i6 1))] [] trivial ?_
    exact gT (vc (i6 1)) (by first | rw [over_1 hc1] | rw [over_2 (k := i) (by omega) hc3])
   ·
    try simp only [xT, xF, xO, xP] at hc3
    refine AMx.skip ?_
    refine AMx.blk ?_
    refine gR [] [InR .i64 ((i : Int) + 1)] 38 [(0, vc (slT l)), (3, vc (i6 ((i : Int) + 1)))] [] (show InR .i64 ((i : Int) + 1) from (inR64 (by omega) (by omega))) ?_
    refine AMx.ent_inv (s' := AS.lst 38 [(0, vc (slT l)), (3, vc (i6 ((i : Int) + 1)))] []) (ent_proj [0, 3] []) ?_
    refine AMx.inv ⟨_, ?_, i + 1, ?_, rfl, ?_⟩
    rotate_left
    · exact ⟨by omega, small_step (by omega) hN hc3⟩
    · rfl
    · omega
  ·
   refine AMx.exit ?_
   refine AMx.code_exit ?_
   refine AMx.inv_exit ?_
   refine AMx.blk_exit ?_
   refine gS [] [] 38 [(2, vc (i6 0))] [] trivial ?_
   exact gT (vc (i6 0)) (by rw [over_0 hc1 (by omega) hN])
theorem f22_body : Tryz.f22.body = some (.seq (.region 0 (rg Tryz.f22 0) false) (.seq (.region 1 (rg Tryz.f22 1) false) (.seq (.seq (.region 2 (rg Tryz.f22 2) false) (.cond (.tmp 15) (.seq (.region 3 (rg Tryz.f22 3) false) (.ret)) (.skip))) (.seq (.seq (.region 4 (rg Tryz.f22 4) false) (.block 0 (.loop (.seq (.seq (.region 5 (rg Tryz.f22 5) false) (.cond (.tmp 19) (.skip) (.exit 0))) (.seq (.block 1 (.seq (.region 7 (rg Tryz.f22 7) true) (.seq (.region 8 (rg Tryz.f22 8) true) (.cond (.tmp 55) (.seq (.region 9 (rg Tryz.f22 9) false) (.ret)) (.skip))))) (.region 6 (rg Tryz.f22 6) false)))))) (.seq (.region 10 (rg Tryz.f22 10) false) (.ret)))))) := by kernel_rfl
set_option maxRecDepth 100000 in
set_option maxHeartbeats 8000000 in
theorem Like_c (l : List TokV) (hs : SortT l) (hb : l.length ≤ 100000) (hr : ∀ x ∈ l, x.2.2.length ≤ 100000) : Pure Tryz.prog 22 [TV.agg [.s (slT l)], tc (slT l)] (vc (bo true)) := by
 refine Pure.of_body Tryz.func22 f22_body (by kernel_rfl) Tryz.ntmps22 (by kernel_rfl) (by kernel_rfl) ?_
 refine gS [] [] 56 [(1, vc (slT l)), (2, vp 2 0)] [(2, AObj.row [.s (slT l)])] trivial ?_
 refine gS [(1, CE.call [] [] (vc (AL.Fnv.slS (namesT l))) [])] [Spec Tryz.prog 26 [TV.agg [.s (slT l)]] (ofH []) (vc (AL.Fnv.slS (namesT l))) (ofH [])] 56 [(1, vc (slT l)), (2, vp 2 0), (5, vc (AL.Fnv.slS (namesT l)))] [(2, AObj.row [.s (slT l)])] (Names_c l (by first | omega | exact hr _ (Lib.getD_mem tokd l i (by omega)) | (rw [names_len]; omega) | (have z := names_len l; omega))) ?_
 refine gQ ?_
 refine gS [] [] 56 [(1, vc (slT l)), (2, vp 2 0), (5, vc (AL.Fnv.slS (namesT l))), (15, vc (bo (!decide ((List.length (namesT l : List Bytes) : Int) = (List.length l : Int)))))] [(2, AObj.row [.s (slT l)])] trivial ?_
 refine gN ((List.length (namesT l : List Bytes) : Int) = (List.length l : Int)) (fun hc1 => ?_) fun hc1 => ?_
 ·
  refine gS [] [] 56 [(4, vc (bo false))] [] trivial ?_
  exact gT (vc (bo false)) (by exfalso; have hz := hc1; have zl := names_len l; first | omega | (rw [names_at (by omega)] at hz; simp at hz; done) | (simp [names_at (l := l) (i := i) (by omega)] at hz; done))
 ·
  refine AMx.skip ?_
  refine gQ ?_
  refine gS [] [] 56 [(1, vc (slT l)), (2, vp 2 0), (5, vc (AL.Fnv.slS (namesT l))), (6, vc (i6 0))] [(2, AObj.row [.s (slT l)])] trivial ?_
  refine AMx.block ?_
  refine AMx.ent (s' := AS.lst 56 [(1, vc (slT l)), (2, vp 2 0), (5, vc (AL.Fnv.slS (namesT l))), (6, vc (i6 0))] [(2, AObj.row [.s (slT l)])]) (ent_proj [1, 2, 5, 6] [2]) ?_
  refine AMx.loop (fun mm ss => ∃ (i : Nat), (i ≤ l.length) ∧ mm = l.length - i ∧ ss = AS.lst 56 [(1, vc (slT l)), (2, vp 2 0), (5, vc (AL.Fnv.slS (namesT l))), (6, vc (i6 (i : Int)))] [(2, AObj.row [.s (slT l)])]) ⟨0, ?_, rfl, ?_⟩ ?_
  · omega
  · rfl
  rintro mm ss ⟨i, hI, rfl, rfl⟩
  refine gQ ?_
  refine gS [] [] 56 [(1, vc (slT l)), (2, vp 2 0), (5, vc (AL.Fnv.slS (namesT l))), (6, vc (i6 (i : Int))), (19, vc (bo (decide ((i : Int) < (List.length l : Int)))))] [(2, AObj.row [.s (slT l)])] trivial ?_
  refine gC ((i : Int) < (List.length l : Int)) (fun hc2 => ?_) fun hc2 => ?_
  ·
   refine AMx.skip ?_
   refine gQ ?_
   refine AMx.block ?_
   refine gY [(6, CE.call [] [] (AV.tup [TV.agg [.s (st (((findR l ((List.getD l i tokd).1)).1).1)), .s (st (((findR l ((List.getD l i tokd).1)).1).2.1)), .s (AL.Policy.slP (((findR l ((List.getD l i tokd).1)).1).2.2))], tc (bo ((findR l ((List.getD l i tokd).1)).2))]) [])] [(0, [2]), (11, [7])] [(0 : Int) ≤ (i : Int), (i : Int) < List.length l, Spec Tryz.prog 27 [TV.agg [.s (slT l)], tc (st ((List.getD l i tokd).1))] (ofH []) (AV.tup [TV.agg [.s (st (((findR l ((List.getD l i tokd).1)).1).1)), .s (st (((findR l ((List.getD l i tokd).1)).1).2.1)), .s (AL.Policy.slP (((findR l ((List.getD l i tokd).1)).1).2.2))], tc (bo ((findR l ((List.getD l i tokd).1)).2))]) (ofH [])] 56 [(1, vc (slT l)), (2, vp 2 0), (5, vc (AL.Fnv.slS (namesT l))), (6, vc (i6 (i : Int))), (7, vp 7 0), (8, vc (bo ((findR l ((List.getD l i tokd).1)).2)))] [(2, AObj.row [.s (slT l)]), (7, AObj.row [.s (st (((findR l ((List.getD l i tokd).1)).1).1)), .s (st (((findR l ((List.getD l i tokd).1)).1).2.1)), .s (AL.Policy.slP (((findR l ((List.getD l i tokd).1)).1).2.2))])] mixed ⟨(by first | omega | exact hr _ (Lib.getD_mem tokd l i (by omega)) | (rw [names_len]; omega) | (have z := names_len l; omega)), (by first | omega | exact hr _ (Lib.getD_mem tokd l i (by omega)) | (rw [names_len]; omega) | (have z := names_len l; omega)), (Find_c l ((List.getD l i tokd).1) (by assumption) (by first | omega | exact hr _ (Lib.getD_mem tokd l i (by omega)) | (rw [names_len]; omega) | (have z := names_len l; omega)) (by assumption))⟩ ?_
   rw [show (findR l ((List.getD l i tokd).1)).1 = (List.getD l i tokd) from by rw [findR_at hs (by omega)]]
   rw [show (findR l ((List.getD l i tokd).1)).2 = true from by rw [findR_at hs (by omega)]]
   refine gY [(16, CE.call [] [] (AV.t (TV.agg [.s (st ((List.getD l i tokd).1)), .s (st ((List.getD l i tokd).2.1)), .s (AL.Policy.slP ((List.getD l i tokd).2.2))])) []), (21, CE.call [] [] (vc (bo (decide ((List.getD l i tokd) = (List.getD l i tokd))))) [])] [(15, [7])] [(0 : Int) ≤ (i : Int), (i : Int) < List.length (namesT l : List Bytes), (0 : Int) ≤ (i : Int), (i : Int) < List.length l, ((!decide ((List.getD (namesT l) i []) = (List.getD l i tokd).1)) = false) → allP [(!decide ((List.getD (namesT l) i []) = (List.getD l i tokd).1)) = false], (!decide ((List.getD (namesT l) i []) = (List.getD l i tokd).1)) = false → allP [(!decide ((List.getD (namesT l) i []) = (List.getD l i tokd).1)) = false], (((!decide ((List.getD (namesT l) i []) = (List.getD l i tokd).1)) || false) = false) → allP [((!decide ((List.getD (namesT l) i []) = (List.getD l i tokd).1)) || false) = false, Spec Tryz.prog 37 [TV.agg [.s (st ((List.getD l i tokd).1)), .s (st ((List.getD l i tokd).2.1)), .s (AL.Policy.slP ((List.getD l i tokd).2.2))]] (ofH []) (AV.t (TV.agg [.s (st ((List.getD l i tokd).1)), .s (st ((List.getD l i tokd).2.1)), .s (AL.Policy.slP ((List.getD l i tokd).2.2))])) (ofH [])], (((!decide ((List.getD (namesT l) i []) = (List.getD l i tokd).1)) || false) = false) → allP [((!decide ((List.getD (namesT l) i []) = (List.getD l i tokd).1)) || false) = false, ((!decide ((List.getD (namesT l) i []) = (List.getD l i tokd).1)) || false) = false, (0 : Int) ≤ (i : Int), (i : Int) < List.length l], (((!decide ((List.getD (namesT l) i []) = (List.getD l i tokd).1)) || false) = false) → allP [((!decide ((List.getD (namesT l) i []) = (List.getD l i tokd).1)) || false) = false], (((!decide ((List.getD (namesT l) i []) = (List.getD l i tokd).1)) || false) = false) → allP [((!decide ((List.getD (namesT l) i []) = (List.getD l i tokd).1)) || false) = false, ((!decide ((List.getD (namesT l) i []) = (List.getD l i tokd).1)) || false) = false, Spec Tryz.prog 36 [TV.agg [.s (st ((List.getD l i tokd).1)), .s (st ((List.getD l i tokd).2.1)), .s (AL.Policy.slP ((List.getD l i tokd).2.2))], TV.agg [.s (st ((List.getD l i tokd).1)), .s (st ((List.getD l i tokd).2.1)), .s (AL.Policy.slP ((List.getD l i tokd).2.2))]] (ofH []) (vc (bo (decide ((List.getD l i tokd) = (List.getD l i tokd))))) (ofH [])], (((!decide ((List.getD (namesT l) i []) = (List.getD l i tokd).1)) || false) = false) → allP [((!decide ((List.getD (namesT l) i []) = (List.getD l i tokd).1)) || false) = false], ((!decide ((List.getD (namesT l) i []) = (List.getD l i tokd).1)) || false) = false → allP [((!decide ((List.getD (namesT l) i []) = (List.getD l i tokd).1)) || false) = false]] 56 [(1, vc (slT l)), (2, vp 2 0), (5, vc (AL.Fnv.slS (namesT l))), (6, vc (i6 (i : Int))), (55, vc (bo (((!decide ((List.getD (namesT l) i []) = (List.getD l i tokd).1)) || false) || (!(decide ((List.getD l i tokd) = (List.getD l i tokd)))))))] [(2, AObj.row [.s (slT l)])] mixed ⟨(by first | omega | exact hr _ (Lib.getD_mem tokd l i (by omega)) | (rw [names_len]; omega) | (have z := names_len l; omega)), (by first | omega | exact hr _ (Lib.getD_mem tokd l i (by omega)) | (rw [names_len]; omega) | (have z := names_len l; omega)), (by first | omega | exact hr _ (Lib.getD_mem tokd l i (by omega)) | (rw [names_len]; omega) | (have z := names_len l; omega)), (by first | omega | exact hr _ (Lib.getD_mem tokd l i (by omega)) | (rw [names_len]; omega) | (have z := names_len l; omega)), (fun hp => hp), (fun hp2 => (by first | exact hp2 | exact ⟨hp, hp2⟩)), (fun hp => by have hq := hp; (try simp only [xT, xF, xA, xO, xB, xP, xN, xM, Bool.not_eq_true, Bool.not_eq_false] at hq); exact ⟨hp, (Back_c (List.getD l i tokd) (by first | omega | exact hr _ (Lib.getD_mem tokd l i (by omega)) | (rw [names_len]; omega) | (have z := names_len l; omega)))⟩), (fun hp => by have hq := hp; (try simp only [xT, xF, xA, xO, xB, xP, xN, xM, Bool.not_eq_true, Bool.not_eq_false] at hq); exact ⟨hp, hp, (by first | omega | exact hr _ (Lib.getD_mem tokd l i (by omega)) | (rw [names_len]; omega) | (have z := names_len l; omega)), (show (i : Int) < List.length l from (by first | omega | exact hr _ (Lib.getD_mem tokd l i (by omega)) | (rw [names_len]; omega) | (have z := names_len l; omega)))⟩), (fun hp => hp), (fun hp => by have hq := hp; (try simp only [xT, xF, xA, xO, xB, xP, xN, xM, Bool.not_eq_true, Bool.not_eq_false] at hq); exact ⟨hp, hp, (RSame_c (List.getD l i tokd) (List.getD l i tokd))⟩), (fun hp => hp), (fun hp2 => (by first | exact hp2 | exact ⟨hp, hp2⟩))⟩ ?_
   refine gB ((((!decide ((List.getD (namesT l) i []) = (List.getD l i tokd).1)) || false) || (!(decide ((List.getD l i tokd) = (List.getD l i tokd)))))) (fun hc3 => ?_) fun hc3 => ?_
   ·
    try simp only [xT, xF, xO, xP, xN, xM] at hc3
    refine gS [] [] 56 [(4, vc (bo false))] [] trivial ?_
    exact gT (vc (bo false)) (by exfalso; have hz := hc3; have zl := names_len l; first | omega | (rw [names_at (by omega)] at hz; simp at hz; done) | (simp [names_at (l := l) (i := i) (by omega)] at hz; done))
   ·
    try simp only [xT, xF, xO, xP, xN, xM] at hc3
    refine AMx.skip ?_
    refine AMx.blk ?_
    refine gR [] [InR .i64 ((i : Int) + 1)] 56 [(1, vc (slT l)), (2, vp 2 0), (5, vc (AL.Fnv.slS (namesT l))), (6, vc (i6 ((i : Int) + 1)))] [(2, AObj.row [.s (slT l)])] (show InR .i64 ((i : Int) + 1) from (inR64 (by first | omega | exact hr _ (Lib.getD_mem tokd l i (by omega)) | (rw [names_len]; omega) | (have z := names_len l; omega)) (by first | omega | exact hr _ (Lib.getD_mem tokd l i (by omega)) | (rw [names_len]; omega) | (have z := names_len l; omega)))) ?_
    refine AMx.ent_inv (s' := AS.lst 56 [(1, vc (slT l)), (2, vp 2 0), (5, vc (AL.Fnv.slS (namesT l))), (6, vc (i6 ((i : Int) + 1)))] [(2, AObj.row [.s (slT l)])]) (ent_proj [1, 2, 5, 6] [2]) ?_
    refine AMx.inv ⟨_, ?_, i + 1, ?_, rfl, ?_⟩
    rotate_left
    · omega
    · rfl
    · omega
  ·
   refine AMx.exit ?_
   refine AMx.code_exit ?_
   refine AMx.inv_exit ?_
   refine AMx.blk_exit ?_
   refine gS [] [] 56 [(4, vc (bo true))] [] trivial ?_
   exact gT (vc (bo true)) rfl
theorem f10_body : Tryz.f10.body = some (.seq (.region 0 (rg Tryz.f10 0) false) (.seq (.region 1 (rg Tryz.f10 1) false) (.seq (.region 2 (rg Tryz.f10 2) false) (.seq (.region 3 (rg Tryz.f10 3) false) (.seq (.region 4 (rg Tryz.f10 4) false) (.seq (.region 5 (rg Tryz.f10 5) false) (.seq (.region 6 (rg Tryz.f10 6) false) (.seq (.region 7 (rg Tryz.f10 7) false) (.seq (.region 8 (rg Tryz.f10 8) false) (.seq (.region 9 (rg Tryz.f10 9) false) (.seq (.region 10 (rg Tryz.f10 10) false) (.ret)))))))))))) := by kernel_rfl
set_option maxRecDepth 100000 in
set_option maxHeartbeats 8000000 in
theorem awake_c  : Pure Tryz.prog 10 [] (vc (bo true)) := by
 refine Pure.of_body Tryz.func10 f10_body (by kernel_rfl) Tryz.ntmps10 (by kernel_rfl) (by kernel_rfl) ?_
 refine gS [] [] 135 [] [] trivial ?_
 refine gS [(0, CE.call [] [] (AV.t (TV.agg [.s (slT [firstT])])) [])] [Spec Tryz.prog 11 [] (ofH []) (AV.t (TV.agg [.s (slT [firstT])])) (ofH [])] 135 [(1, vp 1 0)] [(1, AObj.row [.s (slT [firstT])])] (New_c) ?_
 refine gS [(2, CE.shr (some (AObj.grow 80 2 AL.Policy.RuleV ([], 0) AL.Policy.rowP [(([97], 1) : AL.Policy.RuleV)]))), (4, CE.call [] [] (AV.tup [TV.agg [.s (slT ((makeT [firstT] (([98, 111, 98], [114, 111, 111, 116], [(([97], 1) : AL.Policy.RuleV)]) : TokV)).1))], tc (i6 ((makeT [firstT] (([98, 111, 98], [114, 111, 111, 116], [(([97], 1) : AL.Policy.RuleV)]) : TokV)).2))]) [])] [flat 2 AL.Policy.rowP [(([97], 1) : AL.Policy.RuleV)] = [.s (st [97]), .s (u8 1)], List.length ([(([97], 1) : AL.Policy.RuleV)] : List AL.Policy.RuleV) = 1, Spec Tryz.prog 20 [TV.agg [.s (slT [firstT])], TV.agg [.s (st [98, 111, 98]), .s (st [114, 111, 111, 116]), .s (AL.Policy.slP [(([97], 1) : AL.Policy.RuleV)])]] (ofH []) (AV.tup [TV.agg [.s (slT ((makeT [firstT] (([98, 111, 98], [114, 111, 111, 116], [(([97], 1) : AL.Policy.RuleV)]) : TokV)).1))], tc (i6 ((makeT [firstT] (([98, 111, 98], [114, 111, 111, 116], [(([97], 1) : AL.Policy.RuleV)]) : TokV)).2))]) (ofH [])] 135 [(1, vp 1 0), (2, vp 2 0), (3, vc (i6 ((makeT [firstT] (([98, 111, 98], [114, 111, 111, 116], [(([97], 1) : AL.Policy.RuleV)]) : TokV)).2)))] [(1, AObj.row [.s (slT [firstT])]), (2, AObj.row [.s (slT ((makeT [firstT] (([98, 111, 98], [114, 111, 111, 116], [(([97], 1) : AL.Policy.RuleV)]) : TokV)).1))])] ⟨rfl, rfl, (Make_c [firstT] (([98, 111, 98], [114, 111, 111, 116], [(([97], 1) : AL.Policy.RuleV)]) : TokV) (by first | exact new_sort | exact aws1 | exact aws2) (by first | omega | decide +kernel | exact awl | exact wf_rules aww2 | exact wf_rules new_wf))⟩ ?_
 rw [show (makeT [firstT] (([98, 111, 98], [114, 111, 111, 116], [(([97], 1) : AL.Policy.RuleV)]) : TokV)).1 = awA from congrArg Prod.fst awm1]
 rw [show (makeT [firstT] (([98, 111, 98], [114, 111, 111, 116], [(([97], 1) : AL.Policy.RuleV)]) : TokV)).2 = 0 from congrArg Prod.snd awm1]
 refine gS [(2, CE.call [] [] (AV.tup [TV.agg [.s (slT ((makeT awA (([101, 118, 101], [98, 111, 98], []) : TokV)).1))], tc (i6 ((makeT awA (([101, 118, 101], [98, 111, 98], []) : TokV)).2))]) [])] [Spec Tryz.prog 20 [TV.agg [.s (slT awA)], TV.agg [.s (st [101, 118, 101]), .s (st [98, 111, 98]), .s (SC.nilsl)]] (ofH []) (AV.tup [TV.agg [.s (slT ((makeT awA (([101, 118, 101], [98, 111, 98], []) : TokV)).1))], tc (i6 ((makeT awA (([101, 118, 101], [98, 111, 98], []) : TokV)).2))]) (ofH [])] 135 [(1, vp 1 0), (3, vc (i6 0)), (4, vp 4 0), (5, vc (i6 ((makeT awA (([101, 118, 101], [98, 111, 98], []) : TokV)).2)))] [(1, AObj.row [.s (slT [firstT])]), (4, AObj.row [.s (slT ((makeT awA (([101, 118, 101], [98, 111, 98], []) : TokV)).1))])] (Spec.weak (args' := [TV.agg [.s (slT awA)], TV.agg [.s (st [101, 118, 101]), .s (st [98, 111, 98]), .s (AL.Policy.slP [])]]) ⟨TV.le_rfl, (TV.le_agg (l := [.s (st [101, 118, 101]), .s (st [98, 111, 98]), .s (SC.nilsl)]) (m := [.s (st ((([101, 118, 101], [98, 111, 98], []) : TokV).1)), .s (st ((([101, 118, 101], [98, 111, 98], []) : TokV).2.1)), .s (AL.Policy.slP ((([101, 118, 101], [98, 111, 98], []) : TokV).2.2))]) ⟨AC.le_rfl, AC.le_rfl, AC.le_nil, trivial⟩), trivial⟩ (Make_c awA (([101, 118, 101], [98, 111, 98], []) : TokV) (by first | exact new_sort | exact aws1 | exact aws2) (by first | omega | decide +kernel | exact awl | exact wf_rules aww2 | exact wf_rules new_wf))) ?_
 rw [show (makeT awA (([101, 118, 101], [98, 111, 98], []) : TokV)).1 = awB from congrArg Prod.fst awm2]
 rw [show (makeT awA (([101, 118, 101], [98, 111, 98], []) : TokV)).2 = 0 from congrArg Prod.snd awm2]
 refine gS [(2, CE.shr (some (AObj.grow 80 2 AL.Policy.RuleV ([], 0) AL.Policy.rowP [(([], 1) : AL.Policy.RuleV)]))), (4, CE.call [] [] (AV.tup [TV.agg [.s (slT ((makeT awB (([109, 97, 120], [98, 111, 98], [(([], 1) : AL.Policy.RuleV)]) : TokV)).1))], tc (i6 ((makeT awB (([109, 97, 120], [98, 111, 98], [(([], 1) : AL.Policy.RuleV)]) : TokV)).2))]) [])] [flat 2 AL.Policy.rowP [(([], 1) : AL.Policy.RuleV)] = [.s (st []), .s (u8 1)], List.length ([(([], 1) : AL.Policy.RuleV)] : List AL.Policy.RuleV) = 1, Spec Tryz.prog 20 [TV.agg [.s (slT awB)], TV.agg [.s (st [109, 97, 120]), .s (st [98, 111, 98]), .s (AL.Policy.slP [(([], 1) : AL.Policy.RuleV)])]] (ofH []) (AV.tup [TV.agg [.s (slT ((makeT awB (([109, 97, 120], [98, 111, 98], [(([], 1) : AL.Policy.RuleV)]) : TokV)).1))], tc (i6 ((makeT awB (([109, 97, 120], [98, 111, 98], [(([], 1) : AL.Policy.RuleV)]) : TokV)).2))]) (ofH [])] 135 [(1, vp 1 0), (3, vc (i6 0)), (4, vp 4 0), (5, vc (i6 0)), (7, vc (i6 ((makeT awB (([109, 97, 120], [98, 111, 98], [(([], 1) : AL.Policy.RuleV)]) : TokV)).2)))] [(1, AObj.row [.s (slT [firstT])]), (4, AObj.row [.s (slT awB)])] ⟨rfl, rfl, (Make_c awB (([109, 97, 120], [98, 111, 98], [(([], 1) : AL.Policy.RuleV)]) : TokV) (by first | exact new_sort | exact aws1 | exact aws2) (by first | omega | decide +kernel | exact awl | exact wf_rules aww2 | exact wf_rules new_wf))⟩ ?_
 rw [show (makeT awB (([109, 97, 120], [98, 111, 98], [(([], 1) : AL.Policy.RuleV)]) : TokV)).2 = 13 from awm3]
 refine gS [(1, CE.call [] [] (AV.tup [TV.agg [.s (slT ((revokeT awB [98, 111, 98]).1))], tc (AL.Fnv.slS ((revokeT awB [98, 111, 98]).2.1)), tc (i6 ((revokeT awB [98, 111, 98]).2.2))]) [])] [Spec Tryz.prog 16 [TV.agg [.s (slT awB)], tc (st [98, 111, 98])] (ofH []) (AV.tup [TV.agg [.s (slT ((revokeT awB [98, 111, 98]).1))], tc (AL.Fnv.slS ((revokeT awB [98, 111, 98]).2.1)), tc (i6 ((revokeT awB [98, 111, 98]).2.2))]) (ofH [])] 135 [(1, vp 1 0), (3, vc (i6 0)), (4, vp 4 0), (5, vc (i6 0)), (7, vc (i6 13)), (8, vp 8 0), (9, vc (AL.Fnv.slS ((revokeT awB [98, 111, 98]).2.1))), (10, vc (i6 ((revokeT awB [98, 111, 98]).2.2)))] [(1, AObj.row [.s (slT [firstT])]), (4, AObj.row [.s (slT awB)]), (8, AObj.row [.s (slT ((revokeT awB [98, 111, 98]).1))])] (Revoke_c awB [98, 111, 98] (by exact aww2) (by first | exact new_sort | exact aws1 | exact aws2) (by first | omega | decide +kernel | exact awl | exact wf_rules aww2 | exact wf_rules new_wf)) ?_
 rw [show (revokeT awB [98, 111, 98]).1 = [firstT] from congrArg Prod.fst awr]
 rw [show (revokeT awB [98, 111, 98]).2.1 = [[98, 111, 98], [101, 118, 101]] from congrArg (fun z => z.2.1) awr]
 rw [show (revokeT awB [98, 111, 98]).2.2 = 0 from congrArg (fun z => z.2.2) awr]
 refine gS [(1, CE.call [] [] (AV.tup [TV.agg [.s (st (((findR [firstT] [98, 111, 98]).1).1)), .s (st (((findR [firstT] [98, 111, 98]).1).2.1)), .s (AL.Policy.slP (((findR [firstT] [98, 111, 98]).1).2.2))], tc (bo ((findR [firstT] [98, 111, 98]).2))]) [])] [Spec Tryz.prog 27 [TV.agg [.s (slT [firstT])], tc (st [98, 111, 98])] (ofH []) (AV.tup [TV.agg [.s (st (((findR [firstT] [98, 111, 98]).1).1)), .s (st (((findR [firstT] [98, 111, 98]).1).2.1)), .s (AL.Policy.slP (((findR [firstT] [98, 111, 98]).1).2.2))], tc (bo ((findR [firstT] [98, 111, 98]).2))]) (ofH [])] 135 [(1, vp 1 0), (3, vc (i6 0)), (4, vp 4 0), (5, vc (i6 0)), (7, vc (i6 13)), (8, vp 8 0), (9, vc (AL.Fnv.slS [[98, 111, 98], [101, 118, 101]])), (10, vc (i6 0)), (12, vc (bo ((findR [firstT] [98, 111, 98]).2)))] [(1, AObj.row [.s (slT [firstT])]), (4, AObj.row [.s (slT awB)]), (8, AObj.row [.s (slT [firstT])])] (Find_c [firstT] [98, 111, 98] (by first | exact new_sort | exact aws1 | exact aws2) (by first | omega | decide +kernel | exact awl | exact wf_rules aww2 | exact wf_rules new_wf) (by first | exact wf_rules aww2 | exact wf_rules new_wf)) ?_
 rw [show (findR [firstT] [98, 111, 98]).2 = false from awf1]
 refine gS [(1, CE.call [] [] (AV.tup [TV.agg [.s (st (((findR awB [98, 111, 98]).1).1)), .s (st (((findR awB [98, 111, 98]).1).2.1)), .s (AL.Policy.slP (((findR awB [98, 111, 98]).1).2.2))], tc (bo ((findR awB [98, 111, 98]).2))]) [])] [Spec Tryz.prog 27 [TV.agg [.s (slT awB)], tc (st [98, 111, 98])] (ofH []) (AV.tup [TV.agg [.s (st (((findR awB [98, 111, 98]).1).1)), .s (st (((findR awB [98, 111, 98]).1).2.1)), .s (AL.Policy.slP (((findR awB [98, 111, 98]).1).2.2))], tc (bo ((findR awB [98, 111, 98]).2))]) (ofH [])] 135 [(1, vp 1 0), (3, vc (i6 0)), (4, vp 4 0), (5, vc (i6 0)), (7, vc (i6 13)), (8, vp 8 0), (9, vc (AL.Fnv.slS [[98, 111, 98], [101, 118, 101]])), (10, vc (i6 0)), (12, vc (bo false)), (13, vp 13 0), (14, vc (bo ((findR awB [98, 111, 98]).2)))] [(1, AObj.row [.s (slT [firstT])]), (4, AObj.row [.s (slT awB)]), (8, AObj.row [.s (slT [firstT])]), (13, AObj.row [.s (st (((findR awB [98, 111, 98]).1).1)), .s (st (((findR awB [98, 111, 98]).1).2.1)), .s (AL.Policy.slP (((findR awB [98, 111, 98]).1).2.2))])] (Find_c awB [98, 111, 98] (by first | exact new_sort | exact aws1 | exact aws2) (by first | omega | decide +kernel | exact awl | exact wf_rules aww2 | exact wf_rules new_wf) (by first | exact wf_rules aww2 | exact wf_rules new_wf)) ?_
 rw [show (findR awB [98, 111, 98]).1 = bobT from congrArg Prod.fst awf2]
 rw [show (findR awB [98, 111, 98]).2 = true from congrArg Prod.snd awf2]
 refine gS [(1, CE.call [] [] (AV.tup [tc (st ((textT bobT).1)), tc (i6 ((textT bobT).2))]) [])] [Spec Tryz.prog 30 [TV.agg [.s (st bobT.1), .s (st bobT.2.1), .s (AL.Policy.slP bobT.2.2)]] (ofH []) (AV.tup [tc (st ((textT bobT).1)), tc (i6 ((textT bobT).2))]) (ofH [])] 135 [(1, vp 1 0), (3, vc (i6 0)), (4, vp 4 0), (5, vc (i6 0)), (7, vc (i6 13)), (8, vp 8 0), (9, vc (AL.Fnv.slS [[98, 111, 98], [101, 118, 101]])), (10, vc (i6 0)), (12, vc (bo false)), (14, vc (bo true)), (15, vc (st ((textT bobT).1))), (16, vc (i6 ((textT bobT).2)))] [(1, AObj.row [.s (slT [firstT])]), (4, AObj.row [.s (slT awB)]), (8, AObj.row [.s (slT [firstT])])] (Text_c bobT) ?_
 rw [show (textT bobT).2 = 0 from awt]
 refine gS [(1, CE.call [] [] (AV.tup [TV.agg [.s (st (((parseT [98, 111, 98] ((textT bobT).1)).1).1)), .s (st (((parseT [98, 111, 98] ((textT bobT).1)).1).2.1)), .s (AL.Policy.slP (((parseT [98, 111, 98] ((textT bobT).1)).1).2.2))], tc (i6 ((parseT [98, 111, 98] ((textT bobT).1)).2))]) [])] [Spec Tryz.prog 32 [tc (st [98, 111, 98]), tc (st ((textT bobT).1))] (ofH []) (AV.tup [TV.agg [.s (st (((parseT [98, 111, 98] ((textT bobT).1)).1).1)), .s (st (((parseT [98, 111, 98] ((textT bobT).1)).1).2.1)), .s (AL.Policy.slP (((parseT [98, 111, 98] ((textT bobT).1)).1).2.2))], tc (i6 ((parseT [98, 111, 98] ((textT bobT).1)).2))]) (ofH [])] 135 [(1, vp 1 0), (3, vc (i6 0)), (4, vp 4 0), (5, vc (i6 0)), (7, vc (i6 13)), (8, vp 8 0), (9, vc (AL.Fnv.slS [[98, 111, 98], [101, 118, 101]])), (10, vc (i6 0)), (12, vc (bo false)), (14, vc (bo true)), (16, vc (i6 0)), (17, vp 17 0), (18, vc (i6 ((parseT [98, 111, 98] ((textT bobT).1)).2)))] [(1, AObj.row [.s (slT [firstT])]), (4, AObj.row [.s (slT awB)]), (8, AObj.row [.s (slT [firstT])]), (17, AObj.row [.s (st (((parseT [98, 111, 98] ((textT bobT).1)).1).1)), .s (st (((parseT [98, 111, 98] ((textT bobT).1)).1).2.1)), .s (AL.Policy.slP (((parseT [98, 111, 98] ((textT bobT).1)).1).2.2))])] (Parse_c [98, 111, 98] ((textT bobT).1) (by first | omega | decide +kernel | exact awl | exact wf_rules aww2 | exact wf_rules new_wf)) ?_
 rw [show (parseT [98, 111, 98] ((textT bobT).1)).1 = bobT from congrArg Prod.fst awp]
 rw [show (parseT [98, 111, 98] ((textT bobT).1)).2 = 0 from congrArg Prod.snd awp]
 refine gS [(28, CE.call [] [] (vc (bo (decide ([firstT] = [firstT])))) []), (52, CE.call [] [] (vc (u8 (capsR awB [98, 111, 98] [97, 47, 120]))) []), (57, CE.call [] [] (vc (u8 (capsR awB [109, 97, 120] [97]))) []), (64, CE.call [] [] (vc (i6 (checkT (([], [], []) : TokV)))) [])] [(true = true) → allP [true = true], true = true → allP [true = true], (true = true) → allP [true = true], true = true → allP [true = true], (true = true) → allP [true = true], true = true → allP [true = true], (true = true) → allP [true = true], (true = true) → allP [true = true], true = true → allP [true = true], (true = true) → allP [true = true, (0 : Int) ≤ 0, (0 : Int) < List.length ([[98, 111, 98], [101, 118, 101]] : List Bytes)], (true = true) → allP [true = true], (true = true) → allP [true = true], true = true → allP [true = true], (true = true) → allP [true = true, true = true, Spec Tryz.prog 19 [TV.agg [.s (slT [firstT])], TV.agg [.s (slT [firstT])]] (ofH []) (vc (bo (decide ([firstT] = [firstT])))) (ofH [])], true = true → allP [true = true], (true = true) → allP [true = true], true = true → allP [true = true], true = true → allP [true = true], (true = true) → allP [true = true], true = true → allP [true = true], (true = true) → allP [true = true], true = true → allP [true = true], (true = true) → allP [true = true], (true = true) → allP [true = true], true = true → allP [true = true], (true = true) → allP [true = true, Spec Tryz.prog 23 [TV.agg [.s (slT awB)], tc (st [98, 111, 98]), tc (st [97, 47, 120])] (ofH []) (vc (u8 (capsR awB [98, 111, 98] [97, 47, 120]))) (ofH [])], (true = true) → allP [true = true], true = true → allP [true = true], (true = true) → allP [true = true, Spec Tryz.prog 23 [TV.agg [.s (slT awB)], tc (st [109, 97, 120]), tc (st [97])] (ofH []) (vc (u8 (capsR awB [109, 97, 120] [97]))) (ofH [])], (true = true) → allP [true = true], true = true → allP [true = true], (true = true) → allP [true = true, Spec Tryz.prog 13 [TV.agg [.s (st []), .s (st []), .s (SC.nilsl)]] (ofH []) (vc (i6 (checkT (([], [], []) : TokV)))) (ofH [])], (true = true) → allP [true = true], true = true → allP [true = true]] 135 [(0, vc (bo true))] [] ⟨(fun hp => hp), (fun hp2 => (by first | exact hp2 | exact ⟨hp, hp2⟩)), (fun hp => hp), (fun hp2 => (by first | exact hp2 | exact ⟨hp, hp2⟩)), (fun hp => hp), (fun hp2 => (by first | exact hp2 | exact ⟨hp, hp2⟩)), (fun hp => hp), (fun hp => hp), (fun hp2 => (by first | exact hp2 | exact ⟨hp, hp2⟩)), (fun hp => by have hq := hp; (try simp only [xT, xF, xA, xO, xB, xP, xN, xM, Bool.not_eq_true, Bool.not_eq_false] at hq); exact ⟨hp, (by first | omega | decide +kernel | exact awl | exact wf_rules aww2 | exact wf_rules new_wf), (show (0 : Int) < List.length ([[98, 111, 98], [101, 118, 101]] : List Bytes) from (by first | omega | decide +kernel | exact awl | exact wf_rules aww2 | exact wf_rules new_wf))⟩), (fun hp => hp), (fun hp => hp), (fun hp2 => (by first | exact hp2 | exact ⟨hp, hp2⟩)), (fun hp => by have hq := hp; (try simp only [xT, xF, xA, xO, xB, xP, xN, xM, Bool.not_eq_true, Bool.not_eq_false] at hq); exact ⟨hp, hp, (Same_c [firstT] [firstT])⟩), (fun hp2 => (by first | exact hp2 | exact ⟨hp, hp2⟩)), (fun hp => hp), (fun hp2 => (by first | exact hp2 | exact ⟨hp, hp2⟩)), (fun hp2 => (by first | exact hp2 | exact ⟨hp, hp2⟩)), (fun hp => hp), (fun hp2 => (by first | exact hp2 | exact ⟨hp, hp2⟩)), (fun hp => hp), (fun hp2 => (by first | exact hp2 | exact ⟨hp, hp2⟩)), (fun hp => hp), (fun hp => hp), (fun hp2 => (by first | exact hp2 | exact ⟨hp, hp2⟩)), (fun hp => by have hq := hp; (try simp only [xT, xF, xA, xO, xB, xP, xN, xM, Bool.not_eq_true, Bool.not_eq_false] at hq); exact ⟨hp, (Caps_c awB [98, 111, 98] [97, 47, 120] (by first | exact new_sort | exact aws1 | exact aws2) (by first | omega | decide +kernel | exact awl | exact wf_rules aww2 | exact wf_rules new_wf) (by first | exact wf_rules aww2 | exact wf_rules new_wf))⟩), (fun hp => hp), (fun hp2 => (by first | exact hp2 | exact ⟨hp, hp2⟩)), (fun hp => by have hq := hp; (try simp only [xT, xF, xA, xO, xB, xP, xN, xM, Bool.not_eq_true, Bool.not_eq_false] at hq); exact ⟨hp, (Caps_c awB [109, 97, 120] [97] (by first | exact new_sort | exact aws1 | exact aws2) (by first | omega | decide +kernel | exact awl | exact wf_rules aww2 | exact wf_rules new_wf) (by first | exact wf_rules aww2 | exact wf_rules new_wf))⟩), (fun hp => hp), (fun hp2 => (by first | exact hp2 | exact ⟨hp, hp2⟩)), (fun hp => by have hq := hp; (try simp only [xT, xF, xA, xO, xB, xP, xN, xM, Bool.not_eq_true, Bool.not_eq_false] at hq); exact ⟨hp, (Spec.weak (args' := [TV.agg [.s (st []), .s (st []), .s (AL.Policy.slP [])]]) ⟨(TV.le_agg (l := [.s (st []), .s (st []), .s (SC.nilsl)]) (m := [.s (st ((([], [], []) : TokV).1)), .s (st ((([], [], []) : TokV).2.1)), .s (AL.Policy.slP ((([], [], []) : TokV).2.2))]) ⟨AC.le_rfl, AC.le_rfl, AC.le_nil, trivial⟩), trivial⟩ (Check_c (([], [], []) : TokV)))⟩), (fun hp => hp), (fun hp2 => (by first | exact hp2 | exact ⟨hp, hp2⟩))⟩ ?_
 exact gT (vc (bo true)) rfl
end AL.Token
namespace AL.Token
open Go Go.Proofs AL
open AL.Policy (RuleV rowP slP checkP coversS capsP)
set_option linter.unusedVariables false
set_option linter.unusedSimpArgs false
theorem f6_body : Tryz.f6.body = some (.seq (.region 0 (rg Tryz.f6 0) false) (.seq (.seq (.region 1 (rg Tryz.f6 1) false) (.cond (.tmp 33) (.seq (.region 2 (rg Tryz.f6 2) false) (.ret)) (.skip))) (.seq (.region 3 (rg Tryz.f6 3) false) (.seq (.seq (.region 4 (rg Tryz.f6 4) false) (.block 0 (.loop (.seq (.seq (.region 5 (rg Tryz.f6 5) false) (.cond (.tmp 38) (.skip) (.exit 0))) (.seq (.block 1 (.seq (.region 7 (rg Tryz.f6 7) false) (.seq (.region 8 (rg Tryz.f6 8) false) (.seq (.seq (.region 9 (rg Tryz.f6 9) false) (.cond (.tmp 65) (.seq (.region 10 (rg Tryz.f6 10) false) (.ret)) (.skip))) (.region 11 (rg Tryz.f6 11) false))))) (.region 6 (rg Tryz.f6 6) false)))))) (.seq (.region 12 (rg Tryz.f6 12) false) (.seq (.region 13 (rg Tryz.f6 13) false) (.seq (.region 14 (rg Tryz.f6 14) false) (.seq (.region 15 (rg Tryz.f6 15) false) (.seq (.region 16 (rg Tryz.f6 16) true) (.ret)))))))))) := by kernel_rfl
set_option maxRecDepth 100000 in
set_option maxHeartbeats 8000000 in
theorem TokenTexts_c (l : List TokV) (name s : Bytes) : Pure Tryz.prog 6 [tc (slT l), tc (st name), tc (st s)] (vc (bo true)) := by
 refine Pure.of_body Tryz.func6 f6_body (by kernel_rfl) Tryz.ntmps6 (by kernel_rfl) (by kernel_rfl) ?_
 refine AMx.sl 0 (l := l) rfl (fun hl => ?_)
 simp only [maxLen] at hl
 refine gS [] [] 118 [(0, vc (slT l)), (1, vc (st name)), (2, vc (st s))] [] trivial ?_
 refine gQ ?_
 refine gS [(1, CE.call [] [] (vc (i6 (overT l))) [])] [Spec Tryz.prog 8 [tc (slT l)] (ofH []) (vc (i6 (overT l))) (ofH []), ((decide (0 < overT l)) = false) → allP [(decide (0 < overT l)) = false], ((decide (0 < overT l)) = false) → allP [(decide (0 < overT l)) = false], (decide (0 < overT l)) = false → allP [(decide (0 < overT l)) = false], (((decide (0 < overT l)) || (decide (40 < (List.length name : Int)))) = false) → allP [((decide (0 < overT l)) || (decide (40 < (List.length name : Int)))) = false], (((decide (0 < overT l)) || (decide (40 < (List.length name : Int)))) = false) → allP [((decide (0 < overT l)) || (decide (40 < (List.length name : Int)))) = false], ((decide (0 < overT l)) || (decide (40 < (List.length name : Int)))) = false → allP [((decide (0 < overT l)) || (decide (40 < (List.length name : Int)))) = false]] 118 [(0, vc (slT l)), (1, vc (st name)), (2, vc (st s)), (33, vc (bo (((decide (0 < overT l)) || (decide (40 < (List.length name : Int)))) || (decide (300 < (List.length s : Int))))))] [] ⟨(Over_c l), (fun hp => hp), (fun hp => hp), (fun hp2 => (by first | exact hp2 | exact ⟨hp, hp2⟩)), (fun hp => hp), (fun hp => hp), (fun hp2 => (by first | exact hp2 | exact ⟨hp, hp2⟩))⟩ ?_
 refine gB ((((decide (0 < overT l)) || (decide (40 < (List.length name : Int)))) || (decide (300 < (List.length s : Int))))) (fun hc1 => ?_) fun hc1 => ?_
 ·
  try simp only [xT, xF, xO, xP] at hc1
  refine gS [(0, CE.call [] [] (vc (bo true)) [])] [Spec Tryz.prog 10 [] (ofH []) (vc (bo true)) (ofH [])] 118 [(6, vc (bo true))] [] (awake_c) ?_
  exact gT (vc (bo true)) rfl
 ·
  try simp only [xT, xF, xO, xP] at hc1
  refine AMx.skip ?_
  refine gS [] [] 118 [(0, vc (slT l)), (1, vc (st name)), (2, vc (st s)), (7, vc (SC.nilsl))] [] trivial ?_
  refine gQ ?_
  refine gS [] [] 118 [(0, vc (slT l)), (1, vc (st name)), (2, vc (st s)), (7, vc (SC.nilsl)), (8, vc (i6 0))] [] trivial ?_
  refine AMx.block ?_
  refine AMx.ent (s' := AS.lst 118 [(0, vc (slT l)), (1, vc (st name)), (2, vc (st s)), (7, vo 7), (8, vc (i6 0))] [(7, AObj.grow 41 3 TokV tokd rowT [])]) (ent_adopt (t := 7) (d := 7) 41 3 TokV tokd rowT (by kernel_rfl) (by kernel_rfl) (by kernel_rfl) (by kernel_rfl)) ?_
  refine AMx.ent (s' := AS.lst 118 [(0, vc (slT l)), (1, vc (st name)), (2, vc (st s)), (7, vo 7), (8, vc (i6 0))] [(7, AObj.grow 41 3 TokV tokd rowT [])]) (ent_proj [0, 1, 2, 7, 8] [7]) ?_
  refine AMx.loop (fun mm ss => ∃ (i : Nat), (i ≤ l.length) ∧ mm = l.length - i ∧ ss = AS.lst 118 [(0, vc (slT l)), (1, vc (st name)), (2, vc (st s)), (7, vo 7), (8, vc (i6 (i : Int)))] [(7, AObj.grow 41 3 TokV tokd rowT (List.take i l))]) ⟨0, ?_, rfl, ?_⟩ ?_
  · omega
  · rfl
  rintro mm ss ⟨i, hI, rfl, rfl⟩
  refine gQ ?_
  refine gS [] [] 118 [(0, vc (slT l)), (1, vc (st name)), (2, vc (st s)), (7, vo 7), (8, vc (i6 (i : Int))), (38, vc (bo (decide ((i : Int) < (List.length l : Int)))))] [(7, AObj.grow 41 3 TokV tokd rowT (List.take i l))] trivial ?_
  refine gC ((i : Int) < (List.length l : Int)) (fun hc2 => ?_) fun hc2 => ?_
  ·
   refine AMx.skip ?_
   refine gQ ?_
   refine AMx.block ?_
   refine gS [(4, CE.call [] [] (AV.t (TV.agg [.s (st ((List.getD l i tokd).1)), .s (st ((List.getD l i tokd).2.1)), .s (AL.Policy.slP ((List.getD l i tokd).2.2))])) []), (5, CE.call [] [] (AV.tup [tc (st ((textT (List.getD l i tokd)).1)), tc (i6 ((textT (List.getD l i tokd)).2))]) [])] [(0 : Int) ≤ (i : Int), (i : Int) < List.length l, Spec Tryz.prog 14 [TV.agg [.s (st ((List.getD l i tokd).1)), .s (st ((List.getD l i tokd).2.1)), .s (AL.Policy.slP ((List.getD l i tokd).2.2))]] (ofH []) (AV.t (TV.agg [.s (st ((List.getD l i tokd).1)), .s (st ((List.getD l i tokd).2.1)), .s (AL.Policy.slP ((List.getD l i tokd).2.2))])) (ofH []), Spec Tryz.prog 30 [TV.agg [.s (st ((List.getD l i tokd).1)), .s (st ((List.getD l i tokd).2.1)), .s (AL.Policy.slP ((List.getD l i tokd).2.2))]] (ofH []) (AV.tup [tc (st ((textT (List.getD l i tokd)).1)), tc (i6 ((textT (List.getD l i tokd)).2))]) (ofH [])] 118 [(0, vc (slT l)), (1, vc (st name)), (2, vc (st s)), (7, vo 7), (8, vc (i6 (i : Int))), (9, vc (st ((textT (List.getD l i tokd)).1))), (10, vc (i6 ((textT (List.getD l i tokd)).2)))] [(7, AObj.grow 41 3 TokV tokd rowT (List.take i l))] ⟨(by first | omega | (have z := (over_ok hc1.1.1).1; first | omega | (have z2 := (over_ok hc1.1.1).2 _ (Lib.getD_mem tokd l i (by omega)); omega) | (have z2 := parse_rules name s; omega) | (have z2 := load_len (l := l); omega) | (simp only [List.length_append, List.length_take, List.length_cons, List.length_nil]; omega))), (by first | omega | (have z := (over_ok hc1.1.1).1; first | omega | (have z2 := (over_ok hc1.1.1).2 _ (Lib.getD_mem tokd l i (by omega)); omega) | (have z2 := parse_rules name s; omega) | (have z2 := load_len (l := l); omega) | (simp only [List.length_append, List.length_take, List.length_cons, List.length_nil]; omega))), (Own_c (List.getD l i tokd) (by first | omega | (have z := (over_ok hc1.1.1).1; first | omega | (have z2 := (over_ok hc1.1.1).2 _ (Lib.getD_mem tokd l i (by omega)); omega) | (have z2 := parse_rules name s; omega) | (have z2 := load_len (l := l); omega) | (simp only [List.length_append, List.length_take, List.length_cons, List.length_nil]; omega)))), (Text_c (List.getD l i tokd))⟩ ?_
   refine gS [(4, CE.call [] [] (AV.tup [tc (st ((textT (List.getD l i tokd)).1)), tc (i6 ((textT (List.getD l i tokd)).2))]) [])] [(0 : Int) ≤ (i : Int), (i : Int) < List.length l, Spec Tryz.prog 31 [TV.agg [.s (st ((List.getD l i tokd).1)), .s (st ((List.getD l i tokd).2.1)), .s (AL.Policy.slP ((List.getD l i tokd).2.2))]] (ofH []) (AV.tup [tc (st ((textT (List.getD l i tokd)).1)), tc (i6 ((textT (List.getD l i tokd)).2))]) (ofH [])] 118 [(0, vc (slT l)), (1, vc (st name)), (2, vc (st s)), (7, vo 7), (8, vc (i6 (i : Int))), (9, vc (st ((textT (List.getD l i tokd)).1))), (10, vc (i6 ((textT (List.getD l i tokd)).2))), (11, vc (st ((textT (List.getD l i tokd)).1))), (12, vc (i6 ((textT (List.getD l i tokd)).2)))] [(7, AObj.grow 41 3 TokV tokd rowT (List.take i l))] ⟨(by first | omega | (have z := (over_ok hc1.1.1).1; first | omega | (have z2 := (over_ok hc1.1.1).2 _ (Lib.getD_mem tokd l i (by omega)); omega) | (have z2 := parse_rules name s; omega) | (have z2 := load_len (l := l); omega) | (simp only [List.length_append, List.length_take, List.length_cons, List.length_nil]; omega))), (by first | omega | (have z := (over_ok hc1.1.1).1; first | omega | (have z2 := (over_ok hc1.1.1).2 _ (Lib.getD_mem tokd l i (by omega)); omega) | (have z2 := parse_rules name s; omega) | (have z2 := load_len (l := l); omega) | (simp only [List.length_append, List.length_take, List.length_cons, List.length_nil]; omega))), (RText_c (List.getD l i tokd))⟩ ?_
   refine gQ ?_
   refine gS [] [((!decide ((textT (List.getD l i tokd)).1 = (textT (List.getD l i tokd)).1)) = false) → allP [(!decide ((textT (List.getD l i tokd)).1 = (textT (List.getD l i tokd)).1)) = false, (!decide ((textT (List.getD l i tokd)).1 = (textT (List.getD l i tokd)).1)) = false], (!decide ((textT (List.getD l i tokd)).1 = (textT (List.getD l i tokd)).1)) = false → allP [(!decide ((textT (List.getD l i tokd)).1 = (textT (List.getD l i tokd)).1)) = false]] 118 [(0, vc (slT l)), (1, vc (st name)), (2, vc (st s)), (7, vo 7), (8, vc (i6 (i : Int))), (65, vc (bo ((!decide ((textT (List.getD l i tokd)).1 = (textT (List.getD l i tokd)).1)) || (!decide ((textT (List.getD l i tokd)).2 = (textT (List.getD l i tokd)).2)))))] [(7, AObj.grow 41 3 TokV tokd rowT (List.take i l))] ⟨(fun hp => ⟨hp, hp⟩), (fun hp2 => (by first | exact hp2 | exact ⟨hp, hp2⟩))⟩ ?_
   refine gB (((!decide ((textT (List.getD l i tokd)).1 = (textT (List.getD l i tokd)).1)) || (!decide ((textT (List.getD l i tokd)).2 = (textT (List.getD l i tokd)).2)))) (fun hc3 => ?_) fun hc3 => ?_
   ·
    try simp only [xT, xF, xO, xP, xN, xM] at hc3
    refine gS [] [] 118 [(6, vc (bo false))] [] trivial ?_
    exact gT (vc (bo false)) (by exfalso; have hz := hc3; simp [revoke_same, make_same] at hz)
   ·
    try simp only [xT, xF, xO, xP, xN, xM] at hc3
    refine AMx.skip ?_
    refine gR [(5, CE.call [] [] (AV.t (TV.agg [.s (st ((List.getD l i tokd).1)), .s (st ((List.getD l i tokd).2.1)), .s (AL.Policy.slP ((List.getD l i tokd).2.2))])) []), (6, CE.obj (AObj.grow 41 3 TokV tokd rowT [(List.getD l i tokd)])), (7, CE.obj (AObj.grow 41 3 TokV tokd rowT ((List.take i l) ++ [(List.getD l i tokd)])))] [(0 : Int) ≤ (i : Int), (i : Int) < List.length l, Spec Tryz.prog 14 [TV.agg [.s (st ((List.getD l i tokd).1)), .s (st ((List.getD l i tokd).2.1)), .s (AL.Policy.slP ((List.getD l i tokd).2.2))]] (ofH []) (AV.t (TV.agg [.s (st ((List.getD l i tokd).1)), .s (st ((List.getD l i tokd).2.1)), .s (AL.Policy.slP ((List.getD l i tokd).2.2))])) (ofH []), flat 3 rowT [(List.getD l i tokd)] = [.s (st ((List.getD l i tokd).1)), .s (st ((List.getD l i tokd).2.1)), .s (AL.Policy.slP ((List.getD l i tokd).2.2))], List.length ([(List.getD l i tokd)] : List TokV) = 1, AppC (flat 3 rowT [(List.getD l i tokd)]) (List.length ([(List.getD l i tokd)] : List TokV)) 56 (AObj.grow 41 3 TokV tokd rowT (List.take i l)) (AObj.grow 41 3 TokV tokd rowT ((List.take i l) ++ [(List.getD l i tokd)]))] 118 [(0, vc (slT l)), (1, vc (st name)), (2, vc (st s)), (7, vo 73), (8, vc (i6 (i : Int)))] [(73, AObj.grow 41 3 TokV tokd rowT ((List.take i l) ++ [(List.getD l i tokd)]))] ⟨(by first | omega | (have z := (over_ok hc1.1.1).1; first | omega | (have z2 := (over_ok hc1.1.1).2 _ (Lib.getD_mem tokd l i (by omega)); omega) | (have z2 := parse_rules name s; omega) | (have z2 := load_len (l := l); omega) | (simp only [List.length_append, List.length_take, List.length_cons, List.length_nil]; omega))), (by first | omega | (have z := (over_ok hc1.1.1).1; first | omega | (have z2 := (over_ok hc1.1.1).2 _ (Lib.getD_mem tokd l i (by omega)); omega) | (have z2 := parse_rules name s; omega) | (have z2 := load_len (l := l); omega) | (simp only [List.length_append, List.length_take, List.length_cons, List.length_nil]; omega))), (Own_c (List.getD l i tokd) (by first | omega | (have z := (over_ok hc1.1.1).1; first | omega | (have z2 := (over_ok hc1.1.1).2 _ (Lib.getD_mem tokd l i (by omega)); omega) | (have z2 := parse_rules name s; omega) | (have z2 := load_len (l := l); omega) | (simp only [List.length_append, List.length_take, List.length_cons, List.length_nil]; omega)))), rfl, rfl, (⟨_, rfl, rfl, rfl, by have z := (over_ok hc1.1.1).1; simp only [List.length_append, List.length_take, List.length_cons, List.length_nil]; omega, by have z := (over_ok hc1.1.1).1; simp only [maxLen, List.length_append, List.length_take, List.length_cons, List.length_nil]; omega⟩)⟩ ?_
    refine AMx.blk ?_
    refine gR [] [InR .i64 ((i : Int) + 1)] 118 [(0, vc (slT l)), (1, vc (st name)), (2, vc (st s)), (7, vo 73), (8, vc (i6 ((i : Int) + 1)))] [(73, AObj.grow 41 3 TokV tokd rowT ((List.take i l) ++ [(List.getD l i tokd)]))] (show InR .i64 ((i : Int) + 1) from (inR64 (by first | omega | (have z := (over_ok hc1.1.1).1; first | omega | (have z2 := (over_ok hc1.1.1).2 _ (Lib.getD_mem tokd l i (by omega)); omega) | (have z2 := parse_rules name s; omega) | (have z2 := load_len (l := l); omega) | (simp only [List.length_append, List.length_take, List.length_cons, List.length_nil]; omega))) (by first | omega | (have z := (over_ok hc1.1.1).1; first | omega | (have z2 := (over_ok hc1.1.1).2 _ (Lib.getD_mem tokd l i (by omega)); omega) | (have z2 := parse_rules name s; omega) | (have z2 := load_len (l := l); omega) | (simp only [List.length_append, List.length_take, List.length_cons, List.length_nil]; omega))))) ?_
    refine AMx.ent_inv (s' := AS.lst 118 [(0, vc (slT l)), (1, vc (st name)), (2, vc (st s)), (7, vo 7), (8, vc (i6 ((i : Int) + 1)))] [(7, AObj.grow 41 3 TokV tokd rowT ((List.take i l) ++ [(List.getD l i tokd)]))]) (ent_swap 73 7 (by kernel_rfl) (by kernel_rfl)) ?_
    refine AMx.ent_inv (s' := AS.lst 118 [(0, vc (slT l)), (1, vc (st name)), (2, vc (st s)), (7, vo 7), (8, vc (i6 ((i : Int) + 1)))] [(7, AObj.grow 41 3 TokV tokd rowT ((List.take i l) ++ [(List.getD l i tokd)]))]) (ent_proj [0, 1, 2, 7, 8] [7]) ?_
    refine AMx.inv ⟨_, ?_, i + 1, ?_, rfl, ?_⟩
    rotate_left
    · omega
    · rw [Lib.take_succ tokd l i (by omega)]; rfl
    · omega
  ·
   refine AMx.exit ?_
   refine AMx.code_exit ?_
   refine AMx.inv_exit ?_
   refine AMx.blk_exit ?_
   rw [show List.take i l = l from List.take_of_length_le (by omega)]
   refine gS [(2, CE.call [] [] (AV.tup [TV.agg [.s (st (((parseT name s).1).1)), .s (st (((parseT name s).1).2.1)), .s (AL.Policy.slP (((parseT name s).1).2.2))], tc (i6 ((parseT name s).2))]) [])] [Spec Tryz.prog 32 [tc (st name), tc (st s)] (ofH []) (AV.tup [TV.agg [.s (st (((parseT name s).1).1)), .s (st (((parseT name s).1).2.1)), .s (AL.Policy.slP (((parseT name s).1).2.2))], tc (i6 ((parseT name s).2))]) (ofH [])] 118 [(0, vc (slT l)), (1, vc (st name)), (2, vc (st s)), (7, vo 7), (13, vp 13 0), (14, vc (i6 ((parseT name s).2)))] [(7, AObj.grow 41 3 TokV tokd rowT l), (13, AObj.row [.s (st (((parseT name s).1).1)), .s (st (((parseT name s).1).2.1)), .s (AL.Policy.slP (((parseT name s).1).2.2))])] (Parse_c name s (by first | omega | (have z := (over_ok hc1.1.1).1; first | omega | (have z2 := (over_ok hc1.1.1).2 _ (Lib.getD_mem tokd l i (by omega)); omega) | (have z2 := parse_rules name s; omega) | (have z2 := load_len (l := l); omega) | (simp only [List.length_append, List.length_take, List.length_cons, List.length_nil]; omega)))) ?_
   refine gS [(2, CE.call [] [] (AV.tup [TV.agg [.s (st (((parseT name s).1).1)), .s (st (((parseT name s).1).2.1)), .s (AL.Policy.slP (((parseT name s).1).2.2))], tc (i6 ((parseT name s).2))]) [])] [Spec Tryz.prog 33 [tc (st name), tc (st s)] (ofH []) (AV.tup [TV.agg [.s (st (((parseT name s).1).1)), .s (st (((parseT name s).1).2.1)), .s (AL.Policy.slP (((parseT name s).1).2.2))], tc (i6 ((parseT name s).2))]) (ofH [])] 118 [(0, vc (slT l)), (7, vo 7), (13, vp 13 0), (14, vc (i6 ((parseT name s).2))), (15, vp 15 0), (16, vc (i6 ((parseT name s).2)))] [(7, AObj.grow 41 3 TokV tokd rowT l), (13, AObj.row [.s (st (((parseT name s).1).1)), .s (st (((parseT name s).1).2.1)), .s (AL.Policy.slP (((parseT name s).1).2.2))]), (15, AObj.row [.s (st (((parseT name s).1).1)), .s (st (((parseT name s).1).2.1)), .s (AL.Policy.slP (((parseT name s).1).2.2))])] (RParse_c name s (by first | omega | (have z := (over_ok hc1.1.1).1; first | omega | (have z2 := (over_ok hc1.1.1).2 _ (Lib.getD_mem tokd l i (by omega)); omega) | (have z2 := parse_rules name s; omega) | (have z2 := load_len (l := l); omega) | (simp only [List.length_append, List.length_take, List.length_cons, List.length_nil]; omega)))) ?_
   refine gS [(1, CE.call [7] [] (AV.tup [TV.agg [.s (slT ((loadT l).1))], tc (i6 ((loadT l).2))]) [])] [Spec Tryz.prog 34 [tc (slT l)] (ofH []) (AV.tup [TV.agg [.s (slT ((loadT l).1))], tc (i6 ((loadT l).2))]) (ofH [])] 118 [(0, vc (slT l)), (13, vp 13 0), (14, vc (i6 ((parseT name s).2))), (15, vp 15 0), (16, vc (i6 ((parseT name s).2))), (17, vp 17 0), (18, vc (i6 ((loadT l).2)))] [(13, AObj.row [.s (st (((parseT name s).1).1)), .s (st (((parseT name s).1).2.1)), .s (AL.Policy.slP (((parseT name s).1).2.2))]), (15, AObj.row [.s (st (((parseT name s).1).1)), .s (st (((parseT name s).1).2.1)), .s (AL.Policy.slP (((parseT name s).1).2.2))]), (17, AObj.row [.s (slT ((loadT l).1))])] (Load_c l (by first | omega | (have z := (over_ok hc1.1.1).1; first | omega | (have z2 := (over_ok hc1.1.1).2 _ (Lib.getD_mem tokd l i (by omega)); omega) | (have z2 := parse_rules name s; omega) | (have z2 := load_len (l := l); omega) | (simp only [List.length_append, List.length_take, List.length_cons, List.length_nil]; omega)))) ?_
   refine gS [(1, CE.call [] [] (AV.tup [tc (slT ((loadR l).1)), tc (i6 ((loadR l).2))]) [])] [Spec Tryz.prog 35 [tc (slT l)] (ofH []) (AV.tup [tc (slT ((loadR l).1)), tc (i6 ((loadR l).2))]) (ofH [])] 118 [(13, vp 13 0), (14, vc (i6 ((parseT name s).2))), (15, vp 15 0), (16, vc (i6 ((parseT name s).2))), (17, vp 17 0), (18, vc (i6 ((loadT l).2))), (19, vc (slT ((loadR l).1))), (20, vc (i6 ((loadR l).2)))] [(13, AObj.row [.s (st (((parseT name s).1).1)), .s (st (((parseT name s).1).2.1)), .s (AL.Policy.slP (((parseT name s).1).2.2))]), (15, AObj.row [.s (st (((parseT name s).1).1)), .s (st (((parseT name s).1).2.1)), .s (AL.Policy.slP (((parseT name s).1).2.2))]), (17, AObj.row [.s (slT ((loadT l).1))])] (RLoad_c l (by first | omega | (have z := (over_ok hc1.1.1).1; first | omega | (have z2 := (over_ok hc1.1.1).2 _ (Lib.getD_mem tokd l i (by omega)); omega) | (have z2 := parse_rules name s; omega) | (have z2 := load_len (l := l); omega) | (simp only [List.length_append, List.length_take, List.length_cons, List.length_nil]; omega)))) ?_
   rw [show loadR l = loadT l from load_eq l]
   refine gY [(1, CE.call [] [] (AV.t (TV.agg [.s (st (((parseT name s).1).1)), .s (st (((parseT name s).1).2.1)), .s (AL.Policy.slP (((parseT name s).1).2.2))])) []), (3, CE.call [] [] (vc (bo (decide (((parseT name s).1) = ((parseT name s).1))))) []), (12, CE.call [] [] (vc (bo true)) []), (20, CE.call [] [] (vc (bo true)) [])] [(0, [13]), (2, [15]), (10, [17])] [Spec Tryz.prog 37 [TV.agg [.s (st (((parseT name s).1).1)), .s (st (((parseT name s).1).2.1)), .s (AL.Policy.slP (((parseT name s).1).2.2))]] (ofH []) (AV.t (TV.agg [.s (st (((parseT name s).1).1)), .s (st (((parseT name s).1).2.1)), .s (AL.Policy.slP (((parseT name s).1).2.2))])) (ofH []), Spec Tryz.prog 36 [TV.agg [.s (st (((parseT name s).1).1)), .s (st (((parseT name s).1).2.1)), .s (AL.Policy.slP (((parseT name s).1).2.2))], TV.agg [.s (st (((parseT name s).1).1)), .s (st (((parseT name s).1).2.1)), .s (AL.Policy.slP (((parseT name s).1).2.2))]] (ofH []) (vc (bo (decide (((parseT name s).1) = ((parseT name s).1))))) (ofH []), ((decide (((parseT name s).1) = ((parseT name s).1))) = true) → allP [(decide (((parseT name s).1) = ((parseT name s).1))) = true, (decide (((parseT name s).1) = ((parseT name s).1))) = true], (decide (((parseT name s).1) = ((parseT name s).1))) = true → allP [(decide (((parseT name s).1) = ((parseT name s).1))) = true], (((decide (((parseT name s).1) = ((parseT name s).1))) && (decide ((parseT name s).2 = (parseT name s).2))) = true) → allP [((decide (((parseT name s).1) = ((parseT name s).1))) && (decide ((parseT name s).2 = (parseT name s).2))) = true, ((decide (((parseT name s).1) = ((parseT name s).1))) && (decide ((parseT name s).2 = (parseT name s).2))) = true, Spec Tryz.prog 22 [TV.agg [.s (slT ((loadT l).1))], tc (slT ((loadT l).1))] (ofH []) (vc (bo true)) (ofH [])], ((decide (((parseT name s).1) = ((parseT name s).1))) && (decide ((parseT name s).2 = (parseT name s).2))) = true → allP [((decide (((parseT name s).1) = ((parseT name s).1))) && (decide ((parseT name s).2 = (parseT name s).2))) = true], ((((decide (((parseT name s).1) = ((parseT name s).1))) && (decide ((parseT name s).2 = (parseT name s).2))) && true) = true) → allP [(((decide (((parseT name s).1) = ((parseT name s).1))) && (decide ((parseT name s).2 = (parseT name s).2))) && true) = true, (((decide (((parseT name s).1) = ((parseT name s).1))) && (decide ((parseT name s).2 = (parseT name s).2))) && true) = true], (((decide (((parseT name s).1) = ((parseT name s).1))) && (decide ((parseT name s).2 = (parseT name s).2))) && true) = true → allP [(((decide (((parseT name s).1) = ((parseT name s).1))) && (decide ((parseT name s).2 = (parseT name s).2))) && true) = true], (((((decide (((parseT name s).1) = ((parseT name s).1))) && (decide ((parseT name s).2 = (parseT name s).2))) && true) && (decide ((loadT l).2 = (loadT l).2))) = true) → allP [Spec Tryz.prog 10 [] (ofH []) (vc (bo true)) (ofH [])], ((((decide (((parseT name s).1) = ((parseT name s).1))) && (decide ((parseT name s).2 = (parseT name s).2))) && true) && (decide ((loadT l).2 = (loadT l).2))) = true → allP [((((decide (((parseT name s).1) = ((parseT name s).1))) && (decide ((parseT name s).2 = (parseT name s).2))) && true) && (decide ((loadT l).2 = (loadT l).2))) = true]] 118 [(6, vc (bo (((((decide (((parseT name s).1) = ((parseT name s).1))) && (decide ((parseT name s).2 = (parseT name s).2))) && true) && (decide ((loadT l).2 = (loadT l).2))) && true)))] [] mixed ⟨(Back_c ((parseT name s).1) (by first | omega | (have z := (over_ok hc1.1.1).1; first | omega | (have z2 := (over_ok hc1.1.1).2 _ (Lib.getD_mem tokd l i (by omega)); omega) | (have z2 := parse_rules name s; omega) | (have z2 := load_len (l := l); omega) | (simp only [List.length_append, List.length_take, List.length_cons, List.length_nil]; omega)))), (RSame_c ((parseT name s).1) ((parseT name s).1)), (fun hp => ⟨hp, hp⟩), (fun hp2 => (by first | exact hp2 | exact ⟨hp, hp2⟩)), (fun hp => by have hq := hp; (try simp only [xT, xF, xA, xO, xB, xP, xN, xM, Bool.not_eq_true, Bool.not_eq_false] at hq); exact ⟨hp, hp, (Like_c ((loadT l).1) (by exact load_sort l) (by first | omega | (have z := (over_ok hc1.1.1).1; first | omega | (have z2 := (over_ok hc1.1.1).2 _ (Lib.getD_mem tokd l i (by omega)); omega) | (have z2 := parse_rules name s; omega) | (have z2 := load_len (l := l); omega) | (simp only [List.length_append, List.length_take, List.length_cons, List.length_nil]; omega))) (by exact fun x hx => Nat.le_trans ((over_ok hc1.1.1).2 x (load_mem x hx)).2.2 (by decide)))⟩), (fun hp2 => (by first | exact hp2 | exact ⟨hp, hp2⟩)), (fun hp => ⟨hp, hp⟩), (fun hp2 => (by first | exact hp2 | exact ⟨hp, hp2⟩)), (fun hp => by have hq := hp; (try simp only [xT, xF, xA, xO, xB, xP, xN, xM, Bool.not_eq_true, Bool.not_eq_false] at hq); exact (awake_c)), (fun hp2 => (by first | exact hp2 | exact ⟨hp, hp2⟩))⟩ ?_
   exact gT (vc (bo (((((decide (((parseT name s).1) = ((parseT name s).1))) && (decide ((parseT name s).2 = (parseT name s).2))) && true) && (decide ((loadT l).2 = (loadT l).2))) && true))) (congrArg (fun b => vc (bo b)) (show (((((decide (((parseT name s).1) = ((parseT name s).1))) && (decide ((parseT name s).2 = (parseT name s).2))) && true) && (decide ((loadT l).2 = (loadT l).2))) && true) = true from by simp))
end AL.Token
namespace AL
open Go Go.Proofs Go.RowKit
set_option linter.unusedVariables false
theorem x8 : U8Extra Tryz.prog Tryz.lays260_ren := ⟨by kernel_rfl, by kernel_rfl, by kernel_rfl, by kernel_rfl, by kernel_rfl, by kernel_rfl, by kernel_rfl⟩
theorem acc_eq : (Go.Proofs.YtlgmdlckjinfcaaGreatDoor.Rows.laid_unicode_utf8_acceptRanges : DataW Unit) = Go.Lib.acceptData := by kernel_rfl
theorem first_eq : (Go.Proofs.YtlgmdlckjinfcaaGreatDoor.Rows.laid_unicode_utf8_first : DataW Unit) = Go.Lib.firstData := by kernel_rfl
theorem glob_of {W : World} (hT : Go.Lib.Utf8Tabs (Tryz.lays260_ren.g 3) (Tryz.lays260_ren.g 4) W) : GlobOk (Iw W) W :=
  ⟨cell_lt (hT.1 0 (by decide)), cell_lt (hT.2 0 (by decide)).1, hT⟩
end AL
