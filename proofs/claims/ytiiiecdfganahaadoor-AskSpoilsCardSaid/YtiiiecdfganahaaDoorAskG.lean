/- ask: a request is told by its line, and its line by it; plain Lean. No condition. -/
import Derived.Test.YtiiiecdfganahaaDoorAskF
namespace AL.Ask
open Go AL
open AL.Sep (splitC joinC)
open AL.Policy (RuleV textP parseP checkP)
open AL.Rows (namedS)
set_option linter.unusedVariables false
set_option linter.unusedSimpArgs false

/-! ### words have no blanks -/
theorem dig_32 {b : UInt8} (h : digB b = true) : b ≠ 32 ∧ b ≠ 44 ∧ b ≠ 45 := by
  have := digB_iff.1 h
  refine ⟨fun e => ?_, fun e => ?_, fun e => ?_⟩ <;> (subst e; revert this; decide)
theorem num_no {n : Int} (h0 : 0 ≤ n) (h1 : n ≤ 999) : (32 : UInt8) ∉ numS n ∧ (44 : UInt8) ∉ numS n := by
  have := (num_len h0 h1).2.2
  rw [List.all_eq_true] at this
  exact ⟨fun q => (dig_32 (this _ q)).1 rfl, fun q => (dig_32 (this _ q)).2.1 rfl⟩
theorem num_dash {n : Int} (h0 : 0 ≤ n) (h1 : n ≤ 999) : numS n ≠ [45] := by
  intro e
  have := (num_len h0 h1).2.2
  rw [e] at this
  exact absurd this (by decide)
theorem isH_32 {b : UInt8} (h : isH b = true) : b ≠ 32 ∧ b ≠ 45 := by
  refine ⟨fun e => ?_, fun e => ?_⟩ <;> (subst e; exact absurd h (by decide))
theorem hex_no (s : Bytes) : (32 : UInt8) ∉ hexS s ∧ hexS s ≠ [45] := by
  have := List.all_eq_true.1 (hex_all s)
  refine ⟨fun q => (isH_32 (this _ q)).1 rfl, fun e => ?_⟩
  rw [e] at this
  exact absurd (this 45 (by simp)) (by decide)
theorem hex_nil {s : Bytes} : hexS s = [] ↔ s = [] := by
  constructor
  · intro h
    have := hex_len s
    rw [h] at this
    exact List.eq_nil_of_length_eq_zero (by simp at this; omega)
  · intro h; subst h; rfl
theorem name_no {s : Bytes} (h : namedS s = true) : (32 : UInt8) ∉ s := by
  unfold namedS at h
  simp only [Bool.and_eq_true, List.all_eq_true] at h
  intro q
  have := Rows.nameB_iff.1 (h.2.2 _ q)
  revert this; decide
theorem ns_mem {l : List Int} (h : okNs l = true) : l.length ≤ 6 ∧ ∀ n ∈ l, 1 ≤ n ∧ n ≤ 999 := by
  unfold okNs withinI at h
  simp only [Bool.and_eq_true, decide_eq_true_eq, List.all_eq_true] at h
  exact h
theorem list_split {l : List Int} (h : okNs l = true) (h0 : l ≠ []) : splitC 44 (listS l) = l.map numS := by
  have hm := (ns_mem h).2
  refine Sep.split_join (fun p hp => ?_) (by simpa using h0)
  obtain ⟨n, hn, rfl⟩ := List.mem_map.1 hp
  have := hm n hn
  exact (num_no (by omega) (by omega)).2
theorem numbers_list {l : List Int} (h : okNs l = true) (h0 : l ≠ []) : numbersS (listS l) = l := by
  unfold numbersS
  rw [list_split h h0, List.map_map]
  conv => rhs; rw [← List.map_id l]
  refine List.map_congr_left fun n hn => ?_
  have := (ns_mem h).2 n hn
  exact scan_num (by omega) (by omega)
theorem list_mem {l : List Int} (h : okNs l = true) {b : UInt8} (hb : b ∈ listS l) : b = 44 ∨ digB b = true := by
  have key : ∀ (m : List Int), (∀ n ∈ m, 1 ≤ n ∧ n ≤ 999) → b ∈ joinC 44 (m.map numS) → b = 44 ∨ digB b = true := by
    intro m
    induction m with
    | nil => intro _ hb; cases hb
    | cons n m ih =>
      intro hm hb
      have hn := hm n (by simp)
      have hd := List.all_eq_true.1 (num_len (n := n) (by omega) (by omega)).2.2
      cases m with
      | nil => exact .inr (hd _ hb)
      | cons k m =>
        have hb : b ∈ numS n ++ 44 :: joinC 44 ((k :: m).map numS) := hb
        rcases List.mem_append.1 hb with hb | hb
        · exact .inr (hd _ hb)
        · rcases List.mem_cons.1 hb with hb | hb
          · exact .inl hb
          · exact ih (fun x hx => hm x (List.mem_cons_of_mem _ hx)) hb
  exact key l (ns_mem h).2 hb
theorem list_no {l : List Int} (h : okNs l = true) : (32 : UInt8) ∉ listS l ∧ listS l ≠ [45] := by
  refine ⟨fun q => ?_, fun e => ?_⟩
  · rcases list_mem h q with q | q
    · exact absurd q (by decide)
    · exact absurd q (by decide)
  · rcases list_mem (b := 45) h (by rw [e]; simp) with q | q
    · exact absurd q (by decide)
    · exact absurd q (by decide)
theorem list_nil {l : List Int} (h : okNs l = true) : listS l = [] ↔ l = [] := by
  constructor
  · intro e
    cases l with
    | nil => rfl
    | cons n l =>
      have hn := (ns_mem h).2 n (by simp)
      have := (num_len (n := n) (by omega) (by omega)).1
      cases l with
      | nil => exact absurd e this
      | cons k l =>
        have e : numS n ++ 44 :: joinC 44 ((k :: l).map numS) = [] := e
        simp at e
  · intro e; subst e; rfl
theorem list_numbers {s : Bytes} (h : okNs (numbersS s) = true) : listS (numbersS s) = s := by
  have hm := (ns_mem h).2
  unfold listS
  have : (numbersS s).map numS = splitC 44 s := by
    unfold numbersS at *
    rw [List.map_map]
    conv => rhs; rw [← List.map_id (splitC 44 s)]
    refine List.map_congr_left fun p hp => ?_
    have := hm (scanN p) (List.mem_map_of_mem hp)
    exact (num_scan (by omega)).1
  rw [this, Sep.join_split]
theorem rules_no (l : List RuleV) : (32 : UInt8) ∉ (textP l).1 ∧ (textP l).1 ≠ [45] := by
  by_cases h : checkP l = 0
  · rw [Policy.text_ok h]
    have hm := (Policy.check_may.1 h).2.1
    have key : ∀ (b : UInt8), (b = 32 ∨ b = 45) → ∀ (m : List RuleV), (∀ x ∈ m, Policy.OkP x) → b = 32 ∨ True → b ∈ joinC 44 (m.map Policy.pieceS) → ∃ x ∈ m, b ∈ x.1 := by
      intro b hb m
      induction m with
      | nil => intro _ _ q; cases q
      | cons x m ih =>
        intro hm _ q
        have one : b ∈ Policy.pieceS x → b ∈ x.1 := by
          intro q
          unfold Policy.pieceS at q
          rcases List.mem_append.1 q with q | q
          · rcases List.mem_append.1 q with q | q
            · exact q
            · rw [List.mem_singleton.1 q] at hb; exact absurd hb (by decide)
          · obtain ⟨j, hj, e⟩ := Policy.lays_mem q
            have : ∀ j, j < 6 → List.getD Policy.lets j 0 ≠ 32 ∧ List.getD Policy.lets j 0 ≠ 45 := by decide
            rcases hb with hb | hb
            · exact absurd (e.symm.trans hb) (this j hj).1
            · exact absurd (e.symm.trans hb) (this j hj).2
        cases m with
        | nil => exact ⟨x, by simp, one q⟩
        | cons y m =>
          have q : b ∈ Policy.pieceS x ++ 44 :: joinC 44 ((y :: m).map Policy.pieceS) := q
          rcases List.mem_append.1 q with q | q
          · exact ⟨x, by simp, one q⟩
          · rcases List.mem_cons.1 q with q | q
            · rw [q] at hb; exact absurd hb (by decide)
            · obtain ⟨z, hz, e⟩ := ih (fun w hw => hm w (List.mem_cons_of_mem _ hw)) (.inr trivial) q
              exact ⟨z, List.mem_cons_of_mem _ hz, e⟩
    refine ⟨fun q => ?_, fun e => ?_⟩
    · obtain ⟨x, hx, q⟩ := key 32 (.inl rfl) l hm (.inr trivial) q
      exact (Policy.path_no (hm x hx).1).2.2 q
    · -- a text of rules has a sign that is no dash
      have e : joinC 44 (l.map Policy.pieceS) = [45] := e
      cases l with
      | nil => cases e
      | cons x l =>
        have : (58 : UInt8) ∈ joinC 44 ((x :: l).map Policy.pieceS) := by
          have h58 : (58 : UInt8) ∈ Policy.pieceS x := by unfold Policy.pieceS; simp
          cases l with
          | nil => exact h58
          | cons y l => show _ ∈ Policy.pieceS x ++ 44 :: _; exact List.mem_append_left _ h58
        rw [e] at this
        exact absurd this (by decide)
  · rw [Policy.text_no h]; exact ⟨by simp, by simp⟩
theorem rules_nil {l : List RuleV} (h : checkP l = 0) : (textP l).1 = [] ↔ l = [] := by
  rw [Policy.text_ok h]
  constructor
  · intro e
    apply Classical.byContradiction
    intro hn
    exact Policy.text_ne hn e
  · intro e; subst e; rfl
theorem orN_no {s : Bytes} (h : (32 : UInt8) ∉ s) : (32 : UInt8) ∉ orN s := by
  unfold orN
  split
  · decide
  · exact h
theorem lay_no {a : AskV} {c : Int} (h : LetI c) (hf : fieldS a c = 0) : (32 : UInt8) ∉ layA a c := by
  rcases h with h | h | h | h | h | h | h | h | h | h | h <;> subst h
  · exact name_no (fine_0.1 hf)
  · exact (Policy.path_no (.inr hf)).2.2
  · exact name_no (fine_0.1 hf)
  · exact (Policy.path_no (.inr hf)).2.2
  · have := fine_0.1 hf
    unfold withinI at this
    simp only [Bool.and_eq_true, decide_eq_true_eq] at this
    exact (num_no this.1 this.2).1
  · have := fine_0.1 hf
    unfold withinI at this
    simp only [Bool.and_eq_true, decide_eq_true_eq] at this
    show _ ∉ if a.cas = -1 then _ else _
    split
    · decide
    · exact (num_no (by omega) this.2).1
  · show _ ∉ if a.flag = true then _ else _
    split <;> decide
  · exact orN_no (list_no (fine_0.1 hf)).1
  · exact orN_no (hex_no _).1
  · exact orN_no (rules_no _).1
  · exact (hex_no _).1

/-! ### what is laid is read -/
theorem read_lay {a b : AskV} {c : Int} (h : LetI c) (hf : fieldS a c = 0) (hz : withoutS b c = b) (hr : ∀ x ∈ a.rules, 0 ≤ x.2) : readA b c (layA a c) = (setA b a c, 0) := by
  rcases h with h | h | h | h | h | h | h | h | h | h | h <;> subst h
  · exact Prod.ext rfl hf
  · exact Prod.ext rfl hf
  · exact Prod.ext rfl hf
  · exact Prod.ext rfl hf
  · have hw := fine_0.1 hf
    unfold withinI at hw
    simp only [Bool.and_eq_true, decide_eq_true_eq] at hw
    show (({ b with n := scanN (numS a.n) } : AskV), fineS (withinI (scanN (numS a.n)) 0 999)) = _
    rw [scan_num hw.1 hw.2]
    exact Prod.ext rfl hf
  · have hw := fine_0.1 hf
    unfold withinI at hw
    simp only [Bool.and_eq_true, decide_eq_true_eq] at hw
    show (if (if a.cas = -1 then ([45] : Bytes) else numS a.cas) = [45] then (({ b with cas := -1 } : AskV), (0 : Int)) else ({ b with cas := scanN (if a.cas = -1 then ([45] : Bytes) else numS a.cas) }, fineS (decide (0 ≤ scanN (if a.cas = -1 then ([45] : Bytes) else numS a.cas))))) = _
    by_cases e : a.cas = -1
    · rw [if_pos e, if_pos rfl]
      show _ = (({ b with cas := a.cas } : AskV), (0 : Int))
      rw [e]
    · rw [if_neg e, if_neg (num_dash (by omega) hw.2), scan_num (by omega) hw.2, decide_eq_true (by omega)]
      rfl
  · show (({ b with flag := decide ((if a.flag = true then ([49] : Bytes) else [48]) = [49]) } : AskV), fineS (decide ((if a.flag = true then ([49] : Bytes) else [48]) = [49]) || decide ((if a.flag = true then ([49] : Bytes) else [48]) = [48]))) = (({ b with flag := a.flag } : AskV), (0 : Int))
    cases a.flag <;> rfl
  · have hw := fine_0.1 hf
    have hb : b.ns = [] := congrArg AskV.ns hz.symm
    show (if orN (listS a.ns) = [45] then (b, fineS (okNs b.ns)) else (({ b with ns := numbersS (orN (listS a.ns)) } : AskV), fineS (okNs (numbersS (orN (listS a.ns)))))) = (({ b with ns := a.ns } : AskV), (0 : Int))
    by_cases e : a.ns = []
    · have : listS a.ns = [] := by rw [e]; rfl
      rw [this, if_pos (show orN [] = [45] from rfl), e]
      refine Prod.ext ?_ (by rw [hb]; rfl)
      show b = { b with ns := [] }
      rw [← hb]
    · have h1 : ¬ listS a.ns = [] := fun q => e ((list_nil hw).1 q)
      have h2 : orN (listS a.ns) = listS a.ns := if_neg h1
      rw [h2, if_neg (list_no hw).2, numbers_list hw e, hw]
      rfl
  · have hb : b.data = [] := congrArg AskV.data hz.symm
    show (if orN (hexS a.data) = [45] then (b, (0 : Int)) else (({ b with data := (unhexS (orN (hexS a.data))).1 } : AskV), fineS ((unhexS (orN (hexS a.data))).2 && !decide (orN (hexS a.data) = [])))) = (({ b with data := a.data } : AskV), (0 : Int))
    by_cases e : a.data = []
    · rw [e]
      show (b, (0 : Int)) = _
      refine Prod.ext ?_ rfl
      show b = { b with data := [] }
      rw [← hb]
    · have h1 : ¬ hexS a.data = [] := fun q => e (hex_nil.1 q)
      have h2 : orN (hexS a.data) = hexS a.data := if_neg h1
      rw [h2, if_neg (hex_no _).2, unhex_hex, decide_eq_false h1]
      rfl
  · have hb : b.rules = [] := congrArg AskV.rules hz.symm
    show (if orN (textP a.rules).1 = [45] then (b, (0 : Int)) else if orN (textP a.rules).1 = [] then (b, 4) else (({ b with rules := (parseP (orN (textP a.rules).1)).1 } : AskV), (parseP (orN (textP a.rules).1)).2)) = (({ b with rules := a.rules } : AskV), (0 : Int))
    by_cases e : a.rules = []
    · rw [e]
      show (b, (0 : Int)) = _
      refine Prod.ext ?_ rfl
      show b = { b with rules := [] }
      rw [← hb]
    · have hf' : checkP a.rules = 0 := hf
      have h1 : ¬ (textP a.rules).1 = [] := fun q => e ((rules_nil hf').1 q)
      have h2 : orN (textP a.rules).1 = (textP a.rules).1 := if_neg h1
      rw [h2, if_neg (rules_no _).2, if_neg h1, Policy.parse_textP (by rw [Policy.text_ok hf']) hr]
  · have hw := fine_0.1 hf
    show (({ b with key := (unhexS (hexS a.key)).1 } : AskV), fineS ((unhexS (hexS a.key)).2 && decide ((unhexS (hexS a.key)).1.length = 16))) = (({ b with key := a.key } : AskV), (0 : Int))
    rw [unhex_hex]
    show (({ b with key := a.key } : AskV), fineS (true && decide (a.key.length = 16))) = _
    rw [hw]; rfl
/-- What is read is laid. -/
theorem lay_read {b : AskV} {c : Int} {w : Bytes} (h : LetI c) (hz : withoutS b c = b) (hr : (readA b c w).2 = 0) : layA (readA b c w).1 c = w ∧ fieldS (readA b c w).1 c = 0 ∧ setA b (readA b c w).1 c = (readA b c w).1 ∧ ((∀ x ∈ b.rules, 0 ≤ x.2) → ∀ x ∈ (readA b c w).1.rules, 0 ≤ x.2) := by
  rcases h with h | h | h | h | h | h | h | h | h | h | h <;> subst h
  · exact ⟨rfl, hr, rfl, fun q => q⟩
  · exact ⟨rfl, hr, rfl, fun q => q⟩
  · exact ⟨rfl, hr, rfl, fun q => q⟩
  · exact ⟨rfl, hr, rfl, fun q => q⟩
  · have hw := fine_0.1 (show fineS (withinI (scanN w) 0 999) = 0 from hr)
    unfold withinI at hw
    simp only [Bool.and_eq_true, decide_eq_true_eq] at hw
    exact ⟨(num_scan hw.1).1, hr, rfl, fun q => q⟩
  · by_cases e : w = [45]
    · subst e
      exact ⟨rfl, rfl, rfl, fun q => q⟩
    · have e2 : readA b 99 w = ({ b with cas := scanN w }, fineS (decide (0 ≤ scanN w))) := if_neg e
      rw [e2] at hr ⊢
      have hw := of_decide_eq_true (fine_0.1 hr)
      have hs := num_scan hw
      refine ⟨?_, ?_, rfl, fun q => q⟩
      · show (if scanN w = -1 then _ else numS (scanN w)) = w
        rw [if_neg (by omega)]; exact hs.1
      · show fineS (withinI (scanN w) (-1) 999) = 0
        refine fine_0.2 ?_
        unfold withinI
        rw [decide_eq_true (by omega), decide_eq_true (by omega)]; rfl
  · have hw := fine_0.1 (show fineS (decide (w = [49]) || decide (w = [48])) = 0 from hr)
    simp only [Bool.or_eq_true, decide_eq_true_eq] at hw
    rcases hw with e | e <;> subst e <;> exact ⟨rfl, rfl, rfl, fun q => q⟩
  · have hb : b.ns = [] := congrArg AskV.ns hz.symm
    by_cases e : w = [45]
    · subst e
      refine ⟨?_, ?_, rfl, fun q => q⟩
      · show orN (listS b.ns) = [45]
        rw [hb]; rfl
      · show fineS (okNs b.ns) = 0
        rw [hb]; rfl
    · have e2 : readA b 108 w = ({ b with ns := numbersS w }, fineS (okNs (numbersS w))) := if_neg e
      rw [e2] at hr ⊢
      have hw := fine_0.1 hr
      refine ⟨?_, hr, rfl, fun q => q⟩
      show orN (listS (numbersS w)) = w
      have h1 : numbersS w ≠ [] := by
        unfold numbersS
        intro q
        exact Sep.split_ne 44 w (List.map_eq_nil_iff.1 q)
      have h2 : ¬ listS (numbersS w) = [] := fun q => h1 ((list_nil hw).1 q)
      rw [show orN (listS (numbersS w)) = listS (numbersS w) from if_neg h2]
      exact list_numbers hw
  · have hb : b.data = [] := congrArg AskV.data hz.symm
    by_cases e : w = [45]
    · subst e
      refine ⟨?_, rfl, rfl, fun q => q⟩
      show orN (hexS b.data) = [45]
      rw [hb]; rfl
    · have e2 : readA b 100 w = ({ b with data := (unhexS w).1 }, fineS ((unhexS w).2 && !decide (w = []))) := if_neg e
      rw [e2] at hr ⊢
      have hw := fine_0.1 hr
      simp only [Bool.and_eq_true, Bool.not_eq_true', decide_eq_false_iff_not] at hw
      refine ⟨?_, rfl, rfl, fun q => q⟩
      show orN (hexS (unhexS w).1) = w
      rw [hex_unhex hw.1]
      exact if_neg hw.2
  · have hb : b.rules = [] := congrArg AskV.rules hz.symm
    by_cases e : w = [45]
    · subst e
      refine ⟨?_, ?_, rfl, fun q => q⟩
      · show orN (textP b.rules).1 = [45]
        rw [hb]; rfl
      · show checkP b.rules = 0
        rw [hb]; rfl
    · by_cases e0 : w = []
      · subst e0; exact absurd (show (4 : Int) = 0 from hr) (by decide)
      · have e2 : readA b 114 w = ({ b with rules := (parseP w).1 }, (parseP w).2) := by
          show (if w = [45] then _ else if w = [] then _ else _) = _
          rw [if_neg e, if_neg e0]
        rw [e2] at hr ⊢
        obtain ⟨h1, h2, h3⟩ := Policy.text_parse (s := w) hr
        refine ⟨?_, h2, rfl, fun _ => h3⟩
        show orN (textP (parseP w).1).1 = w
        rw [h1]
        exact if_neg e0
  · have hw := fine_0.1 (show fineS ((unhexS w).2 && decide ((unhexS w).1.length = 16)) = 0 from hr)
    simp only [Bool.and_eq_true] at hw
    refine ⟨hex_unhex hw.1, ?_, rfl, fun q => q⟩
    show fineS (decide ((unhexS w).1.length = 16)) = 0
    rw [hw.2]; rfl
end AL.Ask
