/- ask: whole requests, in plain Lean. No condition. -/
import Derived.Test.YtiiiecdfganahaaDoorAskG
namespace AL.Ask
open Go AL
open AL.Sep (splitC joinC)
open AL.Policy (RuleV textP parseP checkP)
open AL.Rows (namedS)
set_option linter.unusedVariables false
set_option linter.unusedSimpArgs false

def fieldsC (a : AskV) : Bytes → Int
  | [] => 0
  | c :: l => if fieldS a (c.toNat : Int) = 0 then fieldsC a l else fieldS a (c.toNat : Int)
def bareF (a : AskV) (l : Bytes) : AskV := l.foldl (fun x c => withoutS x (c.toNat : Int)) { a with op := 0 }
def lineF (a : AskV) (l : Bytes) : Bytes := wordS a.op ++ l.flatMap fun c => 32 :: layA a (c.toNat : Int)
def lineA (a : AskV) : Bytes := lineF a (kindS a.op)
def checkA (a : AskV) : Int :=
  if wordS a.op = [] then 22 else if ¬ fieldsC a (kindS a.op) = 0 then fieldsC a (kindS a.op) else if ¬ bareF a (kindS a.op) = askd then 2 else if 400 < (lineA a).length then 5 else 0
def textA (a : AskV) : Bytes × Int := if checkA a = 0 then (lineA a, 0) else ([], checkA a)
def readsA : AskV → Bytes → List Bytes → AskV × Int
  | a, [], _ => (a, 0)
  | a, c :: l, ws => if (readA a (c.toNat : Int) (List.getD ws 0 [])).2 = 0 then readsA (readA a (c.toNat : Int) (List.getD ws 0 [])).1 l (ws.drop 1) else (askd, (readA a (c.toNat : Int) (List.getD ws 0 [])).2)
def parseA (s : Bytes) : AskV × Int :=
  if 400 < s.length then (askd, 5) else if opS (List.getD (splitC 32 s) 0 []) = 0 then (askd, 22) else
  if ¬ (splitC 32 s).length = 1 + (kindS (opS (List.getD (splitC 32 s) 0 []))).length then (askd, 4) else
  readsA { askd with op := opS (List.getD (splitC 32 s) 0 []) } (kindS (opS (List.getD (splitC 32 s) 0 []))) ((splitC 32 s).drop 1)

/-! ### loops -/
def FieldsAt (a : AskV) (l : Bytes) (k : Nat) : Prop := fieldsC a l = fieldsC a (List.drop k l)
theorem fields_0 (a : AskV) (l : Bytes) : FieldsAt a l 0 := by unfold FieldsAt; rw [List.drop_zero]
theorem fields_step {a : AskV} {l : Bytes} {k : Nat} (h : k < l.length) (hN : FieldsAt a l k) (h0 : fieldS a ((List.getD l k 0).toNat : Int) = 0) : FieldsAt a l (k + 1) := by
  unfold FieldsAt at *
  rw [hN, Lib.drop_cons 0 l k h]
  exact if_pos h0
theorem fields_bad {a : AskV} {l : Bytes} {k : Nat} (h : k < l.length) (hN : FieldsAt a l k) (h0 : ¬ fieldS a ((List.getD l k 0).toNat : Int) = 0) : fieldsC a l = fieldS a ((List.getD l k 0).toNat : Int) := by
  unfold FieldsAt at hN
  rw [hN, Lib.drop_cons 0 l k h]
  exact if_neg h0
theorem fields_end {a : AskV} {l : Bytes} {k : Nat} (h : l.length ≤ k) (hN : FieldsAt a l k) : fieldsC a l = 0 := by
  unfold FieldsAt at hN
  rw [hN, List.drop_of_length_le h]; rfl
theorem fields_all {a : AskV} : ∀ {l : Bytes}, fieldsC a l = 0 → ∀ c ∈ l, fieldS a (c.toNat : Int) = 0
  | [], _, c, hc => by cases hc
  | d :: l, h, c, hc => by
    have h : (if fieldS a (d.toNat : Int) = 0 then fieldsC a l else fieldS a (d.toNat : Int)) = 0 := h
    by_cases e : fieldS a (d.toNat : Int) = 0
    · rw [if_pos e] at h
      rcases List.mem_cons.1 hc with rfl | hc
      · exact e
      · exact fields_all h c hc
    · rw [if_neg e] at h; exact absurd h e
theorem fields_of {a : AskV} : ∀ {l : Bytes}, (∀ c ∈ l, fieldS a (c.toNat : Int) = 0) → fieldsC a l = 0
  | [], _ => rfl
  | d :: l, h => by
    show (if fieldS a (d.toNat : Int) = 0 then fieldsC a l else fieldS a (d.toNat : Int)) = 0
    rw [if_pos (h d (by simp))]
    exact fields_of fun c hc => h c (List.mem_cons_of_mem _ hc)
theorem bare_step (a : AskV) (l : Bytes) (k : Nat) (h : k < l.length) : withoutS (bareF a (List.take k l)) ((List.getD l k 0).toNat : Int) = bareF a (List.take (k + 1) l) := by
  unfold bareF
  rw [Lib.take_succ 0 l k h, List.foldl_append]; rfl
theorem line_step (a : AskV) (l : Bytes) (k : Nat) (h : k < l.length) : lineF a (List.take k l) ++ ([32] ++ layA a ((List.getD l k 0).toNat : Int)) = lineF a (List.take (k + 1) l) := by
  unfold lineF
  rw [Lib.take_succ 0 l k h, List.flatMap_append, List.flatMap_cons, List.flatMap_nil, List.append_nil, List.append_assoc]; rfl
theorem line_0 (a : AskV) (l : Bytes) : lineF a (List.take 0 l) = wordS a.op := by unfold lineF; rw [List.take_zero, List.flatMap_nil, List.append_nil]
def ReadAt (a0 : AskV) (l : Bytes) (ws : List Bytes) (k : Nat) (a : AskV) : Prop := readsA a0 l ws = readsA a (List.drop k l) (List.drop k ws)
theorem readat_0 (a0 : AskV) (l : Bytes) (ws : List Bytes) : ReadAt a0 l ws 0 a0 := by unfold ReadAt; rw [List.drop_zero, List.drop_zero]
theorem getD_drop0 (ws : List Bytes) (k : Nat) : List.getD (List.drop k ws) 0 [] = List.getD ws k [] := by
  rw [List.getD_eq_getElem?_getD, List.getElem?_drop, List.getD_eq_getElem?_getD]; rfl
theorem readat_step {a0 a : AskV} {l : Bytes} {ws : List Bytes} {k : Nat} (h : k < l.length) (hN : ReadAt a0 l ws k a) (h0 : (readA a ((List.getD l k 0).toNat : Int) (List.getD ws k [])).2 = 0) : ReadAt a0 l ws (k + 1) (readA a ((List.getD l k 0).toNat : Int) (List.getD ws k [])).1 := by
  unfold ReadAt at *
  rw [hN, Lib.drop_cons 0 l k h]
  show (if (readA a _ (List.getD (List.drop k ws) 0 [])).2 = 0 then _ else _) = _
  rw [getD_drop0, if_pos h0, List.drop_drop]
theorem readat_bad {a0 a : AskV} {l : Bytes} {ws : List Bytes} {k : Nat} (h : k < l.length) (hN : ReadAt a0 l ws k a) (h0 : ¬ (readA a ((List.getD l k 0).toNat : Int) (List.getD ws k [])).2 = 0) : readsA a0 l ws = (askd, (readA a ((List.getD l k 0).toNat : Int) (List.getD ws k [])).2) := by
  unfold ReadAt at hN
  rw [hN, Lib.drop_cons 0 l k h]
  show (if (readA a _ (List.getD (List.drop k ws) 0 [])).2 = 0 then _ else _) = _
  rw [getD_drop0, if_neg h0]
theorem readat_end {a0 a : AskV} {l : Bytes} {ws : List Bytes} {k : Nat} (h : l.length ≤ k) (hN : ReadAt a0 l ws k a) : readsA a0 l ws = (a, 0) := by
  unfold ReadAt at hN
  rw [hN, List.drop_of_length_le h]; rfl

/-! ### letters, one by one -/
theorem apart_symm {c d : Int} (h : Apart c d) : Apart d c := by unfold Apart at *; omega
theorem fold_apart {a b : AskV} {c : Int} (hc : LetI c) : ∀ (l : Bytes) (x : AskV), (∀ d ∈ l, LetI (d.toNat : Int) ∧ Apart c (d.toNat : Int)) → setA b (l.foldl (fun y d => setA y a (d.toNat : Int)) x) c = setA b x c
  | [], x, _ => rfl
  | d :: l, x, h => by
    have hd := h d (by simp)
    show setA b (l.foldl _ (setA x a (d.toNat : Int))) c = _
    rw [fold_apart hc l _ fun e he => h e (List.mem_cons_of_mem _ he), set_apart b a x hc hd.1 hd.2]
theorem reads_lay {a : AskV} (hr : ∀ x ∈ a.rules, 0 ≤ x.2) : ∀ (l : Bytes) (b : AskV), (l.Pairwise fun c d => Apart (c.toNat : Int) (d.toNat : Int)) → (∀ c ∈ l, LetI (c.toNat : Int)) → (∀ c ∈ l, fieldS a (c.toNat : Int) = 0) → (∀ c ∈ l, withoutS b (c.toNat : Int) = b) →
    readsA b l (l.map fun c => layA a (c.toNat : Int)) = (l.foldl (fun y d => setA y a (d.toNat : Int)) b, 0)
  | [], b, _, _, _, _ => rfl
  | c :: l, b, hp, hl, hf, hz => by
    rw [List.pairwise_cons] at hp
    have h1 := read_lay (hl c (by simp)) (hf c (by simp)) (hz c (by simp)) hr
    show (if (readA b (c.toNat : Int) (layA a (c.toNat : Int))).2 = 0 then readsA (readA b (c.toNat : Int) (layA a (c.toNat : Int))).1 l (l.map fun c => layA a (c.toNat : Int)) else _) = _
    rw [h1, if_pos rfl]
    exact reads_lay hr l _ hp.2 (fun d hd => hl d (List.mem_cons_of_mem _ hd)) (fun d hd => hf d (List.mem_cons_of_mem _ hd)) fun d hd =>
      without_apart a b (hl d (List.mem_cons_of_mem _ hd)) (hl c (by simp)) (apart_symm (hp.1 d hd)) (hz d (List.mem_cons_of_mem _ hd))
theorem lay_reads : ∀ (l : Bytes) (b : AskV) (ws : List Bytes), (l.Pairwise fun c d => Apart (c.toNat : Int) (d.toNat : Int)) → (∀ c ∈ l, LetI (c.toNat : Int)) → (∀ c ∈ l, withoutS b (c.toNat : Int) = b) → ws.length = l.length → (∀ x ∈ b.rules, 0 ≤ x.2) → (readsA b l ws).2 = 0 →
    (∀ c ∈ l, fieldS (readsA b l ws).1 (c.toNat : Int) = 0) ∧ (l.map fun c => layA (readsA b l ws).1 (c.toNat : Int)) = ws ∧ l.foldl (fun y d => setA y (readsA b l ws).1 (d.toNat : Int)) b = (readsA b l ws).1 ∧ ∀ x ∈ (readsA b l ws).1.rules, 0 ≤ x.2
  | [], b, ws, _, _, _, hw, hb, _ => ⟨fun c hc => (by cases hc), (List.eq_nil_of_length_eq_zero hw).symm, rfl, hb⟩
  | c :: l, b, [], _, _, _, hw, _, _ => by simp at hw
  | c :: l, b, w :: ws, hp, hl, hz, hw, hb, h => by
    rw [List.pairwise_cons] at hp
    have hc := hl c (by simp)
    by_cases h0 : (readA b (c.toNat : Int) w).2 = 0
    · have e : readsA b (c :: l) (w :: ws) = readsA (readA b (c.toNat : Int) w).1 l ws := if_pos h0
      rw [e] at h ⊢
      obtain ⟨r1, r2, r3, r4⟩ := lay_read hc (hz c (by simp)) h0
      generalize hb1 : (readA b (c.toNat : Int) w).1 = b1 at *
      have hz1 : ∀ d ∈ l, withoutS b1 (d.toNat : Int) = b1 := fun d hd => by
        have := without_apart b1 b (hl d (List.mem_cons_of_mem _ hd)) hc (apart_symm (hp.1 d hd)) (hz d (List.mem_cons_of_mem _ hd))
        rwa [r3] at this
      obtain ⟨i1, i2, i3, i4⟩ := lay_reads l b1 ws hp.2 (fun d hd => hl d (List.mem_cons_of_mem _ hd)) hz1 (by simpa using hw) (r4 hb) h
      generalize (readsA b1 l ws).1 = a at *
      have hs : setA b a (c.toNat : Int) = b1 := by
        rw [← i3, fold_apart hc l b1 fun d hd => ⟨hl d (List.mem_cons_of_mem _ hd), hp.1 d hd⟩]
        exact r3
      have hf := field_set b a hc
      rw [hs] at hf
      refine ⟨fun d hd => ?_, ?_, ?_, i4⟩
      · rcases List.mem_cons.1 hd with rfl | hd
        · rw [← hf.1]; exact r2
        · exact i1 d hd
      · rw [List.map_cons, i2, ← hf.2, r1]
      · show l.foldl _ (setA b a (c.toNat : Int)) = a
        rw [hs]; exact i3
    · have e : readsA b (c :: l) (w :: ws) = (askd, (readA b (c.toNat : Int) w).2) := if_neg h0
      rw [e] at h; exact absurd h h0
theorem reads_bad : ∀ (l : Bytes) (b : AskV) (ws : List Bytes), ¬ (readsA b l ws).2 = 0 → (readsA b l ws).1 = askd
  | [], b, ws, h => absurd rfl h
  | c :: l, b, ws, h => by
    by_cases h0 : (readA b (c.toNat : Int) (List.getD ws 0 [])).2 = 0
    · have e : readsA b (c :: l) ws = readsA (readA b (c.toNat : Int) (List.getD ws 0 [])).1 l (ws.drop 1) := if_pos h0
      rw [e] at h ⊢
      exact reads_bad l _ _ h
    · have e : readsA b (c :: l) ws = (askd, (readA b (c.toNat : Int) (List.getD ws 0 [])).2) := if_neg h0
      rw [e]

/-! ### fields that a form has no word for -/
theorem bare_set : ∀ L ∈ kindsL, ∀ a : AskV, bareF a L = askd → L.foldl (fun y d => setA y a (d.toNat : Int)) { askd with op := a.op } = a := by
  intro L hL a h
  obtain ⟨a1, a2, a3, a4, a5, a6, a7, a8, a9, a10, a11⟩ := a
  unfold kindsL at hL
  simp only [List.mem_cons, List.not_mem_nil, or_false] at hL
  rcases hL with rfl | rfl | rfl | rfl | rfl | rfl | rfl | rfl | rfl | rfl | rfl | rfl | rfl | rfl | rfl | rfl | rfl | rfl | rfl <;>
    (simp only [bareF, List.foldl_cons, List.foldl_nil] at h ⊢
     have h := (AskV.eq_iff _ _).1 h
     rw [AskV.eq_iff]
     simp [withoutS, setA, askd] at h ⊢
     simp_all)
theorem set_bare : ∀ L ∈ kindsL, ∀ (a : AskV) (op : Int), L.foldl (fun y d => setA y a (d.toNat : Int)) { askd with op := op } = a → bareF a L = askd := by
  intro L hL a op h
  rw [← h]
  unfold kindsL at hL
  simp only [List.mem_cons, List.not_mem_nil, or_false] at hL
  rcases hL with rfl | rfl | rfl | rfl | rfl | rfl | rfl | rfl | rfl | rfl | rfl | rfl | rfl | rfl | rfl | rfl | rfl | rfl | rfl <;> rfl
theorem fold_op (a : AskV) : ∀ (l : Bytes) (b : AskV), (l.foldl (fun y d => setA y a (d.toNat : Int)) b).op = b.op
  | [], b => rfl
  | d :: l, b => by
    show (l.foldl _ (setA b a (d.toNat : Int))).op = _
    rw [fold_op a l, set_op]
theorem kind_in {op : Int} (h1 : 1 ≤ op) (h2 : op ≤ 18) : kindS op ∈ kindsL := Lib.getD_mem [] _ _ (by rw [words_len.2]; omega)
theorem zero_op {op c : Int} (h : LetI c) : withoutS { askd with op := op } c = { askd with op := op } := by
  rcases h with h | h | h | h | h | h | h | h | h | h | h <;> subst h <;> rfl

/-! ### lines -/
theorem join_cons (c : UInt8) (p : Bytes) : ∀ (l : List Bytes), joinC c (p :: l) = p ++ l.flatMap fun q => c :: q
  | [] => by simp [joinC]
  | q :: l => by
    show p ++ c :: joinC c (q :: l) = _
    rw [join_cons c q l, List.flatMap_cons]; rfl
theorem line_join (a : AskV) (l : Bytes) : lineF a l = joinC 32 (wordS a.op :: l.map fun c => layA a (c.toNat : Int)) := by
  rw [join_cons, List.flatMap_map]; rfl
theorem word_no (op : Int) : (32 : UInt8) ∉ wordS op := by
  have key : ∀ w ∈ wordsL, (32 : UInt8) ∉ w := by decide
  by_cases h : wordS op = []
  · rw [h]; simp
  · exact key _ (getD_in h)
theorem line_split {a : AskV} (h : fieldsC a (kindS a.op) = 0) : splitC 32 (lineA a) = wordS a.op :: (kindS a.op).map fun c => layA a (c.toNat : Int) := by
  unfold lineA
  rw [line_join]
  refine Sep.split_join (fun p hp => ?_) (by simp)
  rcases List.mem_cons.1 hp with rfl | hp
  · exact word_no _
  · obtain ⟨c, hc, rfl⟩ := List.mem_map.1 hp
    exact lay_no ((kind_let _).1 c hc) (fields_all h c hc)
theorem check_ok {a : AskV} (h : checkA a = 0) : (1 ≤ a.op ∧ a.op ≤ 18) ∧ fieldsC a (kindS a.op) = 0 ∧ bareF a (kindS a.op) = askd ∧ (lineA a).length ≤ 400 := by
  unfold checkA at h
  split at h
  · omega
  · rename_i q1
    split at h
    · rename_i q2; exact absurd h q2
    · rename_i q2
      split at h
      · omega
      · rename_i q3
        split at h
        · omega
        · have q4 : ¬ (a.op < 1 ∨ 18 < a.op) := fun z => q1 (word_nil.2 z)
          exact ⟨by omega, Decidable.of_not_not q2, Decidable.of_not_not q3, by omega⟩
theorem check_of {a : AskV} (h1 : 1 ≤ a.op ∧ a.op ≤ 18) (h2 : fieldsC a (kindS a.op) = 0) (h3 : bareF a (kindS a.op) = askd) (h4 : (lineA a).length ≤ 400) : checkA a = 0 := by
  unfold checkA
  rw [if_neg (fun q => by have := word_nil.1 q; omega), if_neg (fun q => q h2), if_neg (fun q => q h3), if_neg (by omega)]
theorem text_ok {a : AskV} (h : checkA a = 0) : textA a = (lineA a, 0) := if_pos h
theorem text_no {a : AskV} (h : ¬ checkA a = 0) : textA a = ([], checkA a) := if_neg h
theorem text_may {a : AskV} (h : (textA a).2 = 0) : checkA a = 0 := by
  apply Classical.byContradiction
  intro hn
  rw [text_no hn] at h
  exact hn h
/-- A request that may be is told by its line. -/
theorem parse_line {a : AskV} (h : checkA a = 0) (hr : ∀ x ∈ a.rules, 0 ≤ x.2) : parseA (lineA a) = (a, 0) := by
  obtain ⟨h1, h2, h3, h4⟩ := check_ok h
  have hs := line_split h2
  have hk := kind_let a.op
  unfold parseA
  rw [if_neg (by omega), hs]
  show (if opS (wordS a.op) = 0 then (askd, (22 : Int)) else if ¬ (wordS a.op :: (kindS a.op).map fun c => layA a (c.toNat : Int)).length = 1 + (kindS (opS (wordS a.op))).length then (askd, 4) else readsA { askd with op := opS (wordS a.op) } (kindS (opS (wordS a.op))) ((kindS a.op).map fun c => layA a (c.toNat : Int))) = _
  rw [op_word h1.1 h1.2, if_neg (by omega), if_neg (by simp only [List.length_cons, List.length_map]; omega), reads_lay hr (kindS a.op) { askd with op := a.op } hk.2 hk.1 (fields_all h2) fun c hc => zero_op (hk.1 c hc), bare_set _ (kind_in h1.1 h1.2) a h3]
theorem parse_bad {s : Bytes} (h : ¬ (parseA s).2 = 0) : (parseA s).1 = askd := by
  unfold parseA at *
  by_cases h1 : 400 < s.length
  · rw [if_pos h1]
  · rw [if_neg h1] at h ⊢
    by_cases h2 : opS (List.getD (splitC 32 s) 0 []) = 0
    · rw [if_pos h2]
    · rw [if_neg h2] at h ⊢
      by_cases h3 : ¬ (splitC 32 s).length = 1 + (kindS (opS (List.getD (splitC 32 s) 0 []))).length
      · rw [if_pos h3]
      · rw [if_neg h3] at h ⊢
        exact reads_bad _ _ _ h
/-- A line that is a request's is its line again. -/
theorem line_parse {s : Bytes} (h : (parseA s).2 = 0) : checkA (parseA s).1 = 0 ∧ lineA (parseA s).1 = s ∧ ∀ x ∈ (parseA s).1.rules, 0 ≤ x.2 := by
  have hc : ¬ 400 < s.length := fun q => by unfold parseA at h; rw [if_pos q] at h; exact absurd h (by decide)
  have ho : ¬ opS (List.getD (splitC 32 s) 0 []) = 0 := fun q => by unfold parseA at h; rw [if_neg hc, if_pos q] at h; exact absurd h (by decide)
  have hn : (splitC 32 s).length = 1 + (kindS (opS (List.getD (splitC 32 s) 0 []))).length := by
    apply Classical.byContradiction
    intro q
    unfold parseA at h; rw [if_neg hc, if_neg ho, if_pos q] at h; exact absurd h (by decide)
  have e : parseA s = readsA { askd with op := opS (List.getD (splitC 32 s) 0 []) } (kindS (opS (List.getD (splitC 32 s) 0 []))) ((splitC 32 s).drop 1) := by
    unfold parseA; rw [if_neg hc, if_neg ho, if_neg (fun q => q hn)]
  rw [e] at h ⊢
  have hs : splitC 32 s = List.getD (splitC 32 s) 0 [] :: (splitC 32 s).drop 1 := by
    have := Lib.drop_cons [] (splitC 32 s) 0 (by omega)
    rwa [List.drop_zero] at this
  rcases op_rng (List.getD (splitC 32 s) 0 []) with q | ⟨o1, o2, o3⟩
  · exact absurd q ho
  · have hj := Sep.join_split 32 s
    rw [hs] at hj
    generalize List.getD (splitC 32 s) 0 [] = w at *
    generalize hws : (splitC 32 s).drop 1 = ws at *
    have hwl : ws.length = (kindS (opS w)).length := by rw [← hws, List.length_drop]; omega
    generalize opS w = op at *
    have hk := kind_let op
    obtain ⟨r1, r2, r3, r4⟩ := lay_reads (kindS op) { askd with op := op } ws hk.2 hk.1 (fun c hc => zero_op (hk.1 c hc)) hwl (fun x hx => by cases hx) h
    generalize (readsA { askd with op := op } (kindS op) ws).1 = a at *
    have hop : a.op = op := by
      have := fold_op a (kindS op) { askd with op := op }
      rw [r3] at this
      exact this
    have hl : lineA a = s := by
      unfold lineA
      rw [line_join, hop, r2, o3]
      exact hj
    refine ⟨check_of (by rw [hop]; exact ⟨o1, o2⟩) (by rw [hop]; exact fields_of r1) (by rw [hop]; exact set_bare _ (kind_in o1 o2) a op r3) (by rw [hl]; omega), hl, r4⟩
theorem line_inj {a b : AskV} (ha : checkA a = 0) (hb : checkA b = 0) (na : ∀ x ∈ a.rules, 0 ≤ x.2) (nb : ∀ x ∈ b.rules, 0 ≤ x.2) : lineA a = lineA b ↔ a = b := by
  constructor
  · intro h
    have h1 := parse_line ha na
    rw [h, parse_line hb nb] at h1
    exact (congrArg Prod.fst h1).symm
  · rintro rfl; rfl

/-! ### what spoils a line -/
theorem lay_ne {a : AskV} {c : Int} (h : LetI c) (hf : fieldS a c = 0) : layA a c ≠ [] := by
  have name_ne : ∀ {s : Bytes}, namedS s = true → s ≠ [] := fun h e => by subst e; exact absurd h (by decide)
  have path_ne : ∀ {s : Bytes}, Route.checkS s = 0 → s ≠ [] := fun h e => by subst e; rw [Rows.check_nil] at h; exact absurd h (by decide)
  have or_ne : ∀ s : Bytes, orN s ≠ [] := fun s => by unfold orN; split; simp; assumption
  rcases h with h | h | h | h | h | h | h | h | h | h | h <;> subst h
  · exact name_ne (fine_0.1 hf)
  · exact path_ne hf
  · exact name_ne (fine_0.1 hf)
  · exact path_ne hf
  · have := fine_0.1 hf
    unfold withinI at this
    simp only [Bool.and_eq_true, decide_eq_true_eq] at this
    exact (num_len this.1 this.2).1
  · have := fine_0.1 hf
    unfold withinI at this
    simp only [Bool.and_eq_true, decide_eq_true_eq] at this
    show (if a.cas = -1 then _ else _) ≠ _
    split
    · decide
    · exact (num_len (by omega) this.2).1
  · show (if a.flag = true then _ else _) ≠ _
    split <;> decide
  · exact or_ne _
  · exact or_ne _
  · exact or_ne _
  · intro e
    have := of_decide_eq_true (fine_0.1 hf)
    have e2 := hex_nil.1 e
    rw [e2] at this
    exact absurd this (by decide)
theorem word_low {op : Int} (h1 : 1 ≤ op) (h2 : op ≤ 18) : ∃ b r, wordS op = b :: r ∧ 97 ≤ b.toNat ∧ b.toNat ≤ 122 := by
  have key : ∀ i, i < 19 → 1 ≤ i → ∃ b ∈ wordsL.flatten, 97 ≤ b.toNat ∧ b.toNat ≤ 122 ∧ List.getD wordsL i [] = b :: (List.getD wordsL i []).drop 1 := by decide +kernel
  obtain ⟨b, _, h3, h4, h5⟩ := key op.toNat (by omega) (by omega)
  exact ⟨b, _, h5, h3, h4⟩
theorem spoil_blank {t : Bytes} (h : ([] : Bytes) ∈ splitC 32 t) : ¬ (parseA t).2 = 0 := by
  intro h0
  obtain ⟨h1, h2, _⟩ := line_parse h0
  obtain ⟨k1, k2, _, _⟩ := check_ok h1
  rw [← h2, line_split k2] at h
  rcases List.mem_cons.1 h with h | h
  · have := word_nil.1 h.symm; omega
  · obtain ⟨c, hc, e⟩ := List.mem_map.1 h
    exact lay_ne ((kind_let _).1 c hc) (fields_all k2 c hc) e
theorem line_low {a : AskV} (h : checkA a = 0) : ∃ b r, lineA a = b :: r ∧ 97 ≤ b.toNat ∧ b.toNat ≤ 122 := by
  obtain ⟨k1, _⟩ := check_ok h
  obtain ⟨b, r, e, h1, h2⟩ := word_low k1.1 k1.2
  refine ⟨b, r ++ (kindS a.op).flatMap (fun c => 32 :: layA a (c.toNat : Int)), ?_, h1, h2⟩
  unfold lineA lineF
  rw [e]; rfl
theorem spoil_first {b : UInt8} {r : Bytes} (h : ¬ (97 ≤ b.toNat ∧ b.toNat ≤ 122)) : ¬ (parseA (b :: r)).2 = 0 := by
  intro h0
  obtain ⟨h1, h2, _⟩ := line_parse h0
  obtain ⟨d, r', e, h3, h4⟩ := line_low h1
  rw [h2] at e
  injection e with e1 e2
  subst e1
  exact h ⟨h3, h4⟩
theorem split_eq (c b : UInt8) (s : Bytes) : splitC c (b :: s) = if b = c then [] :: splitC c s else match splitC c s with
    | [] => [[b]]
    | p :: ps => (b :: p) :: ps := rfl
theorem split_cat (c : UInt8) : ∀ (x y : Bytes), splitC c (x ++ c :: y) = splitC c x ++ splitC c y
  | [], y => by simp [splitC]
  | b :: x, y => by
    rw [List.cons_append, split_eq c b (x ++ c :: y), split_eq c b x]
    by_cases e : b = c
    · rw [if_pos e, if_pos e, split_cat c x y]; rfl
    · rw [if_neg e, if_neg e, split_cat c x y]
      cases h : splitC c x with
      | nil => exact absurd h (Sep.split_ne c x)
      | cons p ps => rfl
theorem spoil_front (s : Bytes) : ¬ (parseA ([32] ++ s)).2 = 0 := spoil_blank (by
  show [] ∈ splitC 32 ([] ++ 32 :: s)
  rw [split_cat]; exact List.mem_append_left _ (by simp [splitC]))
theorem spoil_back (s : Bytes) : ¬ (parseA (s ++ [32])).2 = 0 := spoil_blank (by
  rw [split_cat]; exact List.mem_append_right _ (by simp [splitC]))
theorem spoil_mid (x y : Bytes) : ¬ (parseA ((x ++ [32]) ++ 32 :: y)).2 = 0 := spoil_blank (by
  rw [List.append_assoc]
  show [] ∈ splitC 32 (x ++ 32 :: ([] ++ 32 :: y))
  rw [split_cat, split_cat]
  exact List.mem_append_right _ (List.mem_append_left _ (by simp [splitC])))
end AL.Ask
