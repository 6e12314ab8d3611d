/- ask: facts of its loops over letters, in plain Lean. No condition. -/
import Derived.Test.YtiiiecdfganahaaDoorAskI
namespace AL.Ask
open Go AL
open AL.Sep (splitC joinC)
open AL.Policy (RuleV textP parseP checkP)
open AL.Rows (namedS)
set_option linter.unusedVariables false
set_option linter.unusedSimpArgs false

theorem fld_n {a : AskV} {c : Int} (hf : fieldS a c = 0) (h : c = 110) : 0 ≤ a.n ∧ a.n ≤ 999 := by
  subst h
  have hw := fine_0.1 (show fineS (withinI a.n 0 999) = 0 from hf)
  unfold withinI at hw
  simpa only [Bool.and_eq_true, decide_eq_true_eq] using hw
theorem fld_c {a : AskV} {c : Int} (hf : fieldS a c = 0) (h : c = 99) : -1 ≤ a.cas ∧ a.cas ≤ 999 := by
  subst h
  have hw := fine_0.1 (show fineS (withinI a.cas (-1) 999) = 0 from hf)
  unfold withinI at hw
  simpa only [Bool.and_eq_true, decide_eq_true_eq] using hw
theorem fld_l {a : AskV} {c : Int} (hf : fieldS a c = 0) (h : c = 108) : a.ns.length ≤ 6 ∧ ∀ n ∈ a.ns, 0 ≤ n ∧ n ≤ 999 := by
  subst h
  have hw := fine_0.1 (show fineS (okNs a.ns) = 0 from hf)
  exact ⟨(ns_mem hw).1, ns_in hw⟩
theorem fld_k {a : AskV} {c : Int} (hf : fieldS a c = 0) (h : c = 107) : a.key.length = 16 := by
  subst h
  exact of_decide_eq_true (fine_0.1 (show fineS (decide (a.key.length = 16)) = 0 from hf))
theorem orN_len (s : Bytes) : (orN s).length ≤ s.length + 1 := by unfold orN; split <;> simp
theorem name_len {s : Bytes} (h : namedS s = true) : s.length ≤ 8 := by
  unfold Rows.namedS at h
  simp only [Bool.and_eq_true, decide_eq_true_eq] at h
  exact h.2.1
theorem path_len {s : Bytes} (h : Route.checkS s = 0) : s.length ≤ 64 := by
  apply Classical.byContradiction
  intro hn
  rw [Route.check_big (by omega)] at h
  omega
theorem lay_len {a : AskV} {c : Int} (h : LetI c) (hf : fieldS a c = 0) : (layA a c).length ≤ 1001 + 2 * a.data.length := by
  rcases h with h | h | h | h | h | h | h | h | h | h | h <;> subst h
  · have := name_len (fine_0.1 hf); show a.token.length ≤ _; omega
  · have := path_len hf; show a.path.length ≤ _; omega
  · have := name_len (fine_0.1 hf); show a.other.length ≤ _; omega
  · have := path_len hf; show a.other.length ≤ _; omega
  · have := num_le3 a.n; show (numS a.n).length ≤ _; omega
  · have := num_le3 a.cas
    show (if a.cas = -1 then [45] else numS a.cas).length ≤ _
    split
    · simp; omega
    · omega
  · show (if a.flag = true then [49] else [48]).length ≤ _
    split <;> (simp; omega)
  · have h1 := (fld_l hf rfl).1
    have h2 := list_len a.ns
    have h3 := orN_len (listS a.ns)
    show (orN (listS a.ns)).length ≤ _
    unfold listS at *
    omega
  · have h3 := orN_len (hexS a.data)
    rw [hex_len] at h3
    show (orN (hexS a.data)).length ≤ _
    omega
  · have h3 := orN_len (textP a.rules).1
    have h4 := Policy.textP_len a.rules
    show (orN (textP a.rules).1).length ≤ _
    omega
  · have h3 := fld_k hf rfl
    show (hexS a.key).length ≤ _
    rw [hex_len]; omega
theorem kind_len (op : Int) : (kindS op).length ≤ 4 ∧ (wordS op).length ≤ 8 := by
  have k1 : ∀ l ∈ kindsL, l.length ≤ 4 := by decide
  have k2 : ∀ l ∈ wordsL, l.length ≤ 8 := by decide
  constructor
  · by_cases h : kindS op = []
    · rw [h]; simp
    · exact k1 _ (getD_in h)
  · by_cases h : wordS op = []
    · rw [h]; simp
    · exact k2 _ (getD_in h)
theorem line_len {a : AskV} (hf : fieldsC a (kindS a.op) = 0) (k : Nat) : (lineF a (List.take k (kindS a.op))).length ≤ 8 + 4 * (1002 + 2 * a.data.length) := by
  have key : ∀ l : Bytes, (∀ c ∈ l, LetI (c.toNat : Int) ∧ fieldS a (c.toNat : Int) = 0) → (l.flatMap fun c => 32 :: layA a (c.toNat : Int)).length ≤ l.length * (1002 + 2 * a.data.length) := by
    intro l
    induction l with
    | nil => intro _; simp
    | cons c l ih =>
      intro h
      have h1 := lay_len (h c (by simp)).1 (h c (by simp)).2
      have h2 := ih fun d hd => h d (List.mem_cons_of_mem _ hd)
      rw [List.flatMap_cons, List.length_append, List.length_cons, List.length_cons, Nat.succ_mul]
      omega
  obtain ⟨k1, k2⟩ := kind_len a.op
  have h1 := key (List.take k (kindS a.op)) fun c hc => ⟨(kind_let a.op).1 c (List.mem_of_mem_take hc), fields_all hf c (List.mem_of_mem_take hc)⟩
  have h2 : (List.take k (kindS a.op)).length ≤ 4 := by rw [List.length_take]; omega
  have h3 : (List.take k (kindS a.op)).length * (1002 + 2 * a.data.length) ≤ 4 * (1002 + 2 * a.data.length) := Nat.mul_le_mul_right _ h2
  unfold lineF
  rw [List.length_append]
  omega
theorem check_22 {a : AskV} (h : wordS a.op = []) : checkA a = 22 := if_pos h
theorem check_f {a : AskV} {k : Nat} (h : ¬ wordS a.op = []) (hk : k < (kindS a.op).length) (hN : FieldsAt a (kindS a.op) k) (h0 : ¬ fieldS a ((List.getD (kindS a.op) k 0).toNat : Int) = 0) : checkA a = fieldS a ((List.getD (kindS a.op) k 0).toNat : Int) := by
  have e := fields_bad hk hN h0
  unfold checkA
  rw [if_neg h, if_pos (by rw [e]; exact h0), e]
theorem check_2 {a : AskV} (h : ¬ wordS a.op = []) (h2 : fieldsC a (kindS a.op) = 0) (h3 : ¬ bareF a (kindS a.op) = askd) : checkA a = 2 := by
  unfold checkA
  rw [if_neg h, if_neg (fun q => q h2), if_pos h3]
theorem check_5 {a : AskV} (h : ¬ wordS a.op = []) (h2 : fieldsC a (kindS a.op) = 0) (h3 : bareF a (kindS a.op) = askd) (h4 : (400 : Int) < (List.length (lineA a) : Int)) : checkA a = 5 := by
  unfold checkA
  rw [if_neg h, if_neg (fun q => q h2), if_neg (fun q => q h3), if_pos (by omega)]
theorem check_0 {a : AskV} (h : ¬ wordS a.op = []) (h2 : fieldsC a (kindS a.op) = 0) (h3 : bareF a (kindS a.op) = askd) (h4 : ¬ (400 : Int) < (List.length (lineA a) : Int)) : checkA a = 0 := by
  unfold checkA
  rw [if_neg h, if_neg (fun q => q h2), if_neg (fun q => q h3), if_neg (by omega)]
theorem getD_drop1 (l : List Bytes) (k : Nat) : List.getD (List.drop 1 l) k [] = List.getD l (1 + k) [] := by
  rw [List.getD_eq_getElem?_getD, List.getElem?_drop, List.getD_eq_getElem?_getD]
theorem readat_next {a0 a : AskV} {l : Bytes} {ws : List Bytes} {k : Nat} (h : k < l.length) (hN : ReadAt a0 l (List.drop 1 ws) k a) (h0 : (readA a ((List.getD l k 0).toNat : Int) (List.getD ws (1 + k) [])).2 = 0) : ReadAt a0 l (List.drop 1 ws) (k + 1) (readA a ((List.getD l k 0).toNat : Int) (List.getD ws (1 + k) [])).1 := by
  rw [← getD_drop1] at *
  exact readat_step h hN h0
theorem parse_5 {s : Bytes} (h : (400 : Int) < (List.length s : Int)) : parseA s = (askd, 5) := if_pos (by omega)
theorem parse_22 {s : Bytes} {op : Int} (hop : op = opS (List.getD (splitC 32 s) 0 [])) (h : ¬ (400 : Int) < (List.length s : Int)) (h0 : op = 0) : parseA s = (askd, 22) := by
  unfold parseA
  rw [if_neg (by omega), ← hop, if_pos h0]
theorem parse_4 {s : Bytes} {op : Int} (hop : op = opS (List.getD (splitC 32 s) 0 [])) (h : ¬ (400 : Int) < (List.length s : Int)) (h0 : ¬ op = 0) (hn : ¬ (List.length (splitC 32 s) : Int) = 1 + (List.length (kindS op) : Int)) : parseA s = (askd, 4) := by
  unfold parseA
  rw [if_neg (by omega), ← hop, if_neg h0, if_pos (by omega)]
theorem parse_e {s : Bytes} {op : Int} {k : Nat} {b : AskV} (hop : op = opS (List.getD (splitC 32 s) 0 [])) (h : ¬ (400 : Int) < (List.length s : Int)) (h0 : ¬ op = 0) (hn : (List.length (splitC 32 s) : Int) = 1 + (List.length (kindS op) : Int)) (hk : k < (kindS op).length)
    (hN : ReadAt { askd with op := op } (kindS op) (List.drop 1 (splitC 32 s)) k b) (he : ¬ (readA b ((List.getD (kindS op) k 0).toNat : Int) (List.getD (splitC 32 s) (1 + k) [])).2 = 0) : parseA s = (askd, (readA b ((List.getD (kindS op) k 0).toNat : Int) (List.getD (splitC 32 s) (1 + k) [])).2) := by
  rw [← getD_drop1] at *
  unfold parseA
  rw [if_neg (by omega), ← hop, if_neg h0, if_neg (fun q => q (by omega))]
  exact readat_bad hk hN he
theorem parse_0 {s : Bytes} {op : Int} {k : Nat} {b : AskV} (hop : op = opS (List.getD (splitC 32 s) 0 [])) (h : ¬ (400 : Int) < (List.length s : Int)) (h0 : ¬ op = 0) (hn : (List.length (splitC 32 s) : Int) = 1 + (List.length (kindS op) : Int)) (hk : (kindS op).length ≤ k)
    (hN : ReadAt { askd with op := op } (kindS op) (List.drop 1 (splitC 32 s)) k b) : parseA s = (b, 0) := by
  unfold parseA
  rw [if_neg (by omega), ← hop, if_neg h0, if_neg (fun q => q (by omega))]
  exact readat_end hk hN
theorem read_c {a : AskV} {s : Bytes} (h : ¬ s = [45]) : readA a 99 s = ({ a with cas := scanN s }, fineS (decide (s = [45]) || decide (0 ≤ scanN s))) := by
  show (if s = [45] then _ else _) = _
  rw [if_neg h, decide_eq_false h]; rfl
theorem read_k (a : AskV) (s : Bytes) : readA a 107 s = ({ a with key := (unhexS s).1 }, fineS ((unhexS s).2 && decide ((List.length (unhexS s).1 : Int) = 16))) := by
  rw [key16]; rfl
theorem read_l {a : AskV} {s : Bytes} (h : ¬ s = [45]) : readA a 108 s = ({ a with ns := numbersS s }, fineS (okNs (numbersS s))) := if_neg h
theorem read_d {a : AskV} {s : Bytes} (h : ¬ s = [45]) : readA a 100 s = ({ a with data := (unhexS s).1 }, fineS ((unhexS s).2 && !decide (s = []))) := if_neg h
theorem read_r {a : AskV} {s : Bytes} (h : ¬ s = [45]) (h0 : ¬ s = []) : readA a 114 s = ({ a with rules := (parseP s).1 }, (parseP s).2) := by
  show (if s = [45] then _ else if s = [] then _ else _) = _
  rw [if_neg h, if_neg h0]
/-! ### what the laws look at -/
def overA (a : AskV) : Int := if a.token.length ≤ 100 ∧ a.path.length ≤ 200 ∧ a.other.length ≤ 200 ∧ a.ns.length ≤ 20 ∧ a.data.length ≤ 300 ∧ ¬ 0 < Policy.overP a.rules ∧ a.key.length ≤ 100 then 0 else 1
theorem overA_ok {a : AskV} (h : ¬ 0 < overA a) : a.token.length ≤ 100 ∧ a.path.length ≤ 200 ∧ a.other.length ≤ 200 ∧ a.ns.length ≤ 20 ∧ a.data.length ≤ 300 ∧ ¬ 0 < Policy.overP a.rules ∧ a.key.length ≤ 100 := by
  unfold overA at h
  split at h
  · assumption
  · exact absurd h (by decide)
end AL.Ask
