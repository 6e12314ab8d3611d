/- ask: what its laws answer, in plain Lean. No condition. -/
import Derived.Test.YtiiiecdfganahaaDoorAskJ
namespace AL.Ask
open Go AL
open AL.Sep (splitC joinC)
open AL.Policy (RuleV textP parseP checkP)
set_option linter.unusedVariables false
set_option linter.unusedSimpArgs false

def aw1 : AskV := ⟨10, [114, 111, 111, 116], [116, 101, 97, 109, 47, 97, 112, 112], [], 0, -1, false, [], [97, 98], [], []⟩
def aw2 : AskV := ⟨11, [114, 111, 111, 116], [97], [], 0, 0, false, [1, 2], [], [], []⟩
theorem parse_textA {a : AskV} (h : (textA a).2 = 0) (hr : ∀ x ∈ a.rules, 0 ≤ x.2) : parseA (textA a).1 = (a, 0) := by
  rw [text_ok (text_may h)]; exact parse_line (text_may h) hr
theorem text_injA {a b : AskV} (ha : (textA a).2 = 0) (hb : (textA b).2 = 0) (na : ∀ x ∈ a.rules, 0 ≤ x.2) (nb : ∀ x ∈ b.rules, 0 ≤ x.2) : (textA a).1 = (textA b).1 ↔ a = b := by
  rw [text_ok (text_may ha), text_ok (text_may hb)]
  exact line_inj (text_may ha) (text_may hb) na nb
theorem text_lenA {a : AskV} : (textA a).1.length ≤ 400 := by
  by_cases h : checkA a = 0
  · rw [text_ok h]; exact (check_ok h).2.2.2
  · rw [text_no h]; simp
theorem text_parseA {s : Bytes} (h : (parseA s).2 = 0) : textA (parseA s).1 = (s, 0) ∧ checkA (parseA s).1 = 0 := by
  obtain ⟨h1, h2, _⟩ := line_parse h
  exact ⟨by rw [text_ok h1, h2], h1⟩
theorem parse_data {s : Bytes} (hs : s.length ≤ 1000) : (parseA s).1.data.length ≤ 100000 := by
  by_cases h : (parseA s).2 = 0
  · obtain ⟨h1, h2, _⟩ := line_parse h
    obtain ⟨k1, k2, k3, k4⟩ := check_ok h1
    generalize (parseA s).1 = a at *
    by_cases hd : a.data = []
    · rw [hd]; simp
    · by_cases hm : (100 : UInt8) ∈ kindS a.op
      · have hsp := line_split k2
        have hmem : layA a 100 ∈ splitC 32 (lineA a) := by
          rw [hsp]
          exact List.mem_cons_of_mem _ (List.mem_map.2 ⟨100, hm, rfl⟩)
        have h3 := Sep.mem_len hmem
        have h4 : layA a 100 = hexS a.data := if_neg (fun q => hd (hex_nil.1 q))
        rw [h4, hex_len] at h3
        omega
      · exfalso
        apply hd
        have hk := kind_let a.op
        have key : ∀ (l : Bytes) (x : AskV), (∀ c ∈ l, LetI (c.toNat : Int)) → (100 : UInt8) ∉ l → (l.foldl (fun y c => withoutS y (c.toNat : Int)) x).data = x.data := by
          intro l
          induction l with
          | nil => intro x _ _; rfl
          | cons c l ih =>
            intro x hl hn
            simp only [List.mem_cons, not_or] at hn
            have h1 := ih (withoutS x (c.toNat : Int)) (fun d hd => hl d (List.mem_cons_of_mem _ hd)) hn.2
            have h2 : (withoutS x (c.toNat : Int)).data = x.data := by
              have hc : ¬ (c.toNat : Int) = 100 := fun q => hn.1 (UInt8.toNat_inj.1 (by have : (100 : UInt8).toNat = 100 := rfl; omega))
              have hl := hl c (by simp)
              generalize (c.toNat : Int) = d at *
              rcases hl with h | h | h | h | h | h | h | h | h | h | h <;> subst h <;> first | rfl | exact absurd rfl hc
            exact h1.trans h2
        have := key (kindS a.op) { a with op := 0 } hk.1 hm
        have e : bareF a (kindS a.op) = askd := k3
        unfold bareF at e
        rw [e] at this
        exact this.symm
  · rw [parse_bad h]; simp [askd]
/-! ### spoilt lines -/
theorem text_neA {a : AskV} (h : ¬ (textA a).2 = 0 ∨ (textA a).1 = []) : ¬ (textA a).2 = 0 ∧ (textA a).1 = [] := by
  by_cases h0 : checkA a = 0
  · rw [text_ok h0] at h
    obtain ⟨b, r, e, _⟩ := line_low h0
    rcases h with h | h
    · exact absurd rfl h
    · rw [show (lineA a, (0 : Int)).1 = lineA a from rfl, e] at h; cases h
  · rw [text_no h0]; exact ⟨h0, rfl⟩
def upB (s : Bytes) : UInt8 := UInt8.ofNat ((List.getD s 0 0).toNat - 32)
theorem text_low {a : AskV} (h : (textA a).2 = 0) : 97 ≤ (List.getD (textA a).1 0 0).toNat ∧ (List.getD (textA a).1 0 0).toNat ≤ 122 := by
  have h0 := text_may h
  obtain ⟨b, r, e, h1, h2⟩ := line_low h0
  rw [text_ok h0]
  show 97 ≤ (List.getD (lineA a) 0 0).toNat ∧ _
  rw [e]; exact ⟨h1, h2⟩
theorem one_up {s : Bytes} (h : 97 ≤ (List.getD s 0 0).toNat ∧ (List.getD s 0 0).toNat ≤ 122) : flat 1 rowU8 [upB s] = [AC.s (u8 (IntKind.wrap .u8 (((List.getD s 0 0).toNat : Int) - 32)))] := by
  have e : IntKind.wrap .u8 (((List.getD s 0 0).toNat : Int) - 32) = ((upB s).toNat : Int) := by
    unfold upB
    rw [wrap_u8 (by omega) (by omega), UInt8.toNat_ofNat']
    omega
  rw [e]; rfl
theorem spoil_up {s r : Bytes} (h : 97 ≤ (List.getD s 0 0).toNat ∧ (List.getD s 0 0).toNat ≤ 122) : ¬ (parseA ([upB s] ++ r)).2 = 0 := by
  refine spoil_first fun q => ?_
  unfold upB at q
  rw [UInt8.toNat_ofNat'] at q
  omega
theorem spoil_at {s : Bytes} {q : Nat} (hq : q ≤ s.length) (h : ¬ (q : Int) < (List.length s : Int) ∨ ((List.getD s q 0).toNat : Int) = 32) : ¬ (parseA ((List.take q s ++ [32]) ++ List.drop q s)).2 = 0 := by
  by_cases hl : q < s.length
  · have hb : List.getD s q 0 = 32 := by
      rcases h with h | h
      · omega
      · exact UInt8.toNat_inj.1 (by have : (32 : UInt8).toNat = 32 := rfl; omega)
    rw [Lib.drop_cons 0 s q hl, hb]
    exact spoil_mid _ _
  · rw [List.drop_of_length_le (by omega), List.take_of_length_le (by omega), List.append_nil]
    exact spoil_back _
theorem tmod_at (n : Int) (s : Bytes) : ∃ q : Nat, 0 ≤ n → ¬ s = [] → Int.tmod n (List.length s : Int) = q ∧ q < s.length := by
  by_cases h : 0 ≤ n ∧ ¬ s = []
  · have hl := List.length_pos_iff.2 h.2
    have h1 := Int.tmod_nonneg (List.length s : Int) h.1
    have h2 := Int.tmod_lt_of_pos n (show (0 : Int) < (List.length s : Int) by omega)
    exact ⟨(Int.tmod n (List.length s : Int)).toNat, fun _ _ => ⟨by omega, by omega⟩⟩
  · exact ⟨0, fun a b => absurd ⟨a, b⟩ h⟩
end AL.Ask
