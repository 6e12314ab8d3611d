/- runes of a text, and its pieces between bytes 47: plain Lean. No condition. -/
import Derived.Test.YtfedegdihgeelaaDoorLibD
import Derived.Test.YtfedegdihgeelaaDoorALc
import Derived.Lib.MapLaws
import Derived.Lib.Bytealg
namespace AL.Rune
open Go AL
set_option linter.unusedVariables false
set_option linter.unusedSimpArgs false

/-! ### one rune -/
theorem get_ba (s : Bytes) (i : Nat) : (ba s).get! i = List.getD s i 0 := by
  show (s.toArray)[i]! = _
  rw [List.getD_eq_getElem?_getD]
  by_cases h : i < s.length
  · rw [getElem!_pos _ i (by simpa using h)]; simp [h]
  · rw [getElem!_neg _ i (by simpa using h)]; simp [h]; rfl
theorem dec_N (s : Bytes) (pos : Nat) : decS s pos = Go.Lib.decodeN (s.length - pos) (List.getD s pos 0).toNat (List.getD s (pos + 1) 0).toNat (List.getD s (pos + 2) 0).toNat (List.getD s (pos + 3) 0).toNat := by
  unfold decS
  rw [Go.Lib.decode_at, get_ba, get_ba, get_ba, get_ba, size_ba]
theorem getD_drop (s : Bytes) (i j : Nat) : List.getD (List.drop i s) j 0 = List.getD s (i + j) 0 := by
  rw [List.getD_eq_getElem?_getD, List.getD_eq_getElem?_getD, List.getElem?_drop]
theorem dec_drop (s : Bytes) (pos : Nat) : decS s pos = decS (List.drop pos s) 0 := by
  rw [dec_N, dec_N, getD_drop, getD_drop, getD_drop, getD_drop, List.length_drop]; simp
theorem dec_L (s : Bytes) : decS s 0 = Go.Lib.decodeL s := rfl
theorem dec_ok {s : Bytes} {pos : Nat} (h : pos < s.length) : 1 ≤ (decS s pos).2 ∧ pos + (decS s pos).2 ≤ s.length := by
  rw [dec_drop, dec_L]
  have h1 := Go.Lib.decodeL_width (List.drop pos s)
  have h2 := Go.Lib.decodeL_le (List.drop pos s) (by intro e; have := congrArg List.length e; simp at this; omega)
  rw [List.length_drop] at h2
  omega
theorem byte_lt (s : Bytes) (i : Nat) : (List.getD s i 0).toNat < 256 := UInt8.toNat_lt _

/-! ### all runes -/
abbrev R := Nat × Bytes
def runesN : Nat → Bytes → List R
  | 0, _ => []
  | n + 1, s => if s = [] then [] else ((decS s 0).1, List.take (decS s 0).2 s) :: runesN n (List.drop (decS s 0).2 s)
def runesS (s : Bytes) : List R := runesN s.length s
theorem runesN_any : ∀ (n m : Nat) (s : Bytes), s.length ≤ n → s.length ≤ m → runesN n s = runesN m s
  | 0, 0, _, _, _ => rfl
  | 0, m + 1, s, h, _ => by
    have : s = [] := List.eq_nil_of_length_eq_zero (by omega)
    subst this; rfl
  | n + 1, 0, s, _, h => by
    have : s = [] := List.eq_nil_of_length_eq_zero (by omega)
    subst this; rfl
  | n + 1, m + 1, s, h1, h2 => by
    unfold runesN
    split
    · rfl
    · rename_i hs
      have hd := dec_ok (s := s) (pos := 0) (List.length_pos_iff.2 hs)
      rw [runesN_any n m _ (by rw [List.length_drop]; omega) (by rw [List.length_drop]; omega)]
theorem runes_nil : runesS [] = [] := rfl
theorem runes_cons {s : Bytes} (hs : s ≠ []) : runesS s = ((decS s 0).1, List.take (decS s 0).2 s) :: runesS (List.drop (decS s 0).2 s) := by
  have hl := List.length_pos_iff.2 hs
  have hd := dec_ok (s := s) (pos := 0) hl
  unfold runesS
  obtain ⟨n, hn⟩ : ∃ n, s.length = n + 1 := ⟨s.length - 1, by omega⟩
  rw [hn]
  conv => lhs; unfold runesN
  rw [if_neg hs, runesN_any n (List.drop (decS s 0).2 s).length _ (by rw [List.length_drop]; omega) (Nat.le_refl _)]
/-- The runes from a place on. -/
theorem runes_at {s : Bytes} {pos : Nat} (h : pos < s.length) : runesS (List.drop pos s) = ((decS s pos).1, List.take (decS s pos).2 (List.drop pos s)) :: runesS (List.drop (pos + (decS s pos).2) s) := by
  have hne : List.drop pos s ≠ [] := by intro e; have := congrArg List.length e; simp at this; omega
  rw [runes_cons hne, ← dec_drop, List.drop_drop]
theorem runes_end {s : Bytes} {pos : Nat} (h : s.length ≤ pos) : runesS (List.drop pos s) = [] := by rw [List.drop_of_length_le h]; rfl
/-- Step by step. -/
theorem runes_ind {p : Bytes → Prop} (h0 : p []) (h1 : ∀ s, s ≠ [] → p (List.drop (decS s 0).2 s) → p s) : ∀ s, p s := by
  have : ∀ n (s : Bytes), s.length ≤ n → p s := by
    intro n
    induction n with
    | zero => intro s h; have : s = [] := List.eq_nil_of_length_eq_zero (by omega); subst this; exact h0
    | succ n ih =>
      intro s h
      by_cases hs : s = []
      · subst hs; exact h0
      · have hd := dec_ok (s := s) (pos := 0) (List.length_pos_iff.2 hs)
        exact h1 s hs (ih _ (by rw [List.length_drop]; omega))
  exact fun s => this s.length s (Nat.le_refl _)
theorem runes_len (s : Bytes) : (runesS s).length ≤ s.length := by
  refine runes_ind (p := fun s => (runesS s).length ≤ s.length) (Nat.le_refl _) (fun s hs ih => ?_) s
  rw [runes_cons hs, List.length_cons]
  have hd := dec_ok (s := s) (pos := 0) (List.length_pos_iff.2 hs)
  rw [List.length_drop] at ih
  omega
theorem runes_flat (s : Bytes) : ((runesS s).map (·.2)).flatten = s := by
  refine runes_ind (p := fun s => ((runesS s).map (·.2)).flatten = s) rfl (fun s hs ih => ?_) s
  rw [runes_cons hs, List.map_cons, List.flatten_cons, ih, List.take_append_drop]
/-- A rune that stands there in its shortest form. -/
def badR (x : R) : Bool := decide (x.1 = 65533) && decide (x.2.length = 1)
theorem runes_enc (s : Bytes) : ∀ x ∈ runesS s, badR x = false → Go.Lib.encodeRune (x.1 : Int) = x.2 := by
  refine runes_ind (p := fun s => ∀ x ∈ runesS s, badR x = false → Go.Lib.encodeRune (x.1 : Int) = x.2) (fun x hx => by simp [runesS, runesN] at hx) (fun s hs ih x hx hb => ?_) s
  rw [runes_cons hs] at hx
  rcases List.mem_cons.1 hx with rfl | hx
  · have hd := dec_ok (s := s) (pos := 0) (List.length_pos_iff.2 hs)
    refine Go.Lib.encode_decode s hs fun ⟨e1, e2⟩ => ?_
    unfold badR at hb
    rw [← dec_L] at e1 e2
    simp only [e1, e2, List.length_take, decide_true, Bool.true_and, decide_eq_false_iff_not] at hb
    omega
  · exact ih x hx hb

/-! ### the next rune, byte by byte -/
def tailS (s : Bytes) (i : Int) : Bool := decide (i < (s.length : Int)) && (decide (128 ≤ ((List.getD s i.toNat 0).toNat : Int)) && decide (((List.getD s i.toNat 0).toNat : Int) < 192))
/-- The rune at a place in its shortest form, and of how many bytes it is; -1 and 1: there is none. -/
def nextS (s : Bytes) (i : Nat) : Int × Int := if (decS s i).1 = 65533 ∧ (decS s i).2 = 1 then (-1, 1) else (((decS s i).1 : Int), ((decS s i).2 : Int))
theorem tail_iff {s : Bytes} {i : Int} : tailS s i = true ↔ i < (s.length : Int) ∧ 128 ≤ (List.getD s i.toNat 0).toNat ∧ (List.getD s i.toNat 0).toNat < 192 := by
  unfold tailS
  simp only [Bool.and_eq_true, decide_eq_true_eq]
  omega
theorem tail_neg {s : Bytes} {i : Int} : tailS s i = false ↔ ¬ (i < (s.length : Int) ∧ 128 ≤ (List.getD s i.toNat 0).toNat ∧ (List.getD s i.toNat 0).toNat < 192) := by
  rw [← tail_iff]; cases tailS s i <;> simp
theorem next_1 {s : Bytes} {i : Nat} (h : (List.getD s i 0).toNat < 128) : nextS s i = (((List.getD s i 0).toNat : Int), 1) := by
  unfold nextS
  rw [dec_N]
  have : Go.Lib.decodeN (s.length - i) (List.getD s i 0).toNat (List.getD s (i + 1) 0).toNat (List.getD s (i + 2) 0).toNat (List.getD s (i + 3) 0).toNat = ((List.getD s i 0).toNat, 1) := by
    unfold Go.Lib.decodeN; rw [if_pos h]
  rw [this, if_neg (by simp only []; omega)]; rfl
theorem next_2 {s : Bytes} {i : Nat} {b0 b1 : Nat} (e0 : (List.getD s i 0).toNat = b0) (e1 : (List.getD s (i + 1) 0).toNat = b1) (h : 192 ≤ b0 ∧ b0 < 224) (h1 : i + 1 < s.length ∧ 128 ≤ b1 ∧ b1 < 192) (hc : 128 ≤ 64 * (b0 - 192) + (b1 - 128)) :
    nextS s i = (((64 * (b0 - 192) + (b1 - 128) : Nat) : Int), 2) := by
  unfold nextS
  rw [dec_N, e0, e1]
  have : Go.Lib.decodeN (s.length - i) b0 b1 (List.getD s (i + 2) 0).toNat (List.getD s (i + 3) 0).toNat = (64 * (b0 - 192) + (b1 - 128), 2) := by
    unfold Go.Lib.decodeN; rw [if_neg (by omega), if_pos (by omega), if_pos (by omega)]; exact Prod.ext (by simp only []; omega) rfl
  rw [this, if_neg (by simp only []; omega)]; rfl
theorem next_3 {s : Bytes} {i : Nat} {b0 b1 b2 : Nat} (e0 : (List.getD s i 0).toNat = b0) (e1 : (List.getD s (i + 1) 0).toNat = b1) (e2 : (List.getD s (i + 2) 0).toNat = b2) (h : 224 ≤ b0 ∧ b0 < 240) (h1 : i + 2 < s.length ∧ 128 ≤ b1 ∧ b1 < 192) (h2 : 128 ≤ b2 ∧ b2 < 192)
    (hc : 2048 ≤ 4096 * (b0 - 224) + 64 * (b1 - 128) + (b2 - 128)) (hc2 : 4096 * (b0 - 224) + 64 * (b1 - 128) + (b2 - 128) < 55296 ∨ 57343 < 4096 * (b0 - 224) + 64 * (b1 - 128) + (b2 - 128)) :
    nextS s i = (((4096 * (b0 - 224) + 64 * (b1 - 128) + (b2 - 128) : Nat) : Int), 3) := by
  unfold nextS
  rw [dec_N, e0, e1, e2]
  have : Go.Lib.decodeN (s.length - i) b0 b1 b2 (List.getD s (i + 3) 0).toNat = (4096 * (b0 - 224) + 64 * (b1 - 128) + (b2 - 128), 3) := by
    unfold Go.Lib.decodeN; rw [if_neg (by omega), if_neg (by omega), if_pos (by omega), if_pos (by omega)]; exact Prod.ext (by simp only []; omega) rfl
  rw [this, if_neg (by simp only []; omega)]; rfl
theorem next_4 {s : Bytes} {i : Nat} {b0 b1 b2 b3 : Nat} (e0 : (List.getD s i 0).toNat = b0) (e1 : (List.getD s (i + 1) 0).toNat = b1) (e2 : (List.getD s (i + 2) 0).toNat = b2) (e3 : (List.getD s (i + 3) 0).toNat = b3) (h : 240 ≤ b0 ∧ b0 < 248) (h1 : i + 3 < s.length ∧ 128 ≤ b1 ∧ b1 < 192) (h2 : 128 ≤ b2 ∧ b2 < 192) (h3 : 128 ≤ b3 ∧ b3 < 192)
    (hc : 65536 ≤ 262144 * (b0 - 240) + 4096 * (b1 - 128) + 64 * (b2 - 128) + (b3 - 128)) (hc2 : 262144 * (b0 - 240) + 4096 * (b1 - 128) + 64 * (b2 - 128) + (b3 - 128) ≤ 1114111) :
    nextS s i = (((262144 * (b0 - 240) + 4096 * (b1 - 128) + 64 * (b2 - 128) + (b3 - 128) : Nat) : Int), 4) := by
  unfold nextS
  rw [dec_N, e0, e1, e2, e3]
  have : Go.Lib.decodeN (s.length - i) b0 b1 b2 b3 = (262144 * (b0 - 240) + 4096 * (b1 - 128) + 64 * (b2 - 128) + (b3 - 128), 4) := by
    unfold Go.Lib.decodeN; rw [if_neg (by omega), if_neg (by omega), if_neg (by omega), if_pos (by omega), if_pos (by omega)]; exact Prod.ext (by simp only []; omega) rfl
  rw [this, if_neg (by simp only []; omega)]; rfl
theorem next_bad {s : Bytes} {i : Nat} {b0 b1 b2 b3 : Nat} (hi : i < s.length) (e0 : (List.getD s i 0).toNat = b0) (e1 : (List.getD s (i + 1) 0).toNat = b1) (e2 : (List.getD s (i + 2) 0).toNat = b2) (e3 : (List.getD s (i + 3) 0).toNat = b3) (l0 : b0 < 256) (l1 : b1 < 256) (l2 : b2 < 256) (l3 : b3 < 256)
    (h1 : ¬ b0 < 128) (h2 : ¬ ((192 ≤ b0 ∧ b0 < 224) ∧ (i + 1 < s.length ∧ 128 ≤ b1 ∧ b1 < 192) ∧ 128 ≤ 64 * (b0 - 192) + (b1 - 128)))
    (h3 : ¬ ((224 ≤ b0 ∧ b0 < 240) ∧ (i + 1 < s.length ∧ 128 ≤ b1 ∧ b1 < 192) ∧ (i + 2 < s.length ∧ 128 ≤ b2 ∧ b2 < 192) ∧ 2048 ≤ 4096 * (b0 - 224) + 64 * (b1 - 128) + (b2 - 128) ∧ (4096 * (b0 - 224) + 64 * (b1 - 128) + (b2 - 128) < 55296 ∨ 57343 < 4096 * (b0 - 224) + 64 * (b1 - 128) + (b2 - 128))))
    (h4 : ¬ ((240 ≤ b0 ∧ b0 < 248) ∧ (i + 1 < s.length ∧ 128 ≤ b1 ∧ b1 < 192) ∧ (i + 2 < s.length ∧ 128 ≤ b2 ∧ b2 < 192) ∧ (i + 3 < s.length ∧ 128 ≤ b3 ∧ b3 < 192) ∧ 65536 ≤ 262144 * (b0 - 240) + 4096 * (b1 - 128) + 64 * (b2 - 128) + (b3 - 128) ∧ 262144 * (b0 - 240) + 4096 * (b1 - 128) + 64 * (b2 - 128) + (b3 - 128) ≤ 1114111)) :
    nextS s i = (-1, 1) := by
  unfold nextS
  rw [dec_N, e0, e1, e2, e3]
  have : Go.Lib.decodeN (s.length - i) b0 b1 b2 b3 = (65533, 1) := by
    rcases Go.Lib.decodeN_shape (s.length - i) b0 b1 b2 b3 with ⟨c, e⟩ | ⟨c1, c2, c3, cv, e⟩ | ⟨c1, c2, c3, c4, cv, cs, e⟩ | ⟨c1, c2, c3, c4, c5, cv, cw, e⟩ | e
    · exact absurd c h1
    · exfalso; apply h2; omega
    · exfalso; apply h3; omega
    · exfalso; apply h4; omega
    · exact e
  rw [this, if_pos ⟨rfl, rfl⟩]
theorem next_size {s : Bytes} {i : Nat} (h : i < s.length) : (nextS s i).2 = ((decS s i).2 : Int) := by
  unfold nextS
  split
  · rename_i q; rw [q.2]; rfl
  · rfl
theorem bad_dec {s : Bytes} {i : Nat} (h : i < s.length) : badR ((decS s i).1, List.take (decS s i).2 (List.drop i s)) = decide ((nextS s i).1 < 0) := by
  have hd := dec_ok h
  unfold badR nextS
  simp only [List.length_take, List.length_drop]
  rw [Nat.min_eq_left (by omega)]
  by_cases h1 : (decS s i).1 = 65533 ∧ (decS s i).2 = 1
  · rw [if_pos h1, h1.1, h1.2]; rfl
  · rw [if_neg h1, decide_eq_false (show ¬ (((decS s i).1 : Int), ((decS s i).2 : Int)).1 < 0 by simp only []; omega)]
    rw [Bool.and_eq_false_iff, decide_eq_false_iff_not, decide_eq_false_iff_not]
    omega

/-! ### pieces -/
def piecesS : Bytes → List Bytes
  | [] => [[]]
  | b :: s => if b = 47 then [] :: piecesS s else match piecesS s with
    | [] => [[b]]
    | p :: ps => (b :: p) :: ps
def joinS : List Bytes → Bytes
  | [] => []
  | [p] => p
  | p :: q :: l => p ++ 47 :: joinS (q :: l)
theorem pieces_ne (s : Bytes) : piecesS s ≠ [] := by
  cases s with
  | nil => simp [piecesS]
  | cons b s =>
    unfold piecesS
    split
    · simp
    · split <;> simp
theorem pieces_none : ∀ {a : Bytes}, (47 : UInt8) ∉ a → piecesS a = [a]
  | [], _ => rfl
  | b :: a, h => by
    simp only [List.mem_cons, not_or] at h
    unfold piecesS
    rw [if_neg (fun e => h.1 e.symm), pieces_none h.2]
theorem pieces_app : ∀ {a : Bytes} (s : Bytes), (47 : UInt8) ∉ a → piecesS (a ++ 47 :: s) = a :: piecesS s
  | [], s, _ => by simp [piecesS]
  | b :: a, s, h => by
    simp only [List.mem_cons, not_or] at h
    rw [List.cons_append, piecesS, if_neg (fun e => h.1 e.symm), pieces_app s h.2]
theorem pieces_len (s : Bytes) : (piecesS s).length = s.count 47 + 1 := by
  induction s with
  | nil => rfl
  | cons b s ih =>
    unfold piecesS
    by_cases e : b = 47
    · subst e; rw [if_pos rfl, List.length_cons, ih, List.count_cons_self]
    · rw [if_neg e, List.count_cons_of_ne e]
      cases hp : piecesS s with
      | nil => exact absurd hp (pieces_ne s)
      | cons p ps => rw [hp] at ih; simpa using ih
theorem pieces_mem {s p : Bytes} (h : p ∈ piecesS s) : (47 : UInt8) ∉ p := by
  induction s generalizing p with
  | nil => rw [List.mem_singleton.1 (show p ∈ [[]] from h)]; simp
  | cons b s ih =>
    unfold piecesS at h
    split at h
    · rcases List.mem_cons.1 h with rfl | h
      · simp
      · exact ih h
    · rename_i hb
      split at h
      · rename_i hp; exact absurd hp (pieces_ne s)
      · rename_i q qs hp
        rcases List.mem_cons.1 h with rfl | h
        · have := ih (p := q) (by rw [hp]; simp)
          simp only [List.mem_cons, not_or]
          exact ⟨fun e => hb e.symm, this⟩
        · exact ih (by rw [hp]; exact List.mem_cons_of_mem _ h)
theorem join_pieces (s : Bytes) : joinS (piecesS s) = s := by
  induction s with
  | nil => rfl
  | cons b s ih =>
    unfold piecesS
    split
    · rename_i e
      subst e
      cases hp : piecesS s with
      | nil => exact absurd hp (pieces_ne s)
      | cons p ps => rw [hp] at ih; show [] ++ 47 :: joinS (p :: ps) = _; rw [ih]; rfl
    · split
      · rename_i hp; exact absurd hp (pieces_ne s)
      · rename_i p ps hp
        rw [hp] at ih
        cases ps with
        | nil => show b :: p = _; rw [show p = s from ih]
        | cons q ps => show (b :: p) ++ 47 :: joinS (q :: ps) = _; rw [← ih]; rfl
theorem pieces_join : ∀ {l : List Bytes}, (∀ p ∈ l, (47 : UInt8) ∉ p) → l ≠ [] → piecesS (joinS l) = l
  | [], _, h => absurd rfl h
  | [p], h, _ => pieces_none (h p (by simp))
  | p :: q :: l, h, _ => by
    show piecesS (p ++ 47 :: joinS (q :: l)) = _
    rw [pieces_app _ (h p (by simp)), pieces_join (fun x hx => h x (List.mem_cons_of_mem _ hx)) (by simp)]
theorem pieces_one {s : Bytes} : (piecesS s).length = 1 ↔ (47 : UInt8) ∉ s := by
  rw [pieces_len, ← List.count_eq_zero]; omega
theorem index_none {s : Bytes} (h : Go.Lib.indexByte s 47 < 0) : (47 : UInt8) ∉ s := by
  induction s with
  | nil => simp
  | cons b s ih =>
    unfold Go.Lib.indexByte at h
    split at h
    · omega
    · rename_i hb
      have hg := Go.Lib.indexByte_ge s 47
      simp only [List.mem_cons, not_or]
      refine ⟨fun e => hb (by simp [e]), ih ?_⟩
      split at h
      · rename_i h1; simp only [beq_iff_eq] at h1; omega
      · omega
theorem index_some {s : Bytes} (h : 0 ≤ Go.Lib.indexByte s 47) : (Go.Lib.indexByte s 47).toNat < s.length ∧ (47 : UInt8) ∉ List.take (Go.Lib.indexByte s 47).toNat s ∧ s = List.take (Go.Lib.indexByte s 47).toNat s ++ 47 :: List.drop ((Go.Lib.indexByte s 47).toNat + 1) s := by
  induction s with
  | nil => simp [Go.Lib.indexByte] at h
  | cons b s ih =>
    unfold Go.Lib.indexByte at h ⊢
    by_cases hb : b = 47
    · subst hb; simp
    · have e1 : (b == (47 : UInt8)) = false := by simpa using hb
      rw [e1] at h ⊢
      simp only [Bool.false_eq_true, if_false] at h ⊢
      have hg := Go.Lib.indexByte_ge s 47
      by_cases h1 : Go.Lib.indexByte s 47 = -1
      · rw [h1] at h; simp at h
      · rw [if_neg (by simpa using h1)] at h ⊢
        obtain ⟨i1, i2, i3⟩ := ih (by omega)
        have e : (Go.Lib.indexByte s 47 + 1).toNat = (Go.Lib.indexByte s 47).toNat + 1 := by omega
        rw [e]
        refine ⟨by simp only [List.length_cons]; omega, ?_, ?_⟩
        · simp only [List.take_succ_cons, List.mem_cons, not_or]; exact ⟨fun q => hb q.symm, i2⟩
        · simp only [List.take_succ_cons, List.drop_succ_cons, List.cons_append]
          rw [← i3]
end AL.Rune
