/- route: Clean, walked by hand: a builder of the call's own, written in a loop over a text's runes; the library's DecodeRuneInString. No condition. -/
import Derived.Test.YtnhbmbpdcoookaaDoorRouteE
import Derived.Test.YtnhbmbpdcoookaaDoorRouteA
import Derived.Test.YtnhbmbpdcoookaaDoorShelfW
import Derived.Lib.OthersKept
import Derived.Lib.RuneBytes
import Derived.WalkKit
import Derived.BigCall
namespace AL.Route
open Go Go.Proofs Go.RowKit AL AL.Rune
set_option linter.unusedVariables false
set_option linter.unusedSimpArgs false

theorem decG_eq {s : Bytes} (h : s ≠ []) : Go.Lib.decodeGo (ba s) = decS s 0 := by
  unfold Go.Lib.decodeGo
  rw [if_neg (by rw [size_ba]; intro e; exact h (List.eq_nil_of_length_eq_zero e))]; rfl
theorem DecodeRune_c (s : Bytes) (h : s ≠ []) : Pure Tryd.prog 32 [tc (st s)] (.tup [tc (i3 ((decS s 0).1 : Int)), tc (i6 ((decS s 0).2 : Int))]) := by
  refine Pure.of_below ⟨_, Tryd.func32, by kernel_rfl, by kernel_rfl⟩ fun Γ w cargs hh hm => ?_
  obtain ⟨u, rfl, ⟨rfl, hu⟩⟩ := args1 hm
  obtain ⟨_, _, hT⟩ := hh.glob
  refine (Tryd.utf8_DecodeRuneInString (ba s) w hT).mono ?_
  rintro e w' ⟨rfl, hb⟩
  rw [decG_eq h]
  have hd := dec_ok (s := s) (pos := 0) (List.length_pos_iff.2 h)
  simp only [maxLen] at hu
  exact ⟨_, rfl, hb, #[.int .i32 (decS s 0).1, .int .i64 (decS s 0).2], rfl, ⟨rfl, dec_rune s 0⟩, ⟨rfl, inR64 (by omega) (by omega)⟩, trivial⟩

theorem builder_below {T e : TypeId} {B b : Nat} {bs : List Value} {w w' : World} (h : Go.Lib.IsBuilderF T e B b bs w) (hb : Below w.heap.size w w') : Go.Lib.IsBuilderF T e B b bs w' := by
  have key : ∀ p, Go.Lib.BuilderAtF T e B b p bs w → Go.Lib.BuilderAtF T e B b p bs w' := by
    rintro p ⟨hB, v, hbk, ⟨ho1, ho2⟩, hne⟩
    refine ⟨hB, v, (hb.block b (Array.getElem?_eq_some_iff.1 hbk).1).trans hbk, ⟨ho1, ?_⟩, hne⟩
    rcases ho2 with hn | ⟨g, cap, cur, fz, hv, hbg, hg, rest⟩
    · exact .inl hn
    · exact .inr ⟨g, cap, cur, fz, hv, hbg, (hb.block g (Array.getElem?_eq_some_iff.1 hg).1).trans hg, rest⟩
  exact h.elim (fun x => .inl (key _ x)) (fun x => .inr (key _ x))

/-- What is left to clean from a place on. -/
def CleanAt (s : Bytes) (pos : Nat) (acc : Bytes) : Prop := cleanS s = acc ++ cleanE (runesS (List.drop pos s))
theorem cat_0 (s : Bytes) : CleanAt s 0 [] := by unfold CleanAt; rw [List.drop_zero, clean_E, List.nil_append]
theorem cat_hit {s : Bytes} {pos : Nat} {o : Bytes} (h : pos < s.length) (hC : CleanAt s pos o) (hc : runeOk ((decS s pos).1 : Int) = true) : CleanAt s (pos + (decS s pos).2) (o ++ Go.Lib.encodeRune ((decS s pos).1 : Int)) := by
  have hc' : okR ((decS s pos).1, List.take (decS s pos).2 (List.drop pos s)) = true := hc
  unfold CleanAt cleanE at *
  rw [hC, runes_at h, List.filter_cons, if_pos hc', List.map_cons, List.flatten_cons, List.append_assoc]
theorem cat_not {s : Bytes} {pos : Nat} {o : Bytes} (h : pos < s.length) (hC : CleanAt s pos o) (hc : runeOk ((decS s pos).1 : Int) = false) : CleanAt s (pos + (decS s pos).2) o := by
  have hc' : okR ((decS s pos).1, List.take (decS s pos).2 (List.drop pos s)) = false := hc
  unfold CleanAt cleanE at *
  rw [hC, runes_at h, List.filter_cons, if_neg (by rw [hc']; decide)]
theorem cat_end {s : Bytes} {pos : Nat} {o : Bytes} (h : s.length ≤ pos) (hC : CleanAt s pos o) : cleanS s = o := by
  unfold CleanAt cleanE at hC
  rw [hC, runes_end h]; simp
theorem cat_len {s : Bytes} {pos : Nat} {o : Bytes} (hC : CleanAt s pos o) : o.length ≤ s.length := by
  have h := lc_le (s := s) (pos := s.length) (o := cleanS s) (by unfold LeftClean; rw [runes_end (Nat.le_refl _)]; simp)
  unfold CleanAt at hC
  rw [hC, List.length_append] at h; omega

set_option maxHeartbeats 6400000 in
set_option maxRecDepth 1000000 in
theorem clean_walk (s : Bytes) (hs : s.length ≤ 100000) (Γ : Ctx) (w : World) (hh : HeapOk Γ H0 w) :
    Calls Tryd.prog 16 #[.string (ba s)] w fun e w' => e = .returned (.string (ba (cleanS s))) ∧ Below w.heap.size w w' := by
  have hsz : (ba s).size = s.length := size_ba s
  go_enter Tryd.func16, Tryd.ntmps16
  go_wp2
  go_loopw [5] (fun _ wr => ∃ (pos : Nat) (acc : Bytes), pos ≤ s.length ∧ Go.Lib.IsBuilderF 49 5 w.heap.size w.heap.size (Go.Lib.byteCells acc) wr ∧ wr.heap[w.heap.size + 1]? = some (.stringIter (ba s) pos) ∧ Below w.heap.size w wr ∧ CleanAt s pos acc)
    (fun _ wr => s.length - wr.iterPos (w.heap.size + 1))
  case atStart =>
    refine ⟨0, [], Nat.zero_le _, (Go.Lib.IsBuilderF.of (Go.Lib.fresh_isBuilder 49 5 w)).alloc _, ?_, ((Below.refl _ w).alloc (Nat.le_refl _) _).alloc (by simp) _, cat_0 s⟩
    have := World.iter_heap (w.alloc (.cells #[.pointer none, .slice none 0 0] 49)) (ba s) 0
    simpa using this
  case round =>
    obtain ⟨pos, acc, hps, hI, hit, hbw, hacc⟩ := hrel
    have hlt : w.heap.size + 1 < wr.heap.size := (Array.getElem?_eq_some_iff.1 hit).1
    have hmu : wr.iterPos (w.heap.size + 1) = pos := by simp [World.iterPos, hit]
    by_cases hp : pos < s.length
    · have hnx : ∀ ty, (Instr.next (.pointer (some ⟨w.heap.size + 1, 0, none⟩)) true ty).run Tryd.prog wr = Result.ok (Value.tuple #[Value.bool true, Value.int .i64 (pos : Int), Value.int .i32 ((decS s pos).1 : Int)]) (wr.iterAt (w.heap.size + 1) (ba s) (pos + (decS s pos).2)) := fun ty => Go.Lib.run_next_any_at wr (w.heap.size + 1) (ba s) pos ty hit (by rw [hsz]; exact hp)
      have hd := dec_ok hp
      have hI2 := hI.iterAt hit (pos + (decS s pos).2)
      have hit2 := Go.Lib.iterAt_heap wr (w.heap.size + 1) (ba s) pos (pos + (decS s pos).2) hit
      have hbw2 := Go.Lib.below_iterAt hbw (k := w.heap.size + 1) (by omega) (ba s) (pos + (decS s pos).2)
      have hsz2 : w.heap.size + 1 < (wr.iterAt (w.heap.size + 1) (ba s) (pos + (decS s pos).2)).heap.size := by rw [Go.Lib.iterAt_size]; exact hlt
      have hacl := cat_len hacc
      have hrm := dec_max s pos
      generalize wr.iterAt (w.heap.size + 1) (ba s) (pos + (decS s pos).2) = W1 at hnx hI2 hit2 hbw2 hsz2
      have hhW : HeapOk Γ H0 W1 := hh.below hbw2
      cases hok : runeOk ((decS s pos).1 : Int) with
      | true =>
        go_wp2_with (go_at_call 8; refine ((Rune_c ((decS s pos).1 : Int)).below (cargs := #[Value.int .i32 ((decS s pos).1 : Int)]) hhW ⟨⟨rfl, dec_rune s pos⟩, trivial⟩).mono ?_; rintro e W2 ⟨v, Γ', rfl, hv, hb2⟩; obtain rfl : v = .bool true := by have : v = .bool (runeOk _) := hv; rw [this, hok])
        have hI3 := builder_below hI2 hb2
        have hit3 := (hb2.block _ hsz2).trans hit2
        have hbw3 : Below w.heap.size w W2 := hbw2.trans (hb2.mono (by omega))
        have hsz3 : w.heap.size ≤ W2.heap.size := hbw3.size
        go_wp2_with (go_at_call 25; refine (Tryd.WriteRune_k w.heap.size w.heap.size _ _ (by omega) (by omega) _ hI3 (by rw [Go.Lib.byteCells_length]; omega) hsz3).mono ?_; rintro e W3 ⟨rfl, h1, b1, k1⟩)
        go_wp2
        go_roundw
        case rel =>
          refine ⟨pos + (decS s pos).2, acc ++ Go.Lib.encodeRune ((decS s pos).1 : Int), by omega, ?_, k1.iter hit3 (by omega), hbw3.trans b1, cat_hit hp hacc hok⟩
          rw [Go.Lib.byteCells_append, Go.Lib.byteCells_encodeRune]; exact .inr h1
        case measure =>
          simp only [World.iterPos, k1.iter hit3 (by omega), hit]
          omega
      | false =>
        go_wp2_with (go_at_call 8; refine ((Rune_c ((decS s pos).1 : Int)).below (cargs := #[Value.int .i32 ((decS s pos).1 : Int)]) hhW ⟨⟨rfl, dec_rune s pos⟩, trivial⟩).mono ?_; rintro e W2 ⟨v, Γ', rfl, hv, hb2⟩; obtain rfl : v = .bool false := by have : v = .bool (runeOk _) := hv; rw [this, hok])
        have hI3 := builder_below hI2 hb2
        have hit3 := (hb2.block _ hsz2).trans hit2
        have hbw3 : Below w.heap.size w W2 := hbw2.trans (hb2.mono (by omega))
        go_wp2
        go_roundw
        case rel => exact ⟨pos + (decS s pos).2, acc, by omega, hI3, hit3, hbw3, cat_not hp hacc hok⟩
        case measure =>
          simp only [World.iterPos, hit3, hit]
          omega
    · have hnx : ∀ ty, (Instr.next (.pointer (some ⟨w.heap.size + 1, 0, none⟩)) true ty).run Tryd.prog wr = _ := fun ty => Go.Lib.run_next_end_at wr (w.heap.size + 1) (ba s) pos ty hit (by rw [hsz]; exact hp)
      go_wp2_with (go_at_call 26; refine (Tryd.Builder_String_any_k w.heap.size w.heap.size acc wr hI hbw.size).mono ?_; rintro e W1 ⟨rfl, _, hb1, _⟩)
      go_wp2
      go_ret
      refine ⟨?_, hbw.trans hb1⟩
      rw [cat_end (by omega) hacc]; rfl
theorem Clean_c (s : Bytes) (hs : s.length ≤ 100000) : Pure Tryd.prog 16 [tc (st s)] (vc (st (cleanS s))) := by
  refine Pure.of_below ⟨_, Tryd.func16, by kernel_rfl, by kernel_rfl⟩ fun Γ w cargs hh hm => ?_
  obtain ⟨u, rfl, ⟨rfl, hu⟩⟩ := args1 hm
  refine (clean_walk s hs Γ w hh).mono ?_
  rintro e w' ⟨rfl, hb⟩
  have h := lc_le (s := s) (pos := s.length) (o := cleanS s) (by unfold LeftClean; rw [runes_end (Nat.le_refl _)]; simp)
  exact ⟨_, rfl, hb, rfl, by simp only [maxLen]; omega⟩
end AL.Route
