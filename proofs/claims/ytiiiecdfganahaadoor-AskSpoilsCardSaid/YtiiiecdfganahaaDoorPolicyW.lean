/- policy: lay, walked by hand: a builder of the call's own, written in a loop over the letters. No condition. -/
import Derived.Test.YtiiiecdfganahaaDoorPolicyA
import Derived.Test.YtiiiecdfganahaaDoorShelfW
import Derived.Test.YtiiiecdfganahaaDoorALe
import Derived.Lib.OthersKept
import Derived.Lib.RuneBytes
import Derived.WalkKit
import Derived.BigCall
namespace AL.Policy
open Go Go.Proofs Go.RowKit AL AL.Rune
set_option linter.unusedVariables false
set_option linter.unusedSimpArgs false

theorem and_1 : ∀ m : Nat, m < 256 → (bits BinOp.and IntKind.u8 (m : Int) 1 == 1) = decide ((m : Int) % 2 = 1) := by decide +kernel
theorem bit_and {n : Int} (h0 : 0 ≤ n) (h1 : n ≤ 255) (pos : Nat) : (bits BinOp.and IntKind.u8 (n / 2 ^ pos) 1 == 1) = bitN n pos := by
  have hr := shr_rng h0 (by omega : n < 256) pos
  unfold shrN at hr
  obtain ⟨m, hm⟩ := Int.eq_ofNat_of_zero_le hr.1
  unfold bitN
  rw [hm]
  exact and_1 m (by omega)
theorem dec_lets : ∀ pos, pos < 6 → decS lets pos = ((List.getD lets pos 0).toNat, 1) ∧ Go.Lib.encodeRune (((List.getD lets pos 0).toNat : Nat) : Int) = [List.getD lets pos 0] := by decide +kernel
set_option maxHeartbeats 6400000 in
set_option maxRecDepth 1000000 in
theorem lay_walk (n : Int) (h0 : 0 ≤ n) (h1 : n ≤ 255) (w : World) :
    Calls Tryd.prog 56 #[.int .u8 n] w fun e w' => e = .returned (.string (ba (layS n))) ∧ Below w.heap.size w w' := by
  go_enter Tryd.func56, Tryd.ntmps56
  go_wp2
  go_loopw [7] (fun _ wr => ∃ pos : Nat, pos ≤ 6 ∧ Go.Lib.IsBuilderF 106 5 w.heap.size w.heap.size (Go.Lib.byteCells (layK n pos)) wr ∧ wr.heap[w.heap.size + 1]? = some (.stringIter (ba lets) pos) ∧ Below w.heap.size w wr)
    (fun _ wr => 6 - wr.iterPos (w.heap.size + 1))
  case atStart =>
    refine ⟨0, Nat.zero_le _, (Go.Lib.IsBuilderF.of (Go.Lib.fresh_isBuilder 106 5 w)).alloc _, ?_, ((Below.refl _ w).alloc (Nat.le_refl _) _).alloc (by simp) _⟩
    have := World.iter_heap (w.alloc (.cells #[.pointer none, .slice none 0 0] 106)) (ba lets) 0
    have e : ba lets = ⟨#[114, 119, 100, 120, 108, 115]⟩ := rfl
    rw [e] at this ⊢
    simpa using this
  case round =>
    obtain ⟨pos, hps, hI, hit, hbw⟩ := hrel
    have hlt : w.heap.size + 1 < wr.heap.size := (Array.getElem?_eq_some_iff.1 hit).1
    have hmu : wr.iterPos (w.heap.size + 1) = pos := by simp [World.iterPos, hit]
    by_cases hp : pos < 6
    · have hnx : ∀ ty, (Instr.next (.pointer (some ⟨w.heap.size + 1, 0, none⟩)) true ty).run Tryd.prog wr = Result.ok (Value.tuple #[Value.bool true, Value.int .i64 (pos : Int), Value.int .i32 ((decS lets pos).1 : Int)]) (wr.iterAt (w.heap.size + 1) (ba lets) (pos + (decS lets pos).2)) := fun ty => Go.Lib.run_next_any_at wr (w.heap.size + 1) (ba lets) pos ty hit (by show pos < 6; exact hp)
      have hd := dec_ok (s := lets) (pos := pos) hp
      have hI2 := hI.iterAt hit (pos + (decS lets pos).2)
      have hit2 := Go.Lib.iterAt_heap wr (w.heap.size + 1) (ba lets) pos (pos + (decS lets pos).2) hit
      have hbw2 := Go.Lib.below_iterAt hbw (k := w.heap.size + 1) (by omega) (ba lets) (pos + (decS lets pos).2)
      have hsz2 : w.heap.size + 1 < (wr.iterAt (w.heap.size + 1) (ba lets) (pos + (decS lets pos).2)).heap.size := by rw [Go.Lib.iterAt_size]; exact hlt
      generalize wr.iterAt (w.heap.size + 1) (ba lets) (pos + (decS lets pos).2) = W1 at hnx hI2 hit2 hbw2 hsz2
      have hrm := dec_max lets pos
      have hll := lay_len n pos
      cases hb : bitN n pos with
      | true =>
        have hbt := (bit_and h0 h1 pos).trans hb
        go_wp2_with (go_at_call 70; go_loud (refine (Tryd.WriteRune_k w.heap.size w.heap.size _ _ (by omega) (by omega) _ hI2 (by rw [Go.Lib.byteCells_length]; omega) (hbw2.size)).mono ?_); rintro e W3 ⟨rfl, h1, b1, k1⟩)
        go_wp2
        go_roundw
        case rel =>
          obtain ⟨d1, d2⟩ := dec_lets pos hp
          refine ⟨pos + (decS lets pos).2, by rw [d1]; exact hp, ?_, k1.iter hit2 (by omega), hbw2.trans b1⟩
          rw [d1] at h1 ⊢
          rw [lay_t hb, Go.Lib.byteCells_append]
          rw [← d2, Go.Lib.byteCells_encodeRune]; exact .inr h1
        case measure =>
          simp only [World.iterPos, k1.iter hit2 (by omega), hit]
          omega
      | false =>
        have hbt := (bit_and h0 h1 pos).trans hb
        go_wp2
        go_roundw
        case rel =>
          obtain ⟨d1, d2⟩ := dec_lets pos hp
          refine ⟨pos + (decS lets pos).2, by rw [d1]; exact hp, ?_, hit2, hbw2⟩
          rw [d1]
          rw [lay_f hb]; exact hI2
        case measure =>
          simp only [World.iterPos, hit2, hit]
          omega
    · have hnx : ∀ ty, (Instr.next (.pointer (some ⟨w.heap.size + 1, 0, none⟩)) true ty).run Tryd.prog wr = _ := fun ty => Go.Lib.run_next_end_at wr (w.heap.size + 1) (ba lets) pos ty hit (by show ¬ pos < 6; exact hp)
      go_wp2_with (go_at_call 69; refine (Tryd.Builder_String_any_k w.heap.size w.heap.size (layK n pos) wr hI hbw.size).mono ?_; rintro e W1 ⟨rfl, _, hb1, _⟩)
      go_wp2
      go_ret
      refine ⟨?_, hbw.trans hb1⟩
      rw [show pos = 6 by omega, lay_6 h0]; rfl
theorem lay_c (n : Int) : Pure Tryd.prog 56 [tc (u8 n)] (vc (st (layS n))) := by
  refine Pure.of_below ⟨_, Tryd.func56, by kernel_rfl, by kernel_rfl⟩ fun Γ w cargs hh hm => ?_
  obtain ⟨u, rfl, ⟨rfl, hu⟩⟩ := args1 hm
  rw [inR8_iff] at hu
  refine (lay_walk n hu.1 hu.2 w).mono ?_
  rintro e w' ⟨rfl, hb⟩
  have h := layS_len n
  exact ⟨_, rfl, hb, rfl, by simp only [maxLen]; omega⟩
end AL.Policy
