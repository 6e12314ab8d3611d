/- under: the contracts of its functions, by their walks. No condition. -/
import Derived.Test.YtkpgnlcjolmdlaaDoorCutE
namespace AL.Under
open Go Go.Proofs AL AL.Fnv
set_option linter.unusedVariables false
set_option linter.unusedSimpArgs false

theorem f67_body : Tryd.f67.body = some (.seq (.region 0 (rg Tryd.f67 0) false) (.seq (.seq (.region 1 (rg Tryd.f67 1) false) (.cond (.tmp 9) (.seq (.region 2 (rg Tryd.f67 2) false) (.ret)) (.skip))) (.seq (.region 3 (rg Tryd.f67 3) false) (.seq (.seq (.region 4 (rg Tryd.f67 4) false) (.cond (.tmp 20) (.seq (.region 5 (rg Tryd.f67 5) false) (.ret)) (.skip))) (.seq (.region 6 (rg Tryd.f67 6) false) (.ret)))))) := by kernel_rfl

set_option maxRecDepth 100000 in
set_option maxHeartbeats 8000000 in
theorem rest_c (s top : Bytes) : Pure Tryd.prog 67 [tc (st s), tc (st top)] (AV.tup [tc (st ((restS s top).1)), tc (bo ((restS s top).2))]) := by
  refine Pure.of_body Tryd.func67 f67_body (by kernel_rfl) Tryd.ntmps67 (by kernel_rfl) (by kernel_rfl) ?_
  refine AMx.seq ?_
  refine AMx.region (ces := []) (ks := [0, 1]) (hs := []) (cs := []) (s' := AS.lst 25 [(0, vc (st s)), (1, vc (st top))] []) (by kernel_rfl) ?_ ?_
  · exact trivial
  refine AMx.seq ?_
  refine AMx.seq ?_
  refine AMx.region (ces := []) (ks := [0, 1, 9]) (hs := []) (cs := []) (s' := AS.lst 25 [(0, vc (st s)), (1, vc (st top)), (9, vc (bo (decide (top = []))))] []) (by kernel_rfl) ?_ ?_
  · exact trivial
  refine AMx.cond (b := decide (top = [])) (by kernel_rfl) (fun hc1 => ?_) (fun hc1 => ?_)
  · try simp only [decide_eq_true_eq, decide_eq_false_iff_not] at hc1
    refine AMx.seq ?_
    refine AMx.region (ces := []) (ks := [4, 5]) (hs := []) (cs := []) (s' := AS.lst 25 [(4, vc (st s)), (5, vc (bo (!decide (s = []))))] []) (by kernel_rfl) ?_ ?_
    · exact trivial
    refine AMx.ret ?_
    exact RetP.mk (r := AV.tup [tc (st s), tc (bo (!decide (s = [])))]) (by kernel_rfl) (by rw [show restS s top = (s, !decide (s = [])) from by unfold restS; simp [*]])
  · try simp only [decide_eq_true_eq, decide_eq_false_iff_not] at hc1
    refine AMx.skip ?_
    refine AMx.seq ?_
    refine AMx.region (ces := [(2, CE.call [] [] (AV.tup [tc (st (trimP s top)), tc (bo (hasP s top))]) [])]) (ks := [6, 7]) (hs := []) (cs := [Spec Tryd.prog 79 [tc (st s), tc (st top)] (ofH []) (AV.tup [tc (st (trimP s top)), tc (bo (hasP s top))]) (ofH [])]) (s' := AS.lst 25 [(6, vc (st (trimP s top))), (7, vc (bo (hasP s top)))] []) (by kernel_rfl) ?_ ?_
    · exact (CutPrefix_c s top)
    refine AMx.seq ?_
    refine AMx.seq ?_
    refine AMx.region (ces := []) (ks := [6, 20]) (hs := []) (cs := []) (s' := AS.lst 25 [(6, vc (st (trimP s top))), (20, vc (bo (!(hasP s top))))] []) (by kernel_rfl) ?_ ?_
    · exact trivial
    refine AMx.cond (b := !(hasP s top)) (by kernel_rfl) (fun hc2 => ?_) (fun hc2 => ?_)
    · try simp only [decide_eq_true_eq, decide_eq_false_iff_not, Bool.not_eq_true', Bool.not_eq_false'] at hc2
      refine AMx.seq ?_
      refine AMx.region (ces := []) (ks := [4, 5]) (hs := []) (cs := []) (s' := AS.lst 25 [(4, vc (st [])), (5, vc (bo false))] []) (by kernel_rfl) ?_ ?_
      · exact trivial
      refine AMx.ret ?_
      exact RetP.mk (r := AV.tup [tc (st []), tc (bo false)]) (by kernel_rfl) (by rw [show restS s top = ([], false) from by unfold restS; simp [*]])
    · try simp only [decide_eq_true_eq, decide_eq_false_iff_not, Bool.not_eq_true', Bool.not_eq_false'] at hc2
      refine AMx.skip ?_
      refine AMx.seq ?_
      refine AMx.region (ces := [(1, CE.call [] [] (AV.tup [tc (st (trimP (trimP s top) [47])), tc (bo (hasP (trimP s top) [47]))]) [])]) (ks := [4, 5]) (hs := []) (cs := [Spec Tryd.prog 79 [tc (st (trimP s top)), tc (st [47])] (ofH []) (AV.tup [tc (st (trimP (trimP s top) [47])), tc (bo (hasP (trimP s top) [47]))]) (ofH [])]) (s' := AS.lst 25 [(4, vc (st (trimP (trimP s top) [47]))), (5, vc (bo (hasP (trimP s top) [47])))] []) (by kernel_rfl) ?_ ?_
      · exact (CutPrefix_c (trimP s top) [47])
      refine AMx.ret ?_
      exact RetP.mk (r := AV.tup [tc (st (trimP (trimP s top) [47])), tc (bo (hasP (trimP s top) [47]))]) (by kernel_rfl) (by rw [show restS s top = (trimP (trimP s top) [47], hasP (trimP s top) [47]) from by unfold restS; simp [*]])

theorem f56_body : Tryd.f56.body = some (.seq (.region 0 (rg Tryd.f56 0) false) (.seq (.region 1 (rg Tryd.f56 1) false) (.seq (.region 2 (rg Tryd.f56 2) false) (.ret)))) := by kernel_rfl

set_option maxRecDepth 100000 in
set_option maxHeartbeats 8000000 in
theorem Below_c (s top : Bytes) : Pure Tryd.prog 56 [tc (st s), tc (st top)] (vc (bo (belowS s top))) := by
  refine Pure.of_body Tryd.func56 f56_body (by kernel_rfl) Tryd.ntmps56 (by kernel_rfl) (by kernel_rfl) ?_
  refine AMx.seq ?_
  refine AMx.region (ces := []) (ks := [0, 1]) (hs := []) (cs := []) (s' := AS.lst 14 [(0, vc (st s)), (1, vc (st top))] []) (by kernel_rfl) ?_ ?_
  · exact trivial
  refine AMx.seq ?_
  refine AMx.region (ces := [(2, CE.call [] [] (AV.tup [tc (st ((restS s top).1)), tc (bo ((restS s top).2))]) [])]) (ks := [6]) (hs := []) (cs := [Spec Tryd.prog 67 [tc (st s), tc (st top)] (ofH []) (AV.tup [tc (st ((restS s top).1)), tc (bo ((restS s top).2))]) (ofH [])]) (s' := AS.lst 14 [(6, vc (bo ((restS s top).2)))] []) (by kernel_rfl) ?_ ?_
  · exact (rest_c s top)
  refine AMx.seq ?_
  refine AMx.region (ces := []) (ks := [4]) (hs := []) (cs := []) (s' := AS.lst 14 [(4, vc (bo ((restS s top).2)))] []) (by kernel_rfl) ?_ ?_
  · exact trivial
  refine AMx.ret ?_
  exact RetP.mk (r := vc (bo ((restS s top).2))) (by kernel_rfl) rfl

theorem f44_body : Tryd.f44.body = some (.seq (.region 0 (rg Tryd.f44 0) false) (.seq (.region 1 (rg Tryd.f44 1) false) (.ret))) := by kernel_rfl

set_option maxRecDepth 100000 in
set_option maxHeartbeats 8000000 in
theorem Within_c (s top : Bytes) : Pure Tryd.prog 44 [tc (st s), tc (st top)] (vc (bo (withinS s top))) := by
  refine Pure.of_body Tryd.func44 f44_body (by kernel_rfl) Tryd.ntmps44 (by kernel_rfl) (by kernel_rfl) ?_
  refine AMx.seq ?_
  refine AMx.region (ces := []) (ks := [0, 1]) (hs := []) (cs := []) (s' := AS.lst 13 [(0, vc (st s)), (1, vc (st top))] []) (by kernel_rfl) ?_ ?_
  · exact trivial
  refine AMx.seq ?_
  refine AMx.region (ces := [(6, CE.call [] [] (vc (bo (belowS s top))) [])]) (ks := [4]) (hs := []) (cs := [((decide (s = top)) = false) → allP [], ((decide (s = top)) = false) → allP [], ((decide (s = top)) = false) → allP [(decide (s = top)) = false, (decide (s = top)) = false, Spec Tryd.prog 56 [tc (st s), tc (st top)] (ofH []) (vc (bo (belowS s top))) (ofH [])], (decide (s = top)) = false → allP [(decide (s = top)) = false]]) (s' := AS.lst 13 [(4, vc (bo ((decide (s = top)) || (belowS s top))))] []) (by kernel_rfl) ?_ ?_
  · exact ⟨(fun _ => trivial), (fun _ => trivial), (fun hp => by have hq := hp; (try simp only [decide_eq_true_eq, decide_eq_false_iff_not, Bool.and_eq_true, Bool.or_eq_true, Bool.and_eq_false_iff, Bool.or_eq_false_iff, Bool.not_eq_true', Bool.not_eq_false', Bool.not_eq_true, Bool.not_eq_false] at hq); exact ⟨hp, hp, (Below_c s top)⟩), (fun hp2 => (by first | exact hp2 | exact ⟨hp, hp2⟩))⟩
  refine AMx.ret ?_
  exact RetP.mk (r := vc (bo ((decide (s = top)) || (belowS s top)))) (by kernel_rfl) rfl

theorem f27_body : Tryd.f27.body = some (.seq (.region 0 (rg Tryd.f27 0) false) (.seq (.region 1 (rg Tryd.f27 1) false) (.seq (.seq (.region 2 (rg Tryd.f27 2) false) (.block 0 (.loop (.seq (.region 3 (rg Tryd.f27 3) false) (.seq (.cond (.tmp 12) (.skip) (.exit 0)) (.seq (.block 1 (.seq (.region 4 (rg Tryd.f27 4) false) (.seq (.region 5 (rg Tryd.f27 5) false) (.cond (.tmp 24) (.region 6 (rg Tryd.f27 6) false) (.skip))))) (.region 7 (rg Tryd.f27 7) false))))))) (.seq (.region 8 (rg Tryd.f27 8) false) (.ret))))) := by kernel_rfl

set_option maxRecDepth 100000 in
set_option maxHeartbeats 8000000 in
theorem Longest_c (s : Bytes) (l : List Bytes) : Pure Tryd.prog 27 [tc (st s), tc (slS l)] (vc (i6 (longestS s l))) := by
  refine Pure.of_body Tryd.func27 f27_body (by kernel_rfl) Tryd.ntmps27 (by kernel_rfl) (by kernel_rfl) ?_
  refine AMx.sl 1 (l := l) rfl (fun hl => ?_)
  simp only [maxLen] at hl
  refine AMx.seq ?_
  refine AMx.region (ces := []) (ks := [0, 1]) (hs := []) (cs := []) (s' := AS.lst 30 [(0, vc (st s)), (1, vc (slS l))] []) (by kernel_rfl) ?_ ?_
  · exact trivial
  refine AMx.seq ?_
  refine AMx.region (ces := []) (ks := [0, 1, 5, 6]) (hs := []) (cs := []) (s' := AS.lst 30 [(0, vc (st s)), (1, vc (slS l)), (5, vc (i6 (-1))), (6, vc (i6 (-1)))] []) (by kernel_rfl) ?_ ?_
  · exact trivial
  refine AMx.seq ?_
  refine AMx.seq ?_
  refine AMx.region (ces := []) (ks := [0, 5, 6, 9, 10, 11]) (hs := []) (cs := []) (s' := AS.lst 30 [(0, vc (st s)), (5, vc (i6 (-1))), (6, vc (i6 (-1))), (9, vc (slS l)), (10, vc (i6 (List.length l : Int))), (11, vc (i6 0))] []) (by kernel_rfl) ?_ ?_
  · exact trivial
  refine AMx.block ?_
  refine AMx.ent (s' := AS.lst 30 [(0, vc (st s)), (5, vc (i6 (-1))), (6, vc (i6 (-1))), (9, vc (slS l)), (10, vc (i6 (List.length l : Int))), (11, vc (i6 0))] []) (ent_proj [0, 5, 6, 9, 10, 11] []) ?_
  refine AMx.loop (fun mm ss => ∃ (k : Nat), (k ≤ l.length) ∧ mm = l.length - k ∧ ss = AS.lst 30 [(0, vc (st s)), (5, vc (i6 (longS s l k))), (6, vc (i6 (sizeS l (longS s l k)))), (9, vc (slS l)), (10, vc (i6 (List.length l : Int))), (11, vc (i6 (k : Int)))] []) ⟨0, ?_, rfl, ?_⟩ ?_
  · omega
  · rfl
  rintro mm ss ⟨k, hI, rfl, rfl⟩
  refine AMx.seq ?_
  refine AMx.region (ces := []) (ks := [0, 5, 6, 9, 10, 11, 12]) (hs := []) (cs := []) (s' := AS.lst 30 [(0, vc (st s)), (5, vc (i6 (longS s l k))), (6, vc (i6 (sizeS l (longS s l k)))), (9, vc (slS l)), (10, vc (i6 (List.length l : Int))), (11, vc (i6 (k : Int))), (12, vc (bo (decide ((k : Int) < (List.length l : Int)))))] []) (by kernel_rfl) ?_ ?_
  · exact trivial
  refine AMx.seq ?_
  refine AMx.cond (b := decide ((k : Int) < (List.length l : Int))) (by kernel_rfl) (fun hc1 => ?_) (fun hc1 => ?_)
  · try simp only [decide_eq_true_eq, decide_eq_false_iff_not] at hc1
    refine AMx.skip ?_
    refine AMx.seq ?_
    refine AMx.block ?_
    refine AMx.seq ?_
    refine AMx.region (ces := []) (ks := [0, 5, 6, 7, 8, 9, 10, 11]) (hs := []) (cs := [(0 : Int) ≤ (k : Int), (k : Int) < List.length l]) (s' := AS.lst 30 [(0, vc (st s)), (5, vc (i6 (longS s l k))), (6, vc (i6 (sizeS l (longS s l k)))), (7, vc (i6 (k : Int))), (8, vc (st (List.getD l k []))), (9, vc (slS l)), (10, vc (i6 (List.length l : Int))), (11, vc (i6 (k : Int)))] []) (by kernel_rfl) ?_ ?_
    · exact ⟨(show (0 : Int) ≤ (k : Int) from (by omega)), (show (k : Int) < List.length l from (by omega))⟩
    refine AMx.seq ?_
    refine AMx.region (ces := [(7, CE.call [] [] (vc (bo (withinS s (List.getD l k [])))) [])]) (ks := [0, 5, 6, 7, 8, 9, 10, 11, 24]) (hs := []) (cs := [((decide (sizeS l (longS s l k) < (List.length ((List.getD l k []) : List UInt8) : Int))) = true) → allP [], ((decide (sizeS l (longS s l k) < (List.length ((List.getD l k []) : List UInt8) : Int))) = true) → allP [], ((decide (sizeS l (longS s l k) < (List.length ((List.getD l k []) : List UInt8) : Int))) = true) → allP [(decide (sizeS l (longS s l k) < (List.length ((List.getD l k []) : List UInt8) : Int))) = true, (decide (sizeS l (longS s l k) < (List.length ((List.getD l k []) : List UInt8) : Int))) = true, Spec Tryd.prog 44 [tc (st s), tc (st (List.getD l k []))] (ofH []) (vc (bo (withinS s (List.getD l k [])))) (ofH [])], (decide (sizeS l (longS s l k) < (List.length ((List.getD l k []) : List UInt8) : Int))) = true → allP [(decide (sizeS l (longS s l k) < (List.length ((List.getD l k []) : List UInt8) : Int))) = true]]) (s' := AS.lst 30 [(0, vc (st s)), (5, vc (i6 (longS s l k))), (6, vc (i6 (sizeS l (longS s l k)))), (7, vc (i6 (k : Int))), (8, vc (st (List.getD l k []))), (9, vc (slS l)), (10, vc (i6 (List.length l : Int))), (11, vc (i6 (k : Int))), (24, vc (bo ((decide (sizeS l (longS s l k) < (List.length ((List.getD l k []) : List UInt8) : Int))) && (withinS s (List.getD l k [])))))] []) (by kernel_rfl) ?_ ?_
    · exact ⟨(fun _ => trivial), (fun _ => trivial), (fun hp => by have hq := hp; (try simp only [decide_eq_true_eq, decide_eq_false_iff_not, Bool.and_eq_true, Bool.or_eq_true, Bool.and_eq_false_iff, Bool.or_eq_false_iff, Bool.not_eq_true', Bool.not_eq_false', Bool.not_eq_true, Bool.not_eq_false] at hq); exact ⟨hp, hp, (Within_c s (List.getD l k []))⟩), (fun hp2 => (by first | exact hp2 | exact ⟨hp, hp2⟩))⟩
    refine AMx.cond (b := ((decide (sizeS l (longS s l k) < (List.length ((List.getD l k []) : List UInt8) : Int))) && (withinS s (List.getD l k [])))) (by kernel_rfl) (fun hc2 => ?_) (fun hc2 => ?_)
    · try simp only [decide_eq_true_eq, decide_eq_false_iff_not, Bool.and_eq_true, Bool.and_eq_false_iff] at hc2
      refine AMx.region (ces := []) (ks := [0, 5, 6, 9, 10, 11]) (hs := []) (cs := []) (s' := AS.lst 30 [(0, vc (st s)), (5, vc (i6 (k : Int))), (6, vc (i6 (List.length ((List.getD l k []) : List UInt8) : Int))), (9, vc (slS l)), (10, vc (i6 (List.length l : Int))), (11, vc (i6 (k : Int)))] []) (by kernel_rfl) ?_ ?_
      · exact trivial
      refine AMx.blk ?_
      refine AMx.region (ces := []) (ks := [0, 5, 6, 9, 10, 11]) (hs := []) (cs := [InR .i64 ((k : Int) + 1)]) (s' := AS.lst 30 [(0, vc (st s)), (5, vc (i6 (k : Int))), (6, vc (i6 (List.length ((List.getD l k []) : List UInt8) : Int))), (9, vc (slS l)), (10, vc (i6 (List.length l : Int))), (11, vc (i6 ((k : Int) + 1)))] []) (by kernel_rfl) ?_ ?_
      · exact (show InR .i64 ((k : Int) + 1) from (inR64 (by omega) (by omega)))
      refine AMx.ent_inv (s' := AS.lst 30 [(0, vc (st s)), (5, vc (i6 (k : Int))), (6, vc (i6 (List.length ((List.getD l k []) : List UInt8) : Int))), (9, vc (slS l)), (10, vc (i6 (List.length l : Int))), (11, vc (i6 ((k : Int) + 1)))] []) (ent_proj [0, 5, 6, 9, 10, 11] []) ?_
      refine AMx.inv ⟨_, ?_, k + 1, ?_, rfl, ?_⟩
      rotate_left
      · omega
      · rw [long_t hc2.2 hc2.1, size_k]; rfl
      · omega
    · try simp only [decide_eq_true_eq, decide_eq_false_iff_not, Bool.and_eq_true, Bool.and_eq_false_iff] at hc2
      refine AMx.skip ?_
      refine AMx.blk ?_
      refine AMx.region (ces := []) (ks := [0, 5, 6, 9, 10, 11]) (hs := []) (cs := [InR .i64 ((k : Int) + 1)]) (s' := AS.lst 30 [(0, vc (st s)), (5, vc (i6 (longS s l k))), (6, vc (i6 (sizeS l (longS s l k)))), (9, vc (slS l)), (10, vc (i6 (List.length l : Int))), (11, vc (i6 ((k : Int) + 1)))] []) (by kernel_rfl) ?_ ?_
      · exact (show InR .i64 ((k : Int) + 1) from (inR64 (by omega) (by omega)))
      refine AMx.ent_inv (s' := AS.lst 30 [(0, vc (st s)), (5, vc (i6 (longS s l k))), (6, vc (i6 (sizeS l (longS s l k)))), (9, vc (slS l)), (10, vc (i6 (List.length l : Int))), (11, vc (i6 ((k : Int) + 1)))] []) (ent_proj [0, 5, 6, 9, 10, 11] []) ?_
      refine AMx.inv ⟨_, ?_, k + 1, ?_, rfl, ?_⟩
      rotate_left
      · omega
      · rw [long_f (fun q => by rcases hc2 with h | h; exact h q.1; rw [q.2] at h; cases h)]; rfl
      · omega
  · try simp only [decide_eq_true_eq, decide_eq_false_iff_not] at hc1
    refine AMx.exit ?_
    refine AMx.code_exit ?_
    refine AMx.inv_exit ?_
    refine AMx.blk_exit ?_
    refine AMx.seq ?_
    refine AMx.region (ces := []) (ks := [4]) (hs := []) (cs := []) (s' := AS.lst 30 [(4, vc (i6 (longS s l k)))] []) (by kernel_rfl) ?_ ?_
    · exact trivial
    refine AMx.ret ?_
    exact RetP.mk (r := vc (i6 (longS s l k))) (by kernel_rfl) (by rw [show k = l.length by omega]; rfl)

end AL.Under
