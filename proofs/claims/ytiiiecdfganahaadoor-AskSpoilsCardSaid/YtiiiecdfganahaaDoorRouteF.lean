/- route: the contracts of its functions, by their walks. No condition. -/
import Derived.Test.YtiiiecdfganahaaDoorRouteC
namespace AL.Route
open Go Go.Proofs AL AL.Rune
set_option linter.unusedVariables false
set_option linter.unusedSimpArgs false

theorem f21_body : Tryd.f21.body = some (.seq (.region 0 (rg Tryd.f21 0) false) (.seq (.region 1 (rg Tryd.f21 1) false) (.ret))) := by kernel_rfl

set_option maxRecDepth 100000 in
set_option maxHeartbeats 8000000 in
theorem Split_c (s : Bytes) (hb : s.length ≤ 100000) : Pure Tryd.prog 21 [tc (st s), tc (st [47])] (vc (AL.Fnv.slS (piecesS s))) := by
  refine Pure.of_body Tryd.func21 f21_body (by kernel_rfl) Tryd.ntmps21 (by kernel_rfl) (by kernel_rfl) ?_
  refine AMx.seq ?_
  refine AMx.region (ces := []) (ks := [0, 1]) (hs := []) (cs := []) (s' := AS.lst 8 [(0, vc (st s)), (1, vc (st [47]))] []) (by kernel_rfl) ?_ ?_
  · exact trivial
  refine AMx.seq ?_
  refine AMx.region (ces := [(2, CE.call [] [] (vc (AL.Fnv.slS (piecesS s))) [])]) (ks := [4]) (hs := []) (cs := [Spec Tryd.prog 30 [tc (st s), tc (st [47]), tc (i6 0), tc (i6 (-1))] (ofH []) (vc (AL.Fnv.slS (piecesS s))) (ofH [])]) (s' := AS.lst 8 [(4, vc (AL.Fnv.slS (piecesS s)))] []) (by kernel_rfl) ?_ ?_
  · exact (genSplit_c s (by omega))
  refine AMx.ret ?_
  exact RetP.mk (r := vc (AL.Fnv.slS (piecesS s))) (by kernel_rfl) rfl

theorem f63_body : Tryd.f63.body = some (.seq (.region 0 (rg Tryd.f63 0) false) (.seq (.region 1 (rg Tryd.f63 1) false) (.seq (.seq (.region 2 (rg Tryd.f63 2) false) (.block 0 (.loop (.seq (.region 3 (rg Tryd.f63 3) false) (.seq (.cond (.tmp 9) (.skip) (.exit 0)) (.seq (.block 1 (.seq (.region 4 (rg Tryd.f63 4) false) (.seq (.region 5 (rg Tryd.f63 5) false) (.block 2 (.seq (.region 6 (rg Tryd.f63 6) false) (.cond (.tmp 14) (.seq (.region 7 (rg Tryd.f63 7) false) (.ret)) (.seq (.region 8 (rg Tryd.f63 8) false) (.cond (.tmp 16) (.region 9 (rg Tryd.f63 9) false) (.skip))))))))) (.region 10 (rg Tryd.f63 10) false))))))) (.seq (.seq (.region 11 (rg Tryd.f63 11) false) (.cond (.tmp 25) (.seq (.region 12 (rg Tryd.f63 12) false) (.ret)) (.skip))) (.seq (.region 13 (rg Tryd.f63 13) false) (.ret)))))) := by kernel_rfl

set_option maxRecDepth 100000 in
set_option maxHeartbeats 8000000 in
theorem graded_c (l : List Bytes) (hb : ∀ p ∈ l, p.length ≤ 100000) : Pure Tryd.prog 63 [tc (AL.Fnv.slS l)] (vc (i6 (gradedS l))) := by
  refine Pure.of_body Tryd.func63 f63_body (by kernel_rfl) Tryd.ntmps63 (by kernel_rfl) (by kernel_rfl) ?_
  refine AMx.sl 0 (l := l) rfl (fun hl => ?_)
  simp only [maxLen] at hl
  refine AMx.seq ?_
  refine AMx.region (ces := []) (ks := [0]) (hs := []) (cs := []) (s' := AS.lst 27 [(0, vc (AL.Fnv.slS l))] []) (by kernel_rfl) ?_ ?_
  · exact trivial
  refine AMx.seq ?_
  refine AMx.region (ces := []) (ks := [0, 3]) (hs := []) (cs := []) (s' := AS.lst 27 [(0, vc (AL.Fnv.slS l)), (3, vc (i6 0))] []) (by kernel_rfl) ?_ ?_
  · exact trivial
  refine AMx.seq ?_
  refine AMx.seq ?_
  refine AMx.region (ces := []) (ks := [0, 3, 6, 7, 8]) (hs := []) (cs := []) (s' := AS.lst 27 [(0, vc (AL.Fnv.slS l)), (3, vc (i6 0)), (6, vc (AL.Fnv.slS l)), (7, vc (i6 (List.length l : Int))), (8, vc (i6 0))] []) (by kernel_rfl) ?_ ?_
  · exact trivial
  refine AMx.block ?_
  refine AMx.ent (s' := AS.lst 27 [(0, vc (AL.Fnv.slS l)), (3, vc (i6 0)), (6, vc (AL.Fnv.slS l)), (7, vc (i6 (List.length l : Int))), (8, vc (i6 0))] []) (ent_proj [0, 3, 6, 7, 8] []) ?_
  refine AMx.loop (fun mm ss => ∃ (k : Nat), (k ≤ l.length ∧ ∀ i, i < k → ¬ partS (List.getD l i []) = 4) ∧ mm = l.length - k ∧ ss = AS.lst 27 [(0, vc (AL.Fnv.slS l)), (3, vc (i6 (worstS (List.take k l)))), (6, vc (AL.Fnv.slS l)), (7, vc (i6 (List.length l : Int))), (8, vc (i6 (k : Int)))] []) ⟨0, ?_, rfl, ?_⟩ ?_
  · exact ⟨Nat.zero_le _, fun i hi => by omega⟩
  · rfl
  rintro mm ss ⟨k, ⟨hI, hN⟩, rfl, rfl⟩
  refine AMx.seq ?_
  refine AMx.region (ces := []) (ks := [0, 3, 6, 7, 8, 9]) (hs := []) (cs := []) (s' := AS.lst 27 [(0, vc (AL.Fnv.slS l)), (3, vc (i6 (worstS (List.take k l)))), (6, vc (AL.Fnv.slS l)), (7, vc (i6 (List.length l : Int))), (8, vc (i6 (k : Int))), (9, vc (bo (decide ((k : Int) < (List.length l : Int)))))] []) (by kernel_rfl) ?_ ?_
  · exact trivial
  refine AMx.seq ?_
  refine AMx.cond (b := decide ((k : Int) < (List.length l : Int))) (by kernel_rfl) (fun hc1 => ?_) (fun hc1 => ?_)
  · try simp only [decide_eq_true_eq, decide_eq_false_iff_not] at hc1
    refine AMx.skip ?_
    refine AMx.seq ?_
    refine AMx.block ?_
    refine AMx.seq ?_
    refine AMx.region (ces := []) (ks := [0, 3, 5, 6, 7, 8]) (hs := []) (cs := [(0 : Int) ≤ (k : Int), (k : Int) < List.length l]) (s' := AS.lst 27 [(0, vc (AL.Fnv.slS l)), (3, vc (i6 (worstS (List.take k l)))), (5, vc (st (List.getD l k []))), (6, vc (AL.Fnv.slS l)), (7, vc (i6 (List.length l : Int))), (8, vc (i6 (k : Int)))] []) (by kernel_rfl) ?_ ?_
    · exact ⟨(show (0 : Int) ≤ (k : Int) from (by omega)), (show (k : Int) < List.length l from (by omega))⟩
    refine AMx.seq ?_
    refine AMx.region (ces := [(1, CE.call [] [] (vc (i6 (partS (List.getD l k [])))) [])]) (ks := [0, 3, 6, 7, 8, 13]) (hs := []) (cs := [Spec Tryd.prog 76 [tc (st (List.getD l k []))] (ofH []) (vc (i6 (partS (List.getD l k [])))) (ofH [])]) (s' := AS.lst 27 [(0, vc (AL.Fnv.slS l)), (3, vc (i6 (worstS (List.take k l)))), (6, vc (AL.Fnv.slS l)), (7, vc (i6 (List.length l : Int))), (8, vc (i6 (k : Int))), (13, vc (i6 (partS (List.getD l k []))))] []) (by kernel_rfl) ?_ ?_
    · exact (Part_c (List.getD l k []) (hb _ (AL.Lib.getD_mem [] l k (by omega))))
    refine AMx.block ?_
    refine AMx.seq ?_
    refine AMx.region (ces := []) (ks := [0, 3, 6, 7, 8, 13, 14]) (hs := []) (cs := []) (s' := AS.lst 27 [(0, vc (AL.Fnv.slS l)), (3, vc (i6 (worstS (List.take k l)))), (6, vc (AL.Fnv.slS l)), (7, vc (i6 (List.length l : Int))), (8, vc (i6 (k : Int))), (13, vc (i6 (partS (List.getD l k [])))), (14, vc (bo (decide (partS (List.getD l k []) = 4))))] []) (by kernel_rfl) ?_ ?_
    · exact trivial
    refine AMx.cond (b := decide (partS (List.getD l k []) = 4)) (by kernel_rfl) (fun hc2 => ?_) (fun hc2 => ?_)
    · try simp only [decide_eq_true_eq, decide_eq_false_iff_not] at hc2
      refine AMx.seq ?_
      refine AMx.region (ces := []) (ks := [2]) (hs := []) (cs := []) (s' := AS.lst 27 [(2, vc (i6 4))] []) (by kernel_rfl) ?_ ?_
      · exact trivial
      refine AMx.ret ?_
      exact RetP.mk (r := vc (i6 4)) (by kernel_rfl) (by rw [graded_hit (k := k) (by omega) (by assumption)])
    · try simp only [decide_eq_true_eq, decide_eq_false_iff_not] at hc2
      refine AMx.seq ?_
      refine AMx.region (ces := []) (ks := [0, 3, 6, 7, 8, 16]) (hs := []) (cs := []) (s' := AS.lst 27 [(0, vc (AL.Fnv.slS l)), (3, vc (i6 (worstS (List.take k l)))), (6, vc (AL.Fnv.slS l)), (7, vc (i6 (List.length l : Int))), (8, vc (i6 (k : Int))), (16, vc (bo (decide (partS (List.getD l k []) = 5))))] []) (by kernel_rfl) ?_ ?_
      · exact trivial
      refine AMx.cond (b := decide (partS (List.getD l k []) = 5)) (by kernel_rfl) (fun hc3 => ?_) (fun hc3 => ?_)
      · try simp only [decide_eq_true_eq, decide_eq_false_iff_not] at hc3
        refine AMx.region (ces := []) (ks := [0, 3, 6, 7, 8]) (hs := []) (cs := []) (s' := AS.lst 27 [(0, vc (AL.Fnv.slS l)), (3, vc (i6 5)), (6, vc (AL.Fnv.slS l)), (7, vc (i6 (List.length l : Int))), (8, vc (i6 (k : Int)))] []) (by kernel_rfl) ?_ ?_
        · exact trivial
        refine AMx.blk ?_
        refine AMx.blk ?_
        refine AMx.region (ces := []) (ks := [0, 3, 6, 7, 8]) (hs := []) (cs := [InR .i64 ((k : Int) + 1)]) (s' := AS.lst 27 [(0, vc (AL.Fnv.slS l)), (3, vc (i6 5)), (6, vc (AL.Fnv.slS l)), (7, vc (i6 (List.length l : Int))), (8, vc (i6 ((k : Int) + 1)))] []) (by kernel_rfl) ?_ ?_
        · exact (show InR .i64 ((k : Int) + 1) from (inR64 (by omega) (by omega)))
        refine AMx.ent_inv (s' := AS.lst 27 [(0, vc (AL.Fnv.slS l)), (3, vc (i6 5)), (6, vc (AL.Fnv.slS l)), (7, vc (i6 (List.length l : Int))), (8, vc (i6 ((k : Int) + 1)))] []) (ent_proj [0, 3, 6, 7, 8] []) ?_
        refine AMx.inv ⟨_, ?_, k + 1, ?_, rfl, ?_⟩
        rotate_left
        · exact ⟨by omega, fun i hi => by rcases Nat.lt_or_ge i k with q | q; exact hN i q; rw [show i = k by omega]; assumption⟩
        · rw [worst_step l k (by omega), if_pos (by assumption)]; rfl
        · omega
      · try simp only [decide_eq_true_eq, decide_eq_false_iff_not] at hc3
        refine AMx.skip ?_
        refine AMx.blk ?_
        refine AMx.blk ?_
        refine AMx.region (ces := []) (ks := [0, 3, 6, 7, 8]) (hs := []) (cs := [InR .i64 ((k : Int) + 1)]) (s' := AS.lst 27 [(0, vc (AL.Fnv.slS l)), (3, vc (i6 (worstS (List.take k l)))), (6, vc (AL.Fnv.slS l)), (7, vc (i6 (List.length l : Int))), (8, vc (i6 ((k : Int) + 1)))] []) (by kernel_rfl) ?_ ?_
        · exact (show InR .i64 ((k : Int) + 1) from (inR64 (by omega) (by omega)))
        refine AMx.ent_inv (s' := AS.lst 27 [(0, vc (AL.Fnv.slS l)), (3, vc (i6 (worstS (List.take k l)))), (6, vc (AL.Fnv.slS l)), (7, vc (i6 (List.length l : Int))), (8, vc (i6 ((k : Int) + 1)))] []) (ent_proj [0, 3, 6, 7, 8] []) ?_
        refine AMx.inv ⟨_, ?_, k + 1, ?_, rfl, ?_⟩
        rotate_left
        · exact ⟨by omega, fun i hi => by rcases Nat.lt_or_ge i k with q | q; exact hN i q; rw [show i = k by omega]; assumption⟩
        · rw [worst_step l k (by omega), if_neg (by assumption)]; rfl
        · omega
  · try simp only [decide_eq_true_eq, decide_eq_false_iff_not] at hc1
    refine AMx.exit ?_
    refine AMx.code_exit ?_
    refine AMx.inv_exit ?_
    refine AMx.blk_exit ?_
    rw [show List.take k l = l from List.take_of_length_le (by omega)]
    refine AMx.seq ?_
    refine AMx.seq ?_
    refine AMx.region (ces := []) (ks := [3, 25]) (hs := []) (cs := [((decide (worstS l = 0)) = true) → allP [], ((decide (worstS l = 0)) = true) → allP [(decide (worstS l = 0)) = true], ((decide (worstS l = 0)) = true) → allP [(decide (worstS l = 0)) = true], (decide (worstS l = 0)) = true → allP [(decide (worstS l = 0)) = true]]) (s' := AS.lst 27 [(3, vc (i6 (worstS l))), (25, vc (bo ((decide (worstS l = 0)) && (decide (6 < (List.length l : Int))))))] []) (by kernel_rfl) ?_ ?_
    · exact ⟨(fun _ => trivial), (fun hp => hp), (fun hp => hp), (fun hp2 => (by first | exact hp2 | exact ⟨hp, hp2⟩))⟩
    refine AMx.cond (b := ((decide (worstS l = 0)) && (decide (6 < (List.length l : Int))))) (by kernel_rfl) (fun hc4 => ?_) (fun hc4 => ?_)
    · try simp only [decide_eq_true_eq, decide_eq_false_iff_not, Bool.and_eq_true, Bool.and_eq_false_iff] at hc4
      refine AMx.seq ?_
      refine AMx.region (ces := []) (ks := [2]) (hs := []) (cs := []) (s' := AS.lst 27 [(2, vc (i6 24))] []) (by kernel_rfl) ?_ ?_
      · exact trivial
      refine AMx.ret ?_
      exact RetP.mk (r := vc (i6 24)) (by kernel_rfl) (by rw [graded_end (fun i hi => hN i (by omega)), if_pos (by omega), if_pos (by omega)])
    · try simp only [decide_eq_true_eq, decide_eq_false_iff_not, Bool.and_eq_true, Bool.and_eq_false_iff] at hc4
      refine AMx.skip ?_
      refine AMx.seq ?_
      refine AMx.region (ces := []) (ks := [2]) (hs := []) (cs := []) (s' := AS.lst 27 [(2, vc (i6 (worstS l)))] []) (by kernel_rfl) ?_ ?_
      · exact trivial
      refine AMx.ret ?_
      exact RetP.mk (r := vc (i6 (worstS l))) (by kernel_rfl) (by rw [graded_end (fun i hi => hN i (by omega))]; by_cases hw : worstS l = 0; rw [hw, if_pos rfl, if_neg (by omega)]; rw [if_neg hw])

theorem f51_body : Tryd.f51.body = some (.seq (.region 0 (rg Tryd.f51 0) false) (.seq (.seq (.region 1 (rg Tryd.f51 1) false) (.cond (.tmp 8) (.seq (.region 2 (rg Tryd.f51 2) false) (.ret)) (.skip))) (.seq (.region 3 (rg Tryd.f51 3) false) (.seq (.seq (.region 4 (rg Tryd.f51 4) false) (.seq (.region 5 (rg Tryd.f51 5) false) (.cond (.tmp 14) (.seq (.region 6 (rg Tryd.f51 6) false) (.ret)) (.skip)))) (.seq (.region 7 (rg Tryd.f51 7) false) (.ret)))))) := by kernel_rfl

set_option maxRecDepth 100000 in
set_option maxHeartbeats 8000000 in
theorem Parts_c (s : Bytes) : Pure Tryd.prog 51 [tc (st s)] (AV.tup [tc (AL.Fnv.slS ((partsS s).1)), tc (i6 ((partsS s).2))]) := by
  refine Pure.of_body Tryd.func51 f51_body (by kernel_rfl) Tryd.ntmps51 (by kernel_rfl) (by kernel_rfl) ?_
  refine AMx.seq ?_
  refine AMx.region (ces := []) (ks := [0]) (hs := []) (cs := []) (s' := AS.lst 17 [(0, vc (st s))] []) (by kernel_rfl) ?_ ?_
  · exact trivial
  refine AMx.seq ?_
  refine AMx.seq ?_
  refine AMx.region (ces := []) (ks := [0, 8]) (hs := []) (cs := []) (s' := AS.lst 17 [(0, vc (st s)), (8, vc (bo (decide (64 < (List.length s : Int)))))] []) (by kernel_rfl) ?_ ?_
  · exact trivial
  refine AMx.cond (b := decide (64 < (List.length s : Int))) (by kernel_rfl) (fun hc1 => ?_) (fun hc1 => ?_)
  · try simp only [decide_eq_true_eq, decide_eq_false_iff_not] at hc1
    refine AMx.seq ?_
    refine AMx.region (ces := []) (ks := [2, 3]) (hs := []) (cs := []) (s' := AS.lst 17 [(2, vc (SC.nilsl)), (3, vc (i6 5))] []) (by kernel_rfl) ?_ ?_
    · exact trivial
    refine AMx.ent (ent_weak 2 (v' := vc (AL.Fnv.slS [])) (by kernel_rfl) (AV.le_t (TV.le_c AC.le_nil))) ?_
    refine AMx.ret ?_
    exact RetP.mk (r := AV.tup [tc (AL.Fnv.slS []), tc (i6 5)]) (by kernel_rfl) (by rw [show partsS s = ([], 5) from by first | rw [parts_no (by rw [check_big (by omega)]; decide), check_big (by omega)] | (have hk := check_small (s := s) (by omega); first | rw [parts_no (by omega), hk] | rw [parts_ok (by omega)])])
  · try simp only [decide_eq_true_eq, decide_eq_false_iff_not] at hc1
    refine AMx.skip ?_
    refine AMx.seq ?_
    refine AMx.region (ces := [(1, CE.call [] [] (vc (AL.Fnv.slS (piecesS s))) [])]) (ks := [4]) (hs := []) (cs := [Spec Tryd.prog 21 [tc (st s), tc (st [47])] (ofH []) (vc (AL.Fnv.slS (piecesS s))) (ofH [])]) (s' := AS.lst 17 [(4, vc (AL.Fnv.slS (piecesS s)))] []) (by kernel_rfl) ?_ ?_
    · exact (Split_c s (by omega))
    refine AMx.seq ?_
    refine AMx.seq ?_
    refine AMx.region (ces := [(1, CE.call [] [] (vc (i6 (gradedS (piecesS s)))) [])]) (ks := [4, 5]) (hs := []) (cs := [Spec Tryd.prog 63 [tc (AL.Fnv.slS (piecesS s))] (ofH []) (vc (i6 (gradedS (piecesS s)))) (ofH [])]) (s' := AS.lst 17 [(4, vc (AL.Fnv.slS (piecesS s))), (5, vc (i6 (gradedS (piecesS s))))] []) (by kernel_rfl) ?_ ?_
    · exact (graded_c (piecesS s) (fun p hp => Nat.le_trans (piece_le hp) (by omega)))
    refine AMx.seq ?_
    refine AMx.region (ces := []) (ks := [4, 5, 14]) (hs := []) (cs := []) (s' := AS.lst 17 [(4, vc (AL.Fnv.slS (piecesS s))), (5, vc (i6 (gradedS (piecesS s)))), (14, vc (bo (!decide (gradedS (piecesS s) = 0))))] []) (by kernel_rfl) ?_ ?_
    · exact trivial
    refine AMx.cond (b := !decide (gradedS (piecesS s) = 0)) (by kernel_rfl) (fun hc2 => ?_) (fun hc2 => ?_)
    · try simp only [decide_eq_true_eq, decide_eq_false_iff_not, Bool.not_eq_true', Bool.not_eq_false'] at hc2
      refine AMx.seq ?_
      refine AMx.region (ces := []) (ks := [2, 3]) (hs := []) (cs := []) (s' := AS.lst 17 [(2, vc (SC.nilsl)), (3, vc (i6 (gradedS (piecesS s))))] []) (by kernel_rfl) ?_ ?_
      · exact trivial
      refine AMx.ent (ent_weak 2 (v' := vc (AL.Fnv.slS [])) (by kernel_rfl) (AV.le_t (TV.le_c AC.le_nil))) ?_
      refine AMx.ret ?_
      exact RetP.mk (r := AV.tup [tc (AL.Fnv.slS []), tc (i6 (gradedS (piecesS s)))]) (by kernel_rfl) (by rw [show partsS s = ([], gradedS (piecesS s)) from by first | rw [parts_no (by rw [check_big (by omega)]; decide), check_big (by omega)] | (have hk := check_small (s := s) (by omega); first | rw [parts_no (by omega), hk] | rw [parts_ok (by omega)])])
    · try simp only [decide_eq_true_eq, decide_eq_false_iff_not, Bool.not_eq_true', Bool.not_eq_false'] at hc2
      refine AMx.skip ?_
      refine AMx.seq ?_
      refine AMx.region (ces := []) (ks := [2, 3]) (hs := []) (cs := []) (s' := AS.lst 17 [(2, vc (AL.Fnv.slS (piecesS s))), (3, vc (i6 0))] []) (by kernel_rfl) ?_ ?_
      · exact trivial
      refine AMx.ret ?_
      exact RetP.mk (r := AV.tup [tc (AL.Fnv.slS (piecesS s)), tc (i6 0)]) (by kernel_rfl) (by rw [show partsS s = (piecesS s, 0) from by first | rw [parts_no (by rw [check_big (by omega)]; decide), check_big (by omega)] | (have hk := check_small (s := s) (by omega); first | rw [parts_no (by omega), hk] | rw [parts_ok (by omega)])])

theorem f37_body : Tryd.f37.body = some (.seq (.region 0 (rg Tryd.f37 0) false) (.seq (.region 1 (rg Tryd.f37 1) false) (.seq (.region 2 (rg Tryd.f37 2) false) (.ret)))) := by kernel_rfl

set_option maxRecDepth 100000 in
set_option maxHeartbeats 8000000 in
theorem Check_c (s : Bytes) : Pure Tryd.prog 37 [tc (st s)] (vc (i6 (checkS s))) := by
  refine Pure.of_body Tryd.func37 f37_body (by kernel_rfl) Tryd.ntmps37 (by kernel_rfl) (by kernel_rfl) ?_
  refine AMx.seq ?_
  refine AMx.region (ces := []) (ks := [0]) (hs := []) (cs := []) (s' := AS.lst 11 [(0, vc (st s))] []) (by kernel_rfl) ?_ ?_
  · exact trivial
  refine AMx.seq ?_
  refine AMx.region (ces := [(1, CE.call [] [] (AV.tup [tc (AL.Fnv.slS ((partsS s).1)), tc (i6 ((partsS s).2))]) [])]) (ks := [4]) (hs := []) (cs := [Spec Tryd.prog 51 [tc (st s)] (ofH []) (AV.tup [tc (AL.Fnv.slS ((partsS s).1)), tc (i6 ((partsS s).2))]) (ofH [])]) (s' := AS.lst 11 [(4, vc (i6 ((partsS s).2)))] []) (by kernel_rfl) ?_ ?_
  · exact (Parts_c s)
  refine AMx.seq ?_
  refine AMx.region (ces := []) (ks := [2]) (hs := []) (cs := []) (s' := AS.lst 11 [(2, vc (i6 ((partsS s).2)))] []) (by kernel_rfl) ?_ ?_
  · exact trivial
  refine AMx.ret ?_
  exact RetP.mk (r := vc (i6 ((partsS s).2))) (by kernel_rfl) (by rw [parts_2])

end AL.Route
