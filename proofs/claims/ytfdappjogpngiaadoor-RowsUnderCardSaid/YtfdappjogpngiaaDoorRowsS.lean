/- rows: the contracts of its functions, by their walks. No condition. -/
import Derived.Test.YtfdappjogpngiaaDoorRowsA
namespace AL.Rows
open Go Go.Proofs AL
open AL.Secret (Sec RowV loose rowR)
open AL.Under (hasP trimP)
set_option linter.unusedVariables false
set_option linter.unusedSimpArgs false

theorem f59_body : Tryd.f59.body = some (.seq (.region 0 (rg Tryd.f59 0) false) (.seq (.region 1 (rg Tryd.f59 1) false) (.ret))) := by kernel_rfl

set_option maxRecDepth 100000 in
set_option maxHeartbeats 8000000 in
theorem sized_c (n : Int) : Pure Tryd.prog 59 [tc (i6 n)] (vc (bo (decide (1 ≤ n) && decide (n ≤ 8)))) := by
  refine Pure.of_body Tryd.func59 f59_body (by kernel_rfl) Tryd.ntmps59 (by kernel_rfl) (by kernel_rfl) ?_
  refine AMx.seq ?_
  refine AMx.region (ces := []) (ks := [0]) (hs := []) (cs := []) (s' := AS.lst 9 [(0, vc (i6 n))] []) (by kernel_rfl) ?_ ?_
  · exact trivial
  refine AMx.seq ?_
  refine AMx.region (ces := []) (ks := [2]) (hs := []) (cs := [((decide (1 ≤ n)) = true) → allP [], ((decide (1 ≤ n)) = true) → allP [(decide (1 ≤ n)) = true], (decide (1 ≤ n)) = true → allP [(decide (1 ≤ n)) = true]]) (s' := AS.lst 9 [(2, vc (bo ((decide (1 ≤ n)) && (decide (n ≤ 8)))))] []) (by kernel_rfl) ?_ ?_
  · exact ⟨(fun _ => trivial), (fun hp => hp), (fun hp2 => (by first | exact hp2 | exact ⟨hp, hp2⟩))⟩
  refine AMx.ret ?_
  exact RetP.mk (r := vc (bo ((decide (1 ≤ n)) && (decide (n ≤ 8))))) (by kernel_rfl) rfl

theorem f52_body : Tryd.f52.body = some (.seq (.region 0 (rg Tryd.f52 0) false) (.seq (.region 1 (rg Tryd.f52 1) false) (.ret))) := by kernel_rfl

set_option maxRecDepth 100000 in
set_option maxHeartbeats 8000000 in
theorem stands_c (x : ScanV) : Pure Tryd.prog 52 [TV.agg [.s (st x.1), .s (i6 x.2.1), .s (i6 x.2.2)]] (vc (bo (decide (0 ≤ x.2.1) && decide (x.2.1 ≤ (List.length x.1 : Int))))) := by
  refine Pure.of_body Tryd.func52 f52_body (by kernel_rfl) Tryd.ntmps52 (by kernel_rfl) (by kernel_rfl) ?_
  refine AMx.seq ?_
  refine AMx.region (ces := []) (ks := [1]) (hs := [1]) (cs := []) (s' := AS.lst 14 [(1, vp 1 0)] [(1, AObj.row [.s (st x.1), .s (i6 x.2.1), .s (i6 x.2.2)])]) (by kernel_rfl) ?_ ?_
  · exact trivial
  refine AMx.seq ?_
  refine AMx.region (ces := []) (ks := [2]) (hs := []) (cs := [((decide (0 ≤ x.2.1)) = true) → allP [], ((decide (0 ≤ x.2.1)) = true) → allP [(decide (0 ≤ x.2.1)) = true], ((decide (0 ≤ x.2.1)) = true) → allP [], ((decide (0 ≤ x.2.1)) = true) → allP [(decide (0 ≤ x.2.1)) = true], ((decide (0 ≤ x.2.1)) = true) → allP [(decide (0 ≤ x.2.1)) = true], ((decide (0 ≤ x.2.1)) = true) → allP [(decide (0 ≤ x.2.1)) = true, (decide (0 ≤ x.2.1)) = true], (decide (0 ≤ x.2.1)) = true → allP [(decide (0 ≤ x.2.1)) = true]]) (s' := AS.lst 14 [(2, vc (bo ((decide (0 ≤ x.2.1)) && (decide (x.2.1 ≤ (List.length x.1 : Int))))))] []) (by kernel_rfl) ?_ ?_
  · exact ⟨(fun _ => trivial), (fun hp => hp), (fun _ => trivial), (fun hp => hp), (fun hp => hp), (fun hp => ⟨hp, hp⟩), (fun hp2 => (by first | exact hp2 | exact ⟨hp, hp2⟩))⟩
  refine AMx.ret ?_
  exact RetP.mk (r := vc (bo ((decide (0 ≤ x.2.1)) && (decide (x.2.1 ≤ (List.length x.1 : Int)))))) (by kernel_rfl) rfl

theorem f53_body : Tryd.f53.body = some (.seq (.region 0 (rg Tryd.f53 0) false) (.seq (.region 1 (rg Tryd.f53 1) false) (.ret))) := by kernel_rfl

set_option maxRecDepth 100000 in
set_option maxHeartbeats 8000000 in
theorem left_c (x : ScanV) (h : 0 ≤ x.2.1 ∧ x.2.1 ≤ x.1.length) (hl : x.1.length ≤ 1000000) : Pure Tryd.prog 53 [TV.agg [.s (st x.1), .s (i6 x.2.1), .s (i6 x.2.2)]] (vc (i6 ((List.length x.1 : Int) - x.2.1))) := by
  refine Pure.of_body Tryd.func53 f53_body (by kernel_rfl) Tryd.ntmps53 (by kernel_rfl) (by kernel_rfl) ?_
  refine AMx.seq ?_
  refine AMx.region (ces := []) (ks := [1]) (hs := [1]) (cs := []) (s' := AS.lst 9 [(1, vp 1 0)] [(1, AObj.row [.s (st x.1), .s (i6 x.2.1), .s (i6 x.2.2)])]) (by kernel_rfl) ?_ ?_
  · exact trivial
  refine AMx.seq ?_
  refine AMx.region (ces := []) (ks := [2]) (hs := []) (cs := [InR .i64 ((List.length x.1 : Int) - x.2.1)]) (s' := AS.lst 9 [(2, vc (i6 ((List.length x.1 : Int) - x.2.1)))] []) (by kernel_rfl) ?_ ?_
  · exact (show InR .i64 ((List.length x.1 : Int) - x.2.1) from (inR64 (by omega) (by omega)))
  refine AMx.ret ?_
  exact RetP.mk (r := vc (i6 ((List.length x.1 : Int) - x.2.1))) (by kernel_rfl) rfl

theorem f60_body : Tryd.f60.body = some (.seq (.region 0 (rg Tryd.f60 0) false) (.seq (.region 1 (rg Tryd.f60 1) false) (.seq (.region 2 (rg Tryd.f60 2) false) (.ret)))) := by kernel_rfl

set_option maxRecDepth 100000 in
set_option maxHeartbeats 8000000 in
theorem fails_c (x : ScanV) (e : Int) : Pure Tryd.prog 60 [TV.agg [.s (st x.1), .s (i6 x.2.1), .s (i6 x.2.2)], tc (i6 e)] (AV.t (TV.agg [.s (st (((x.1, x.2.1, e) : ScanV).1)), .s (i6 (((x.1, x.2.1, e) : ScanV).2.1)), .s (i6 (((x.1, x.2.1, e) : ScanV).2.2))])) := by
  refine Pure.of_body Tryd.func60 f60_body (by kernel_rfl) Tryd.ntmps60 (by kernel_rfl) (by kernel_rfl) ?_
  refine AMx.seq ?_
  refine AMx.region (ces := []) (ks := [1, 2, 4]) (hs := [2, 4]) (cs := []) (s' := AS.lst 8 [(1, vc (i6 e)), (2, vp 2 0), (4, vp 4 0)] [(2, AObj.row [.s (st x.1), .s (i6 x.2.1), .s (i6 x.2.2)]), (4, AObj.row [.s (st []), .s (i6 0), .s (i6 0)])]) (by kernel_rfl) ?_ ?_
  · exact trivial
  refine AMx.seq ?_
  refine AMx.region (ces := []) (ks := [2, 4]) (hs := [2, 4]) (cs := []) (s' := AS.lst 8 [(2, vp 2 0), (4, vp 4 0)] [(2, AObj.row [.s (st x.1), .s (i6 x.2.1), .s (i6 e)]), (4, AObj.row [.s (st []), .s (i6 0), .s (i6 0)])]) (by kernel_rfl) ?_ ?_
  · exact trivial
  refine AMx.seq ?_
  refine AMx.region (ces := []) (ks := [4]) (hs := [4]) (cs := []) (s' := AS.lst 8 [(4, vp 4 0)] [(4, AObj.row [.s (st x.1), .s (i6 x.2.1), .s (i6 e)])]) (by kernel_rfl) ?_ ?_
  · exact trivial
  refine AMx.ret ?_
  exact RetP.mk (r := AV.t (TV.agg [.s (st x.1), .s (i6 x.2.1), .s (i6 e)])) (by kernel_rfl) rfl

theorem f51_body : Tryd.f51.body = some (.seq (.region 0 (rg Tryd.f51 0) false) (.seq (.block 0 (.seq (.region 1 (rg Tryd.f51 1) false) (.cond (.tmp 9) (.seq (.region 2 (rg Tryd.f51 2) true) (.ret)) (.seq (.region 3 (rg Tryd.f51 3) false) (.cond (.tmp 14) (.seq (.region 4 (rg Tryd.f51 4) false) (.ret)) (.seq (.region 5 (rg Tryd.f51 5) false) (.cond (.tmp 25) (.seq (.region 6 (rg Tryd.f51 6) false) (.ret)) (.skip)))))))) (.seq (.region 7 (rg Tryd.f51 7) false) (.seq (.seq (.region 8 (rg Tryd.f51 8) false) (.block 1 (.loop (.seq (.region 9 (rg Tryd.f51 9) false) (.seq (.cond (.tmp 44) (.skip) (.exit 1)) (.seq (.block 2 (.seq (.region 10 (rg Tryd.f51 10) false) (.region 11 (rg Tryd.f51 11) false))) (.region 12 (rg Tryd.f51 12) false))))))) (.seq (.region 13 (rg Tryd.f51 13) false) (.seq (.region 14 (rg Tryd.f51 14) true) (.ret))))))) := by kernel_rfl

set_option maxRecDepth 100000 in
set_option maxHeartbeats 8000000 in
theorem Num_c (x : ScanV) (hx : x.1.length ≤ 1000000) : Pure Tryd.prog 51 [TV.agg [.s (st x.1), .s (i6 x.2.1), .s (i6 x.2.2)], tc (i6 1)] (AV.tup [tc (u6 ((numV x).1)), TV.agg [.s (st (((numV x).2).1)), .s (i6 (((numV x).2).2.1)), .s (i6 (((numV x).2).2.2))]]) := by
  refine Pure.of_body Tryd.func51 f51_body (by kernel_rfl) Tryd.ntmps51 (by kernel_rfl) (by kernel_rfl) ?_
  refine AMx.seq ?_
  refine AMx.region (ces := []) (ks := [1, 2, 5]) (hs := [2, 5]) (cs := []) (s' := AS.lst 60 [(1, vc (i6 1)), (2, vp 2 0), (5, vp 5 0)] [(2, AObj.row [.s (st x.1), .s (i6 x.2.1), .s (i6 x.2.2)]), (5, AObj.row [.s (st []), .s (i6 0), .s (i6 0)])]) (by kernel_rfl) ?_ ?_
  · exact trivial
  refine AMx.seq ?_
  refine AMx.block ?_
  refine AMx.seq ?_
  refine AMx.region (ces := []) (ks := [1, 2, 5, 9]) (hs := [2, 5]) (cs := []) (s' := AS.lst 60 [(1, vc (i6 1)), (2, vp 2 0), (5, vp 5 0), (9, vc (bo (!decide (x.2.2 = 0))))] [(2, AObj.row [.s (st x.1), .s (i6 x.2.1), .s (i6 x.2.2)]), (5, AObj.row [.s (st []), .s (i6 0), .s (i6 0)])]) (by kernel_rfl) ?_ ?_
  · exact trivial
  refine AMx.cond (b := !decide (x.2.2 = 0)) (by kernel_rfl) (fun hc1 => ?_) (fun hc1 => ?_)
  · try simp only [decide_eq_true_eq, decide_eq_false_iff_not, Bool.not_eq_true', Bool.not_eq_false'] at hc1
    refine AMx.seq ?_
    refine AMx.region_draw (ces := []) (ros := [(0, [2]), (2, [5])]) (ks := [4, 5]) (hs := [5]) (cs := []) (s' := AS.lst 60 [(4, vc (u6 0)), (5, vp 5 0)] [(5, AObj.row [.s (st x.1), .s (i6 x.2.1), .s (i6 x.2.2)])]) mixed (by kernel_rfl) ?_ ?_
    · exact trivial
    refine AMx.ret ?_
    exact RetP.mk (r := AV.tup [tc (u6 0), TV.agg [.s (st x.1), .s (i6 x.2.1), .s (i6 x.2.2)]]) (by kernel_rfl) (by rw [show numV x = (0, x) from by unfold numV; first | rw [if_pos (by assumption)] | rw [if_neg (by omega), if_pos (by omega)] | rw [if_neg (by omega), if_neg (by omega), if_pos (by omega)] | (rw [if_neg (by omega), if_neg (by omega), if_neg (by omega), show k = 1 by simp only [List.length_take, List.length_drop] at *; omega]; rfl)])
  · try simp only [decide_eq_true_eq, decide_eq_false_iff_not, Bool.not_eq_true', Bool.not_eq_false'] at hc1
    refine AMx.seq ?_
    refine AMx.region (ces := [(1, CE.call [] [] (vc (bo (decide (0 ≤ x.2.1) && decide (x.2.1 ≤ (List.length x.1 : Int))))) []), (5, CE.call [] [] (vc (bo (decide ((1 : Int) ≤ 1) && decide ((1 : Int) ≤ 8)))) [])]) (ks := [1, 2, 5, 14]) (hs := [2, 5]) (cs := [Spec Tryd.prog 52 [TV.agg [.s (st x.1), .s (i6 x.2.1), .s (i6 x.2.2)]] (ofH []) (vc (bo (decide (0 ≤ x.2.1) && decide (x.2.1 ≤ (List.length x.1 : Int))))) (ofH []), ((!(decide (0 ≤ x.2.1) && decide (x.2.1 ≤ (List.length x.1 : Int)))) = false) → allP [], ((!(decide (0 ≤ x.2.1) && decide (x.2.1 ≤ (List.length x.1 : Int)))) = false) → allP [(!(decide (0 ≤ x.2.1) && decide (x.2.1 ≤ (List.length x.1 : Int)))) = false, Spec Tryd.prog 59 [tc (i6 1)] (ofH []) (vc (bo (decide ((1 : Int) ≤ 1) && decide ((1 : Int) ≤ 8)))) (ofH [])], ((!(decide (0 ≤ x.2.1) && decide (x.2.1 ≤ (List.length x.1 : Int)))) = false) → allP [(!(decide (0 ≤ x.2.1) && decide (x.2.1 ≤ (List.length x.1 : Int)))) = false], (!(decide (0 ≤ x.2.1) && decide (x.2.1 ≤ (List.length x.1 : Int)))) = false → allP [(!(decide (0 ≤ x.2.1) && decide (x.2.1 ≤ (List.length x.1 : Int)))) = false]]) (s' := AS.lst 60 [(1, vc (i6 1)), (2, vp 2 0), (5, vp 5 0), (14, vc (bo ((!(decide (0 ≤ x.2.1) && decide (x.2.1 ≤ (List.length x.1 : Int)))) || (!(decide ((1 : Int) ≤ 1) && decide ((1 : Int) ≤ 8))))))] [(2, AObj.row [.s (st x.1), .s (i6 x.2.1), .s (i6 x.2.2)]), (5, AObj.row [.s (st []), .s (i6 0), .s (i6 0)])]) (by kernel_rfl) ?_ ?_
    · exact ⟨(stands_c x), (fun _ => trivial), (fun hp => by have hq := hp; (try simp only [decide_eq_true_eq, decide_eq_false_iff_not, Bool.and_eq_true, Bool.or_eq_true, Bool.and_eq_false_iff, Bool.or_eq_false_iff, Bool.not_eq_true', Bool.not_eq_false', Bool.not_eq_true, Bool.not_eq_false] at hq); exact ⟨hp, (sized_c 1)⟩), (fun hp => hp), (fun hp2 => (by first | exact hp2 | exact ⟨hp, hp2⟩))⟩
    refine AMx.cond (b := ((!(decide (0 ≤ x.2.1) && decide (x.2.1 ≤ (List.length x.1 : Int)))) || (!(decide ((1 : Int) ≤ 1) && decide ((1 : Int) ≤ 8))))) (by kernel_rfl) (fun hc2 => ?_) (fun hc2 => ?_)
    · try simp only [decide_eq_true_eq, decide_eq_false_iff_not, Bool.and_eq_true, Bool.and_eq_false_iff, Bool.or_eq_true, Bool.or_eq_false_iff, Bool.not_eq_true', Bool.not_eq_false'] at hc2
      refine AMx.seq ?_
      refine AMx.region (ces := [(1, CE.call [] [] (AV.t (TV.agg [.s (st (((x.1, x.2.1, 2) : ScanV).1)), .s (i6 (((x.1, x.2.1, 2) : ScanV).2.1)), .s (i6 (((x.1, x.2.1, 2) : ScanV).2.2))])) [])]) (ks := [4, 5]) (hs := [5]) (cs := [Spec Tryd.prog 60 [TV.agg [.s (st x.1), .s (i6 x.2.1), .s (i6 x.2.2)], tc (i6 2)] (ofH []) (AV.t (TV.agg [.s (st (((x.1, x.2.1, 2) : ScanV).1)), .s (i6 (((x.1, x.2.1, 2) : ScanV).2.1)), .s (i6 (((x.1, x.2.1, 2) : ScanV).2.2))])) (ofH [])]) (s' := AS.lst 60 [(4, vc (u6 0)), (5, vp 5 0)] [(5, AObj.row [.s (st (((x.1, x.2.1, 2) : ScanV).1)), .s (i6 (((x.1, x.2.1, 2) : ScanV).2.1)), .s (i6 (((x.1, x.2.1, 2) : ScanV).2.2))])]) (by kernel_rfl) ?_ ?_
      · exact (fails_c x 2)
      refine AMx.ret ?_
      exact RetP.mk (r := AV.tup [tc (u6 0), TV.agg [.s (st (((x.1, x.2.1, 2) : ScanV).1)), .s (i6 (((x.1, x.2.1, 2) : ScanV).2.1)), .s (i6 (((x.1, x.2.1, 2) : ScanV).2.2))]]) (by kernel_rfl) (by rw [show numV x = (0, ((x.1, x.2.1, 2) : ScanV)) from by unfold numV; first | rw [if_pos (by assumption)] | rw [if_neg (by omega), if_pos (by omega)] | rw [if_neg (by omega), if_neg (by omega), if_pos (by omega)] | (rw [if_neg (by omega), if_neg (by omega), if_neg (by omega), show k = 1 by simp only [List.length_take, List.length_drop] at *; omega]; rfl)])
    · try simp only [decide_eq_true_eq, decide_eq_false_iff_not, Bool.and_eq_true, Bool.and_eq_false_iff, Bool.or_eq_true, Bool.or_eq_false_iff, Bool.not_eq_true', Bool.not_eq_false'] at hc2
      refine AMx.seq ?_
      refine AMx.region (ces := [(1, CE.call [] [] (vc (i6 ((List.length x.1 : Int) - x.2.1))) [])]) (ks := [1, 2, 5, 25]) (hs := [2, 5]) (cs := [Spec Tryd.prog 53 [TV.agg [.s (st x.1), .s (i6 x.2.1), .s (i6 x.2.2)]] (ofH []) (vc (i6 ((List.length x.1 : Int) - x.2.1))) (ofH [])]) (s' := AS.lst 60 [(1, vc (i6 1)), (2, vp 2 0), (5, vp 5 0), (25, vc (bo (decide ((List.length x.1 : Int) - x.2.1 < 1))))] [(2, AObj.row [.s (st x.1), .s (i6 x.2.1), .s (i6 x.2.2)]), (5, AObj.row [.s (st []), .s (i6 0), .s (i6 0)])]) (by kernel_rfl) ?_ ?_
      · exact (left_c x (by first | omega | (simp only [List.length_take, List.length_drop] at *; omega)) (by first | omega | (simp only [List.length_take, List.length_drop] at *; omega)))
      refine AMx.cond (b := decide ((List.length x.1 : Int) - x.2.1 < 1)) (by kernel_rfl) (fun hc3 => ?_) (fun hc3 => ?_)
      · try simp only [decide_eq_true_eq, decide_eq_false_iff_not] at hc3
        refine AMx.seq ?_
        refine AMx.region (ces := [(1, CE.call [] [] (AV.t (TV.agg [.s (st (((x.1, x.2.1, 3) : ScanV).1)), .s (i6 (((x.1, x.2.1, 3) : ScanV).2.1)), .s (i6 (((x.1, x.2.1, 3) : ScanV).2.2))])) [])]) (ks := [4, 5]) (hs := [5]) (cs := [Spec Tryd.prog 60 [TV.agg [.s (st x.1), .s (i6 x.2.1), .s (i6 x.2.2)], tc (i6 3)] (ofH []) (AV.t (TV.agg [.s (st (((x.1, x.2.1, 3) : ScanV).1)), .s (i6 (((x.1, x.2.1, 3) : ScanV).2.1)), .s (i6 (((x.1, x.2.1, 3) : ScanV).2.2))])) (ofH [])]) (s' := AS.lst 60 [(4, vc (u6 0)), (5, vp 5 0)] [(5, AObj.row [.s (st (((x.1, x.2.1, 3) : ScanV).1)), .s (i6 (((x.1, x.2.1, 3) : ScanV).2.1)), .s (i6 (((x.1, x.2.1, 3) : ScanV).2.2))])]) (by kernel_rfl) ?_ ?_
        · exact (fails_c x 3)
        refine AMx.ret ?_
        exact RetP.mk (r := AV.tup [tc (u6 0), TV.agg [.s (st (((x.1, x.2.1, 3) : ScanV).1)), .s (i6 (((x.1, x.2.1, 3) : ScanV).2.1)), .s (i6 (((x.1, x.2.1, 3) : ScanV).2.2))]]) (by kernel_rfl) (by rw [show numV x = (0, ((x.1, x.2.1, 3) : ScanV)) from by unfold numV; first | rw [if_pos (by assumption)] | rw [if_neg (by omega), if_pos (by omega)] | rw [if_neg (by omega), if_neg (by omega), if_pos (by omega)] | (rw [if_neg (by omega), if_neg (by omega), if_neg (by omega), show k = 1 by simp only [List.length_take, List.length_drop] at *; omega]; rfl)])
      · try simp only [decide_eq_true_eq, decide_eq_false_iff_not] at hc3
        refine AMx.skip ?_
        refine AMx.blk ?_
        refine AMx.seq ?_
        refine AMx.region (ces := []) (ks := [1, 2, 5, 6]) (hs := [2, 5]) (cs := []) (s' := AS.lst 60 [(1, vc (i6 1)), (2, vp 2 0), (5, vp 5 0), (6, vc (u6 0))] [(2, AObj.row [.s (st x.1), .s (i6 x.2.1), .s (i6 x.2.2)]), (5, AObj.row [.s (st []), .s (i6 0), .s (i6 0)])]) (by kernel_rfl) ?_ ?_
        · exact trivial
        refine AMx.seq ?_
        refine AMx.seq ?_
        refine AMx.region (ces := []) (ks := [1, 2, 5, 6, 41, 42, 43]) (hs := [2, 5]) (cs := [InR .i64 (x.2.1 + 1), 0 ≤ x.2.1 + 1, x.2.1 + 1 ≤ List.length x.1, 0 ≤ x.2.1, x.2.1 ≤ x.2.1 + 1]) (s' := AS.lst 60 [(1, vc (i6 1)), (2, vp 2 0), (5, vp 5 0), (6, vc (u6 0)), (41, vc (SC.sl 1 UInt8 0 rowU8 (List.drop (x.2.1).toNat (List.take (x.2.1 + 1).toNat x.1)))), (42, vc (i6 (List.length (List.drop (x.2.1).toNat (List.take (x.2.1 + 1).toNat x.1) : List UInt8) : Int))), (43, vc (i6 0))] [(2, AObj.row [.s (st x.1), .s (i6 x.2.1), .s (i6 x.2.2)]), (5, AObj.row [.s (st []), .s (i6 0), .s (i6 0)])]) (by kernel_rfl) ?_ ?_
        · exact ⟨(show InR .i64 (x.2.1 + 1) from (inR64 (by first | omega | (simp only [List.length_take, List.length_drop] at *; omega)) (by first | omega | (simp only [List.length_take, List.length_drop] at *; omega)))), (show 0 ≤ x.2.1 + 1 from (by first | omega | (simp only [List.length_take, List.length_drop] at *; omega))), (show x.2.1 + 1 ≤ List.length x.1 from (by first | omega | (simp only [List.length_take, List.length_drop] at *; omega))), (show 0 ≤ x.2.1 from (by first | omega | (simp only [List.length_take, List.length_drop] at *; omega))), (show x.2.1 ≤ x.2.1 + 1 from (by first | omega | (simp only [List.length_take, List.length_drop] at *; omega)))⟩
        refine AMx.block ?_
        refine AMx.ent (s' := AS.lst 60 [(1, vc (i6 1)), (2, vp 2 0), (5, vp 5 0), (6, vc (u6 0)), (41, vc (SC.sl 1 UInt8 0 rowU8 (List.drop (x.2.1).toNat (List.take (x.2.1 + 1).toNat x.1)))), (42, vc (i6 (List.length (List.drop (x.2.1).toNat (List.take (x.2.1 + 1).toNat x.1) : List UInt8) : Int))), (43, vc (i6 0))] [(2, AObj.row [.s (st x.1), .s (i6 x.2.1), .s (i6 x.2.2)]), (5, AObj.row [.s (st []), .s (i6 0), .s (i6 0)])]) (ent_proj [1, 2, 5, 6, 41, 42, 43] [2, 5]) ?_
        refine AMx.loop (fun mm ss => ∃ (k : Nat), (k ≤ 1) ∧ mm = 1 - k ∧ ss = AS.lst 60 [(1, vc (i6 1)), (2, vp 2 0), (5, vp 5 0), (6, vc (u6 (foldV x k))), (41, vc (SC.sl 1 UInt8 0 rowU8 (List.drop (x.2.1).toNat (List.take (x.2.1 + 1).toNat x.1)))), (42, vc (i6 (List.length (List.drop (x.2.1).toNat (List.take (x.2.1 + 1).toNat x.1) : List UInt8) : Int))), (43, vc (i6 (k : Int)))] [(2, AObj.row [.s (st x.1), .s (i6 x.2.1), .s (i6 x.2.2)]), (5, AObj.row [.s (st []), .s (i6 0), .s (i6 0)])]) ⟨0, ?_, rfl, ?_⟩ ?_
        · omega
        · rfl
        rintro mm ss ⟨k, hI, rfl, rfl⟩
        refine AMx.seq ?_
        refine AMx.region (ces := []) (ks := [1, 2, 5, 6, 41, 42, 43, 44]) (hs := [2, 5]) (cs := []) (s' := AS.lst 60 [(1, vc (i6 1)), (2, vp 2 0), (5, vp 5 0), (6, vc (u6 (foldV x k))), (41, vc (SC.sl 1 UInt8 0 rowU8 (List.drop (x.2.1).toNat (List.take (x.2.1 + 1).toNat x.1)))), (42, vc (i6 (List.length (List.drop (x.2.1).toNat (List.take (x.2.1 + 1).toNat x.1) : List UInt8) : Int))), (43, vc (i6 (k : Int))), (44, vc (bo (decide ((k : Int) < (List.length (List.drop (x.2.1).toNat (List.take (x.2.1 + 1).toNat x.1) : List UInt8) : Int)))))] [(2, AObj.row [.s (st x.1), .s (i6 x.2.1), .s (i6 x.2.2)]), (5, AObj.row [.s (st []), .s (i6 0), .s (i6 0)])]) (by kernel_rfl) ?_ ?_
        · exact trivial
        refine AMx.seq ?_
        refine AMx.cond (b := decide ((k : Int) < (List.length (List.drop (x.2.1).toNat (List.take (x.2.1 + 1).toNat x.1) : List UInt8) : Int))) (by kernel_rfl) (fun hc4 => ?_) (fun hc4 => ?_)
        · try simp only [decide_eq_true_eq, decide_eq_false_iff_not] at hc4
          refine AMx.skip ?_
          refine AMx.seq ?_
          refine AMx.block ?_
          refine AMx.seq ?_
          refine AMx.region (ces := []) (ks := [1, 2, 5, 6, 8, 41, 42, 43]) (hs := [2, 5]) (cs := [(0 : Int) ≤ (k : Int), (k : Int) < List.length (List.drop (x.2.1).toNat (List.take (x.2.1 + 1).toNat x.1) : List UInt8)]) (s' := AS.lst 60 [(1, vc (i6 1)), (2, vp 2 0), (5, vp 5 0), (6, vc (u6 (foldV x k))), (8, vc (u8 ((List.getD (List.drop (x.2.1).toNat (List.take (x.2.1 + 1).toNat x.1)) k 0).toNat : Int))), (41, vc (SC.sl 1 UInt8 0 rowU8 (List.drop (x.2.1).toNat (List.take (x.2.1 + 1).toNat x.1)))), (42, vc (i6 (List.length (List.drop (x.2.1).toNat (List.take (x.2.1 + 1).toNat x.1) : List UInt8) : Int))), (43, vc (i6 (k : Int)))] [(2, AObj.row [.s (st x.1), .s (i6 x.2.1), .s (i6 x.2.2)]), (5, AObj.row [.s (st []), .s (i6 0), .s (i6 0)])]) (by kernel_rfl) ?_ ?_
          · exact ⟨(show (0 : Int) ≤ (k : Int) from (by first | omega | (simp only [List.length_take, List.length_drop] at *; omega))), (show (k : Int) < List.length (List.drop (x.2.1).toNat (List.take (x.2.1 + 1).toNat x.1) : List UInt8) from (by first | omega | (simp only [List.length_take, List.length_drop] at *; omega)))⟩
          refine AMx.region (ces := []) (ks := [1, 2, 5, 6, 41, 42, 43]) (hs := [2, 5]) (cs := [(0 : Int) ≤ 8]) (s' := AS.lst 60 [(1, vc (i6 1)), (2, vp 2 0), (5, vp 5 0), (6, vc (u6 (IntKind.wrap .u64 ((BitVec.ofInt 64 (IntKind.wrap .u64 ((foldV x k) * 2 ^ (min (8 : Int).toNat (IntKind.bits .u64)))) ||| BitVec.ofInt 64 ((List.getD (List.drop (x.2.1).toNat (List.take (x.2.1 + 1).toNat x.1)) k 0).toNat : Int)).toNat)))), (41, vc (SC.sl 1 UInt8 0 rowU8 (List.drop (x.2.1).toNat (List.take (x.2.1 + 1).toNat x.1)))), (42, vc (i6 (List.length (List.drop (x.2.1).toNat (List.take (x.2.1 + 1).toNat x.1) : List UInt8) : Int))), (43, vc (i6 (k : Int)))] [(2, AObj.row [.s (st x.1), .s (i6 x.2.1), .s (i6 x.2.2)]), (5, AObj.row [.s (st []), .s (i6 0), .s (i6 0)])]) (by kernel_rfl) ?_ ?_
          · exact (show (0 : Int) ≤ 8 from (by first | omega | (simp only [List.length_take, List.length_drop] at *; omega)))
          refine AMx.blk ?_
          refine AMx.region (ces := []) (ks := [1, 2, 5, 6, 41, 42, 43]) (hs := [2, 5]) (cs := [InR .i64 ((k : Int) + 1)]) (s' := AS.lst 60 [(1, vc (i6 1)), (2, vp 2 0), (5, vp 5 0), (6, vc (u6 (IntKind.wrap .u64 ((BitVec.ofInt 64 (IntKind.wrap .u64 ((foldV x k) * 2 ^ (min (8 : Int).toNat (IntKind.bits .u64)))) ||| BitVec.ofInt 64 ((List.getD (List.drop (x.2.1).toNat (List.take (x.2.1 + 1).toNat x.1)) k 0).toNat : Int)).toNat)))), (41, vc (SC.sl 1 UInt8 0 rowU8 (List.drop (x.2.1).toNat (List.take (x.2.1 + 1).toNat x.1)))), (42, vc (i6 (List.length (List.drop (x.2.1).toNat (List.take (x.2.1 + 1).toNat x.1) : List UInt8) : Int))), (43, vc (i6 ((k : Int) + 1)))] [(2, AObj.row [.s (st x.1), .s (i6 x.2.1), .s (i6 x.2.2)]), (5, AObj.row [.s (st []), .s (i6 0), .s (i6 0)])]) (by kernel_rfl) ?_ ?_
          · exact (show InR .i64 ((k : Int) + 1) from (inR64 (by first | omega | (simp only [List.length_take, List.length_drop] at *; omega)) (by first | omega | (simp only [List.length_take, List.length_drop] at *; omega))))
          refine AMx.ent_inv (s' := AS.lst 60 [(1, vc (i6 1)), (2, vp 2 0), (5, vp 5 0), (6, vc (u6 (IntKind.wrap .u64 ((BitVec.ofInt 64 (IntKind.wrap .u64 ((foldV x k) * 2 ^ (min (8 : Int).toNat (IntKind.bits .u64)))) ||| BitVec.ofInt 64 ((List.getD (List.drop (x.2.1).toNat (List.take (x.2.1 + 1).toNat x.1)) k 0).toNat : Int)).toNat)))), (41, vc (SC.sl 1 UInt8 0 rowU8 (List.drop (x.2.1).toNat (List.take (x.2.1 + 1).toNat x.1)))), (42, vc (i6 (List.length (List.drop (x.2.1).toNat (List.take (x.2.1 + 1).toNat x.1) : List UInt8) : Int))), (43, vc (i6 ((k : Int) + 1)))] [(2, AObj.row [.s (st x.1), .s (i6 x.2.1), .s (i6 x.2.2)]), (5, AObj.row [.s (st []), .s (i6 0), .s (i6 0)])]) (ent_proj [1, 2, 5, 6, 41, 42, 43] [2, 5]) ?_
          refine AMx.inv ⟨_, ?_, k + 1, ?_, rfl, ?_⟩
          rotate_left
          · simp only [List.length_take, List.length_drop] at *; omega
          · rw [show k = 0 by simp only [List.length_take, List.length_drop] at *; omega, slice_byte (by omega), show foldV x 0 = 0 from rfl, or_byte _ (Rune.byte_lt _ _)]; rfl
          · simp only [List.length_take, List.length_drop] at *; omega
        · try simp only [decide_eq_true_eq, decide_eq_false_iff_not] at hc4
          refine AMx.exit ?_
          refine AMx.code_exit ?_
          refine AMx.inv_exit ?_
          refine AMx.blk_exit ?_
          refine AMx.seq ?_
          refine AMx.region (ces := []) (ks := [2, 5, 6]) (hs := [2, 5]) (cs := [InR .i64 (x.2.1 + 1)]) (s' := AS.lst 60 [(2, vp 2 0), (5, vp 5 0), (6, vc (u6 (foldV x k)))] [(2, AObj.row [.s (st x.1), .s (i6 (x.2.1 + 1)), .s (i6 x.2.2)]), (5, AObj.row [.s (st []), .s (i6 0), .s (i6 0)])]) (by kernel_rfl) ?_ ?_
          · exact (show InR .i64 (x.2.1 + 1) from (inR64 (by first | omega | (simp only [List.length_take, List.length_drop] at *; omega)) (by first | omega | (simp only [List.length_take, List.length_drop] at *; omega))))
          refine AMx.seq ?_
          refine AMx.region_draw (ces := []) (ros := [(1, [2]), (3, [5])]) (ks := [4, 5]) (hs := [5]) (cs := []) (s' := AS.lst 60 [(4, vc (u6 (foldV x k))), (5, vp 5 0)] [(5, AObj.row [.s (st x.1), .s (i6 (x.2.1 + 1)), .s (i6 x.2.2)])]) mixed (by kernel_rfl) ?_ ?_
          · exact trivial
          refine AMx.ret ?_
          exact RetP.mk (r := AV.tup [tc (u6 (foldV x k)), TV.agg [.s (st x.1), .s (i6 (x.2.1 + 1)), .s (i6 x.2.2)]]) (by kernel_rfl) (by rw [show numV x = (foldV x k, ((x.1, x.2.1 + 1, x.2.2) : ScanV)) from by unfold numV; first | rw [if_pos (by assumption)] | rw [if_neg (by omega), if_pos (by omega)] | rw [if_neg (by omega), if_neg (by omega), if_pos (by omega)] | (rw [if_neg (by omega), if_neg (by omega), if_neg (by omega), show k = 1 by simp only [List.length_take, List.length_drop] at *; omega]; rfl)])

theorem f39_body : Tryd.f39.body = some (.seq (.region 0 (rg Tryd.f39 0) false) (.seq (.block 0 (.seq (.region 1 (rg Tryd.f39 1) false) (.cond (.tmp 3) (.seq (.region 2 (rg Tryd.f39 2) false) (.ret)) (.seq (.region 3 (rg Tryd.f39 3) false) (.cond (.tmp 9) (.seq (.region 4 (rg Tryd.f39 4) false) (.ret)) (.seq (.region 5 (rg Tryd.f39 5) false) (.cond (.tmp 13) (.seq (.region 6 (rg Tryd.f39 6) false) (.ret)) (.skip)))))))) (.seq (.region 7 (rg Tryd.f39 7) false) (.ret)))) := by kernel_rfl

set_option maxRecDepth 100000 in
set_option maxHeartbeats 8000000 in
theorem End_c (s : Bytes) (i : Nat) (hl : s.length ≤ 1000000) : Pure Tryd.prog 39 [TV.agg [.s (st s), .s (i6 (atS s i)), .s (i6 (badS s i))]] (vc (i6 (endS s i))) := by
  refine Pure.of_body Tryd.func39 f39_body (by kernel_rfl) Tryd.ntmps39 (by kernel_rfl) (by kernel_rfl) ?_
  refine AMx.seq ?_
  refine AMx.region (ces := []) (ks := [1]) (hs := [1]) (cs := []) (s' := AS.lst 17 [(1, vp 1 0)] [(1, AObj.row [.s (st s), .s (i6 (atS s i)), .s (i6 (badS s i))])]) (by kernel_rfl) ?_ ?_
  · exact trivial
  refine AMx.seq ?_
  refine AMx.block ?_
  refine AMx.seq ?_
  refine AMx.region (ces := []) (ks := [1, 3]) (hs := [1]) (cs := []) (s' := AS.lst 17 [(1, vp 1 0), (3, vc (bo (!decide (badS s i = 0))))] [(1, AObj.row [.s (st s), .s (i6 (atS s i)), .s (i6 (badS s i))])]) (by kernel_rfl) ?_ ?_
  · exact trivial
  refine AMx.cond (b := !decide (badS s i = 0)) (by kernel_rfl) (fun hc1 => ?_) (fun hc1 => ?_)
  · try simp only [decide_eq_true_eq, decide_eq_false_iff_not, Bool.not_eq_true', Bool.not_eq_false'] at hc1
    refine AMx.seq ?_
    refine AMx.region (ces := []) (ks := [2]) (hs := []) (cs := []) (s' := AS.lst 17 [(2, vc (i6 (badS s i)))] []) (by kernel_rfl) ?_ ?_
    · exact trivial
    refine AMx.ret ?_
    exact RetP.mk (r := vc (i6 (badS s i))) (by kernel_rfl) (by rw [show endS s i = badS s i from by first | exact end_1 (by assumption) | exact end_4 (by assumption) (by omega) | exact end_0 (by assumption) (by omega) | (exfalso; have q := at_rng s i; omega)])
  · try simp only [decide_eq_true_eq, decide_eq_false_iff_not, Bool.not_eq_true', Bool.not_eq_false'] at hc1
    refine AMx.seq ?_
    refine AMx.region (ces := [(1, CE.call [] [] (vc (bo (decide (0 ≤ ((s, atS s i, badS s i) : ScanV).2.1) && decide (((s, atS s i, badS s i) : ScanV).2.1 ≤ (List.length ((s, atS s i, badS s i) : ScanV).1 : Int))))) [])]) (ks := [1, 9]) (hs := [1]) (cs := [Spec Tryd.prog 52 [TV.agg [.s (st s), .s (i6 (atS s i)), .s (i6 (badS s i))]] (ofH []) (vc (bo (decide (0 ≤ ((s, atS s i, badS s i) : ScanV).2.1) && decide (((s, atS s i, badS s i) : ScanV).2.1 ≤ (List.length ((s, atS s i, badS s i) : ScanV).1 : Int))))) (ofH [])]) (s' := AS.lst 17 [(1, vp 1 0), (9, vc (bo (!(decide (0 ≤ ((s, atS s i, badS s i) : ScanV).2.1) && decide (((s, atS s i, badS s i) : ScanV).2.1 ≤ (List.length ((s, atS s i, badS s i) : ScanV).1 : Int))))))] [(1, AObj.row [.s (st s), .s (i6 (atS s i)), .s (i6 (badS s i))])]) (by kernel_rfl) ?_ ?_
    · exact (stands_c ((s, atS s i, badS s i) : ScanV))
    refine AMx.cond (b := !(decide (0 ≤ ((s, atS s i, badS s i) : ScanV).2.1) && decide (((s, atS s i, badS s i) : ScanV).2.1 ≤ (List.length ((s, atS s i, badS s i) : ScanV).1 : Int)))) (by kernel_rfl) (fun hc2 => ?_) (fun hc2 => ?_)
    · try simp only [decide_eq_true_eq, decide_eq_false_iff_not, Bool.and_eq_true, Bool.and_eq_false_iff, Bool.not_eq_true', Bool.not_eq_false'] at hc2
      refine AMx.seq ?_
      refine AMx.region (ces := []) (ks := [2]) (hs := []) (cs := []) (s' := AS.lst 17 [(2, vc (i6 2))] []) (by kernel_rfl) ?_ ?_
      · exact trivial
      refine AMx.ret ?_
      exact RetP.mk (r := vc (i6 2)) (by kernel_rfl) (by rw [show endS s i = 2 from by first | exact end_1 (by assumption) | exact end_4 (by assumption) (by omega) | exact end_0 (by assumption) (by omega) | (exfalso; have q := at_rng s i; omega)])
    · try simp only [decide_eq_true_eq, decide_eq_false_iff_not, Bool.and_eq_true, Bool.and_eq_false_iff, Bool.not_eq_true', Bool.not_eq_false'] at hc2
      refine AMx.seq ?_
      refine AMx.region (ces := [(1, CE.call [] [] (vc (i6 ((List.length ((s, atS s i, badS s i) : ScanV).1 : Int) - ((s, atS s i, badS s i) : ScanV).2.1))) [])]) (ks := [13]) (hs := []) (cs := [Spec Tryd.prog 53 [TV.agg [.s (st s), .s (i6 (atS s i)), .s (i6 (badS s i))]] (ofH []) (vc (i6 ((List.length ((s, atS s i, badS s i) : ScanV).1 : Int) - ((s, atS s i, badS s i) : ScanV).2.1))) (ofH [])]) (s' := AS.lst 17 [(13, vc (bo (decide (0 < (List.length ((s, atS s i, badS s i) : ScanV).1 : Int) - ((s, atS s i, badS s i) : ScanV).2.1))))] []) (by kernel_rfl) ?_ ?_
      · exact (left_c ((s, atS s i, badS s i) : ScanV) (by first | omega | (have q := at_rng s i; omega)) (by first | omega | (have q := at_rng s i; omega)))
      refine AMx.cond (b := decide (0 < (List.length ((s, atS s i, badS s i) : ScanV).1 : Int) - ((s, atS s i, badS s i) : ScanV).2.1)) (by kernel_rfl) (fun hc3 => ?_) (fun hc3 => ?_)
      · try simp only [decide_eq_true_eq, decide_eq_false_iff_not] at hc3
        refine AMx.seq ?_
        refine AMx.region (ces := []) (ks := [2]) (hs := []) (cs := []) (s' := AS.lst 17 [(2, vc (i6 4))] []) (by kernel_rfl) ?_ ?_
        · exact trivial
        refine AMx.ret ?_
        exact RetP.mk (r := vc (i6 4)) (by kernel_rfl) (by rw [show endS s i = 4 from by first | exact end_1 (by assumption) | exact end_4 (by assumption) (by omega) | exact end_0 (by assumption) (by omega) | (exfalso; have q := at_rng s i; omega)])
      · try simp only [decide_eq_true_eq, decide_eq_false_iff_not] at hc3
        refine AMx.skip ?_
        refine AMx.blk ?_
        refine AMx.seq ?_
        refine AMx.region (ces := []) (ks := [2]) (hs := []) (cs := []) (s' := AS.lst 17 [(2, vc (i6 0))] []) (by kernel_rfl) ?_ ?_
        · exact trivial
        refine AMx.ret ?_
        exact RetP.mk (r := vc (i6 0)) (by kernel_rfl) (by rw [show endS s i = 0 from by first | exact end_1 (by assumption) | exact end_4 (by assumption) (by omega) | exact end_0 (by assumption) (by omega) | (exfalso; have q := at_rng s i; omega)])

theorem f38_body : Tryd.f38.body = some (.seq (.region 0 (rg Tryd.f38 0) false) (.seq (.region 1 (rg Tryd.f38 1) false) (.seq (.region 2 (rg Tryd.f38 2) false) (.seq (.region 3 (rg Tryd.f38 3) false) (.ret))))) := by kernel_rfl

set_option maxRecDepth 100000 in
set_option maxHeartbeats 8000000 in
theorem byteOf_c (x : ScanV) (hx : x.1.length ≤ 1000000) (d : Nat) : Spec Tryd.prog 38 [.c (.ptr d 0)] (ofH [(d, .row [.s (st x.1), .s (i6 x.2.1), .s (i6 x.2.2)])]) (vc (i6 ((numV x).1))) (ofH [(d, .row [.s (st ((numV x).2.1)), .s (i6 ((numV x).2.2.1)), .s (i6 ((numV x).2.2.2))])]) := by
  refine IO.of_body (D := 17) (row := [.s (st x.1), .s (i6 x.2.1), .s (i6 x.2.2)]) (row' := [.s (st ((numV x).2.1)), .s (i6 ((numV x).2.2.1)), .s (i6 ((numV x).2.2.2))]) Tryd.func38 f38_body (by kernel_rfl) Tryd.ntmps38 (by kernel_rfl) (by kernel_rfl) (by kernel_rfl) (by kernel_rfl) (by kernel_rfl) ?_ d
  refine AMx.seq ?_
  refine AMx.region (ces := []) (ks := [0]) (hs := [17]) (cs := []) (s' := AS.lst 17 [(0, vp 17 0)] [(17, AObj.row [.s (st x.1), .s (i6 x.2.1), .s (i6 x.2.2)])]) (by kernel_rfl) ?_ ?_
  · exact trivial
  refine AMx.seq ?_
  refine AMx.region (ces := [(3, CE.call [] [] (AV.tup [tc (u6 ((numV x).1)), TV.agg [.s (st (((numV x).2).1)), .s (i6 (((numV x).2).2.1)), .s (i6 (((numV x).2).2.2))]]) [])]) (ks := [0, 3, 4]) (hs := [4, 17]) (cs := [Spec Tryd.prog 51 [TV.agg [.s (st x.1), .s (i6 x.2.1), .s (i6 x.2.2)], tc (i6 1)] (ofH []) (AV.tup [tc (u6 ((numV x).1)), TV.agg [.s (st (((numV x).2).1)), .s (i6 (((numV x).2).2.1)), .s (i6 (((numV x).2).2.2))]]) (ofH [])]) (s' := AS.lst 17 [(0, vp 17 0), (3, vc (u6 ((numV x).1))), (4, vp 4 0)] [(4, AObj.row [.s (st (((numV x).2).1)), .s (i6 (((numV x).2).2.1)), .s (i6 (((numV x).2).2.2))]), (17, AObj.row [.s (st x.1), .s (i6 x.2.1), .s (i6 x.2.2)])]) (by kernel_rfl) ?_ ?_
  · exact (Num_c x (by first | omega | (have q := num_rng x; omega)))
  refine AMx.seq ?_
  refine AMx.region (ces := []) (ks := [3]) (hs := [17]) (cs := []) (s' := AS.lst 17 [(3, vc (u6 ((numV x).1)))] [(17, AObj.row [.s (st (((numV x).2).1)), .s (i6 (((numV x).2).2.1)), .s (i6 (((numV x).2).2.2))])]) (by kernel_rfl) ?_ ?_
  · exact trivial
  refine AMx.seq ?_
  refine AMx.region (ces := []) (ks := [2]) (hs := [17]) (cs := [InR .i64 ((numV x).1)]) (s' := AS.lst 17 [(2, vc (i6 ((numV x).1)))] [(17, AObj.row [.s (st (((numV x).2).1)), .s (i6 (((numV x).2).2.1)), .s (i6 (((numV x).2).2.2))])]) (by kernel_rfl) ?_ ?_
  · exact (show InR .i64 ((numV x).1) from (inR64 (by first | omega | (have q := num_rng x; omega)) (by first | omega | (have q := num_rng x; omega))))
  refine AMx.ret ?_
  exact ⟨.inl rfl, vc (i6 ((numV x).1)), AObj.row [.s (st (((numV x).2).1)), .s (i6 (((numV x).2).2.1)), .s (i6 (((numV x).2).2.2))], by kernel_rfl, rfl, by kernel_rfl, rfl, by kernel_rfl⟩

theorem byteAt_c (s : Bytes) (i : Nat) {a b : Int} (ha : a = atS s i) (hb : b = badS s i) (hl : s.length ≤ 1000000) (d : Nat) : Spec Tryd.prog 38 [.c (.ptr d 0)] (ofH [(d, .row [.s (st s), .s (i6 a), .s (i6 b)])]) (vc (i6 ((List.getD s i 0).toNat : Int))) (ofH [(d, .row [.s (st s), .s (i6 (atS s (i + 1))), .s (i6 (badS s (i + 1)))])]) := by
  subst ha; subst hb
  have h := byteOf_c (s, atS s i, badS s i) hl d
  rw [num_at] at h
  exact h

end AL.Rows
