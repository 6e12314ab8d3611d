/- rows: the contracts of its functions, by their walks. No condition. -/
import Derived.Test.YtiiiecdfganahaaDoorRowsA
namespace AL.Rows
open Go Go.Proofs AL
set_option linter.unusedVariables false
set_option linter.unusedSimpArgs false

theorem f50_body : Tryd.f50.body = some (.seq (.region 0 (rg Tryd.f50 0) false) (.seq (.region 1 (rg Tryd.f50 1) false) (.seq (.seq (.region 2 (rg Tryd.f50 2) false) (.block 0 (.seq (.region 4 (rg Tryd.f50 4) false) (.cond (.tmp 9) (.region 5 (rg Tryd.f50 5) false) (.seq (.region 6 (rg Tryd.f50 6) false) (.cond (.tmp 18) (.region 7 (rg Tryd.f50 7) false) (.seq (.region 8 (rg Tryd.f50 8) false) (.cond (.tmp 34) (.region 9 (rg Tryd.f50 9) false) (.seq (.seq (.region 10 (rg Tryd.f50 10) false) (.cond (.tmp 42) (.skip) (.region 11 (rg Tryd.f50 11) false))) (.cond (.tmp 42) (.region 12 (rg Tryd.f50 12) false) (.seq (.region 3 (rg Tryd.f50 3) false) (.ret)))))))))))) (.seq (.seq (.region 13 (rg Tryd.f50 13) false) (.cond (.tmp 52) (.seq (.region 14 (rg Tryd.f50 14) false) (.ret)) (.skip))) (.seq (.region 15 (rg Tryd.f50 15) false) (.ret)))))) := by kernel_rfl

set_option maxRecDepth 100000 in
set_option maxHeartbeats 8000000 in
theorem Check_c (k : KeyV) : Pure Tryd.prog 50 [TV.agg [.s (u8 k.1), .s (st k.2.1), .s (i6 k.2.2)]] (vc (i6 (checkK k))) := by
  refine Pure.of_body Tryd.func50 f50_body (by kernel_rfl) Tryd.ntmps50 (by kernel_rfl) (by kernel_rfl) ?_
  refine AMx.seq ?_
  refine AMx.region (ces := []) (ks := [1]) (hs := [1]) (cs := []) (s' := AS.lst 53 [(1, vp 1 0)] [(1, AObj.row [.s (u8 k.1), .s (st k.2.1), .s (i6 k.2.2)])]) (by kernel_rfl) ?_ ?_
  · exact trivial
  refine AMx.seq ?_
  refine AMx.region (ces := []) (ks := [1, 3]) (hs := [1]) (cs := []) (s' := AS.lst 53 [(1, vp 1 0), (3, vc (bo (decide (k.2.2 = 0))))] [(1, AObj.row [.s (u8 k.1), .s (st k.2.1), .s (i6 k.2.2)])]) (by kernel_rfl) ?_ ?_
  · exact trivial
  refine AMx.seq ?_
  refine AMx.seq ?_
  refine AMx.region (ces := []) (ks := [1, 3, 8]) (hs := [1]) (cs := []) (s' := AS.lst 53 [(1, vp 1 0), (3, vc (bo (decide (k.2.2 = 0)))), (8, vc (u8 k.1))] [(1, AObj.row [.s (u8 k.1), .s (st k.2.1), .s (i6 k.2.2)])]) (by kernel_rfl) ?_ ?_
  · exact trivial
  refine AMx.block ?_
  refine AMx.seq ?_
  refine AMx.region (ces := []) (ks := [1, 3, 8, 9]) (hs := [1]) (cs := []) (s' := AS.lst 53 [(1, vp 1 0), (3, vc (bo (decide (k.2.2 = 0)))), (8, vc (u8 k.1)), (9, vc (bo (decide (k.1 = 1))))] [(1, AObj.row [.s (u8 k.1), .s (st k.2.1), .s (i6 k.2.2)])]) (by kernel_rfl) ?_ ?_
  · exact trivial
  refine AMx.cond (b := decide (k.1 = 1)) (by kernel_rfl) (fun hc1 => ?_) (fun hc1 => ?_)
  · try simp only [decide_eq_true_eq, decide_eq_false_iff_not] at hc1
    refine AMx.region (ces := [(4, CE.call [] [] (vc (i6 (Route.checkS k.2.1))) [])]) (ks := [3]) (hs := []) (cs := [((decide (k.2.2 = 0)) = true) → allP [], ((decide (k.2.2 = 0)) = true) → allP [(decide (k.2.2 = 0)) = true], ((decide (k.2.2 = 0)) = true) → allP [(decide (k.2.2 = 0)) = true, Spec Tryd.prog 37 [tc (st k.2.1)] (ofH []) (vc (i6 (Route.checkS k.2.1))) (ofH [])], ((decide (k.2.2 = 0)) = true) → allP [(decide (k.2.2 = 0)) = true], (decide (k.2.2 = 0)) = true → allP [(decide (k.2.2 = 0)) = true]]) (s' := AS.lst 53 [(3, vc (bo ((decide (k.2.2 = 0)) && (decide (Route.checkS k.2.1 = 0)))))] []) (by kernel_rfl) ?_ ?_
    · exact ⟨(fun _ => trivial), (fun hp => hp), (fun hp => by have hq := hp; (try simp only [decide_eq_true_eq, decide_eq_false_iff_not, Bool.and_eq_true, Bool.or_eq_true, Bool.and_eq_false_iff, Bool.or_eq_false_iff, Bool.not_eq_true', Bool.not_eq_false', Bool.not_eq_true, Bool.not_eq_false] at hq); exact ⟨hp, (Route.Check_c k.2.1)⟩), (fun hp => hp), (fun hp2 => (by first | exact hp2 | exact ⟨hp, hp2⟩))⟩
    refine AMx.blk ?_
    refine AMx.seq ?_
    refine AMx.seq ?_
    refine AMx.region (ces := []) (ks := [52]) (hs := []) (cs := []) (s' := AS.lst 53 [(52, vc (bo (!((decide (k.2.2 = 0)) && (decide (Route.checkS k.2.1 = 0))))))] []) (by kernel_rfl) ?_ ?_
    · exact trivial
    refine AMx.cond (b := !((decide (k.2.2 = 0)) && (decide (Route.checkS k.2.1 = 0)))) (by kernel_rfl) (fun hc2 => ?_) (fun hc2 => ?_)
    · try simp only [decide_eq_true_eq, decide_eq_false_iff_not, Bool.and_eq_true, Bool.and_eq_false_iff, Bool.not_eq_true', Bool.not_eq_false'] at hc2
      refine AMx.seq ?_
      refine AMx.region (ces := []) (ks := [2]) (hs := []) (cs := []) (s' := AS.lst 53 [(2, vc (i6 2))] []) (by kernel_rfl) ?_ ?_
      · exact trivial
      refine AMx.ret ?_
      exact RetP.mk (r := vc (i6 2)) (by kernel_rfl) (by rw [show checkK k = 2 from by unfold checkK MayK; grind])
    · try simp only [decide_eq_true_eq, decide_eq_false_iff_not, Bool.and_eq_true, Bool.and_eq_false_iff, Bool.not_eq_true', Bool.not_eq_false'] at hc2
      refine AMx.skip ?_
      refine AMx.seq ?_
      refine AMx.region (ces := []) (ks := [2]) (hs := []) (cs := []) (s' := AS.lst 53 [(2, vc (i6 0))] []) (by kernel_rfl) ?_ ?_
      · exact trivial
      refine AMx.ret ?_
      exact RetP.mk (r := vc (i6 0)) (by kernel_rfl) (by rw [show checkK k = 0 from by unfold checkK MayK; grind])
  · try simp only [decide_eq_true_eq, decide_eq_false_iff_not] at hc1
    refine AMx.seq ?_
    refine AMx.region (ces := []) (ks := [1, 3, 8, 18]) (hs := [1]) (cs := []) (s' := AS.lst 53 [(1, vp 1 0), (3, vc (bo (decide (k.2.2 = 0)))), (8, vc (u8 k.1)), (18, vc (bo (decide (k.1 = 2))))] [(1, AObj.row [.s (u8 k.1), .s (st k.2.1), .s (i6 k.2.2)])]) (by kernel_rfl) ?_ ?_
    · exact trivial
    refine AMx.cond (b := decide (k.1 = 2)) (by kernel_rfl) (fun hc3 => ?_) (fun hc3 => ?_)
    · try simp only [decide_eq_true_eq, decide_eq_false_iff_not] at hc3
      refine AMx.region (ces := [(11, CE.call [] [] (vc (i6 (Route.checkS k.2.1))) [])]) (ks := [3]) (hs := []) (cs := [((decide (1 ≤ k.2.2)) = true) → allP [], ((decide (1 ≤ k.2.2)) = true) → allP [(decide (1 ≤ k.2.2)) = true], ((decide (1 ≤ k.2.2)) = true) → allP [(decide (1 ≤ k.2.2)) = true], (decide (1 ≤ k.2.2)) = true → allP [(decide (1 ≤ k.2.2)) = true], (((decide (1 ≤ k.2.2)) && (decide (k.2.2 ≤ 30))) = true) → allP [], (((decide (1 ≤ k.2.2)) && (decide (k.2.2 ≤ 30))) = true) → allP [((decide (1 ≤ k.2.2)) && (decide (k.2.2 ≤ 30))) = true], (((decide (1 ≤ k.2.2)) && (decide (k.2.2 ≤ 30))) = true) → allP [((decide (1 ≤ k.2.2)) && (decide (k.2.2 ≤ 30))) = true, Spec Tryd.prog 37 [tc (st k.2.1)] (ofH []) (vc (i6 (Route.checkS k.2.1))) (ofH [])], (((decide (1 ≤ k.2.2)) && (decide (k.2.2 ≤ 30))) = true) → allP [((decide (1 ≤ k.2.2)) && (decide (k.2.2 ≤ 30))) = true], ((decide (1 ≤ k.2.2)) && (decide (k.2.2 ≤ 30))) = true → allP [((decide (1 ≤ k.2.2)) && (decide (k.2.2 ≤ 30))) = true]]) (s' := AS.lst 53 [(3, vc (bo (((decide (1 ≤ k.2.2)) && (decide (k.2.2 ≤ 30))) && (decide (Route.checkS k.2.1 = 0)))))] []) (by kernel_rfl) ?_ ?_
      · exact ⟨(fun _ => trivial), (fun hp => hp), (fun hp => hp), (fun hp2 => (by first | exact hp2 | exact ⟨hp, hp2⟩)), (fun _ => trivial), (fun hp => hp), (fun hp => by have hq := hp; (try simp only [decide_eq_true_eq, decide_eq_false_iff_not, Bool.and_eq_true, Bool.or_eq_true, Bool.and_eq_false_iff, Bool.or_eq_false_iff, Bool.not_eq_true', Bool.not_eq_false', Bool.not_eq_true, Bool.not_eq_false] at hq); exact ⟨hp, (Route.Check_c k.2.1)⟩), (fun hp => hp), (fun hp2 => (by first | exact hp2 | exact ⟨hp, hp2⟩))⟩
      refine AMx.blk ?_
      refine AMx.seq ?_
      refine AMx.seq ?_
      refine AMx.region (ces := []) (ks := [52]) (hs := []) (cs := []) (s' := AS.lst 53 [(52, vc (bo (!(((decide (1 ≤ k.2.2)) && (decide (k.2.2 ≤ 30))) && (decide (Route.checkS k.2.1 = 0))))))] []) (by kernel_rfl) ?_ ?_
      · exact trivial
      refine AMx.cond (b := !(((decide (1 ≤ k.2.2)) && (decide (k.2.2 ≤ 30))) && (decide (Route.checkS k.2.1 = 0)))) (by kernel_rfl) (fun hc4 => ?_) (fun hc4 => ?_)
      · try simp only [decide_eq_true_eq, decide_eq_false_iff_not, Bool.and_eq_true, Bool.and_eq_false_iff, Bool.not_eq_true', Bool.not_eq_false'] at hc4
        refine AMx.seq ?_
        refine AMx.region (ces := []) (ks := [2]) (hs := []) (cs := []) (s' := AS.lst 53 [(2, vc (i6 2))] []) (by kernel_rfl) ?_ ?_
        · exact trivial
        refine AMx.ret ?_
        exact RetP.mk (r := vc (i6 2)) (by kernel_rfl) (by rw [show checkK k = 2 from by unfold checkK MayK; grind])
      · try simp only [decide_eq_true_eq, decide_eq_false_iff_not, Bool.and_eq_true, Bool.and_eq_false_iff, Bool.not_eq_true', Bool.not_eq_false'] at hc4
        refine AMx.skip ?_
        refine AMx.seq ?_
        refine AMx.region (ces := []) (ks := [2]) (hs := []) (cs := []) (s' := AS.lst 53 [(2, vc (i6 0))] []) (by kernel_rfl) ?_ ?_
        · exact trivial
        refine AMx.ret ?_
        exact RetP.mk (r := vc (i6 0)) (by kernel_rfl) (by rw [show checkK k = 0 from by unfold checkK MayK; grind])
    · try simp only [decide_eq_true_eq, decide_eq_false_iff_not] at hc3
      refine AMx.seq ?_
      refine AMx.region (ces := []) (ks := [1, 3, 8, 34]) (hs := [1]) (cs := []) (s' := AS.lst 53 [(1, vp 1 0), (3, vc (bo (decide (k.2.2 = 0)))), (8, vc (u8 k.1)), (34, vc (bo (decide (k.1 = 3))))] [(1, AObj.row [.s (u8 k.1), .s (st k.2.1), .s (i6 k.2.2)])]) (by kernel_rfl) ?_ ?_
      · exact trivial
      refine AMx.cond (b := decide (k.1 = 3)) (by kernel_rfl) (fun hc5 => ?_) (fun hc5 => ?_)
      · try simp only [decide_eq_true_eq, decide_eq_false_iff_not] at hc5
        refine AMx.region (ces := [(4, CE.call [] [] (vc (bo (namedS k.2.1))) [])]) (ks := [3]) (hs := []) (cs := [((decide (k.2.2 = 0)) = true) → allP [], ((decide (k.2.2 = 0)) = true) → allP [(decide (k.2.2 = 0)) = true], ((decide (k.2.2 = 0)) = true) → allP [(decide (k.2.2 = 0)) = true, Spec Tryd.prog 62 [tc (st k.2.1)] (ofH []) (vc (bo (namedS k.2.1))) (ofH [])], (decide (k.2.2 = 0)) = true → allP [(decide (k.2.2 = 0)) = true]]) (s' := AS.lst 53 [(3, vc (bo ((decide (k.2.2 = 0)) && (namedS k.2.1))))] []) (by kernel_rfl) ?_ ?_
        · exact ⟨(fun _ => trivial), (fun hp => hp), (fun hp => by have hq := hp; (try simp only [decide_eq_true_eq, decide_eq_false_iff_not, Bool.and_eq_true, Bool.or_eq_true, Bool.and_eq_false_iff, Bool.or_eq_false_iff, Bool.not_eq_true', Bool.not_eq_false', Bool.not_eq_true, Bool.not_eq_false] at hq); exact ⟨hp, (named_c k.2.1)⟩), (fun hp2 => (by first | exact hp2 | exact ⟨hp, hp2⟩))⟩
        refine AMx.blk ?_
        refine AMx.seq ?_
        refine AMx.seq ?_
        refine AMx.region (ces := []) (ks := [52]) (hs := []) (cs := []) (s' := AS.lst 53 [(52, vc (bo (!((decide (k.2.2 = 0)) && (namedS k.2.1)))))] []) (by kernel_rfl) ?_ ?_
        · exact trivial
        refine AMx.cond (b := !((decide (k.2.2 = 0)) && (namedS k.2.1))) (by kernel_rfl) (fun hc6 => ?_) (fun hc6 => ?_)
        · try simp only [decide_eq_true_eq, decide_eq_false_iff_not, Bool.and_eq_true, Bool.and_eq_false_iff, Bool.not_eq_true', Bool.not_eq_false'] at hc6
          refine AMx.seq ?_
          refine AMx.region (ces := []) (ks := [2]) (hs := []) (cs := []) (s' := AS.lst 53 [(2, vc (i6 2))] []) (by kernel_rfl) ?_ ?_
          · exact trivial
          refine AMx.ret ?_
          exact RetP.mk (r := vc (i6 2)) (by kernel_rfl) (by rw [show checkK k = 2 from by unfold checkK MayK; grind])
        · try simp only [decide_eq_true_eq, decide_eq_false_iff_not, Bool.and_eq_true, Bool.and_eq_false_iff, Bool.not_eq_true', Bool.not_eq_false'] at hc6
          refine AMx.skip ?_
          refine AMx.seq ?_
          refine AMx.region (ces := []) (ks := [2]) (hs := []) (cs := []) (s' := AS.lst 53 [(2, vc (i6 0))] []) (by kernel_rfl) ?_ ?_
          · exact trivial
          refine AMx.ret ?_
          exact RetP.mk (r := vc (i6 0)) (by kernel_rfl) (by rw [show checkK k = 0 from by unfold checkK MayK; grind])
      · try simp only [decide_eq_true_eq, decide_eq_false_iff_not] at hc5
        refine AMx.seq ?_
        refine AMx.seq ?_
        refine AMx.region (ces := []) (ks := [1, 3, 8, 42]) (hs := [1]) (cs := []) (s' := AS.lst 53 [(1, vp 1 0), (3, vc (bo (decide (k.2.2 = 0)))), (8, vc (u8 k.1)), (42, vc (bo (decide (k.1 = 4))))] [(1, AObj.row [.s (u8 k.1), .s (st k.2.1), .s (i6 k.2.2)])]) (by kernel_rfl) ?_ ?_
        · exact trivial
        refine AMx.cond (b := decide (k.1 = 4)) (by kernel_rfl) (fun hc7 => ?_) (fun hc7 => ?_)
        · try simp only [decide_eq_true_eq, decide_eq_false_iff_not] at hc7
          refine AMx.skip ?_
          refine AMx.cond (b := decide (k.1 = 4)) (by kernel_rfl) (fun hc8 => ?_) (fun hc8 => ?_)
          · try simp only [decide_eq_true_eq, decide_eq_false_iff_not] at hc8
            refine AMx.region (ces := []) (ks := [3]) (hs := []) (cs := [((decide (k.2.2 = 0)) = true) → allP [], ((decide (k.2.2 = 0)) = true) → allP [(decide (k.2.2 = 0)) = true], ((decide (k.2.2 = 0)) = true) → allP [(decide (k.2.2 = 0)) = true], (decide (k.2.2 = 0)) = true → allP [(decide (k.2.2 = 0)) = true]]) (s' := AS.lst 53 [(3, vc (bo ((decide (k.2.2 = 0)) && (decide (k.2.1 = [])))))] []) (by kernel_rfl) ?_ ?_
            · exact ⟨(fun _ => trivial), (fun hp => hp), (fun hp => hp), (fun hp2 => (by first | exact hp2 | exact ⟨hp, hp2⟩))⟩
            refine AMx.blk ?_
            refine AMx.seq ?_
            refine AMx.seq ?_
            refine AMx.region (ces := []) (ks := [52]) (hs := []) (cs := []) (s' := AS.lst 53 [(52, vc (bo (!((decide (k.2.2 = 0)) && (decide (k.2.1 = []))))))] []) (by kernel_rfl) ?_ ?_
            · exact trivial
            refine AMx.cond (b := !((decide (k.2.2 = 0)) && (decide (k.2.1 = [])))) (by kernel_rfl) (fun hc9 => ?_) (fun hc9 => ?_)
            · try simp only [decide_eq_true_eq, decide_eq_false_iff_not, Bool.and_eq_true, Bool.and_eq_false_iff, Bool.not_eq_true', Bool.not_eq_false'] at hc9
              refine AMx.seq ?_
              refine AMx.region (ces := []) (ks := [2]) (hs := []) (cs := []) (s' := AS.lst 53 [(2, vc (i6 2))] []) (by kernel_rfl) ?_ ?_
              · exact trivial
              refine AMx.ret ?_
              exact RetP.mk (r := vc (i6 2)) (by kernel_rfl) (by rw [show checkK k = 2 from by unfold checkK MayK; grind])
            · try simp only [decide_eq_true_eq, decide_eq_false_iff_not, Bool.and_eq_true, Bool.and_eq_false_iff, Bool.not_eq_true', Bool.not_eq_false'] at hc9
              refine AMx.skip ?_
              refine AMx.seq ?_
              refine AMx.region (ces := []) (ks := [2]) (hs := []) (cs := []) (s' := AS.lst 53 [(2, vc (i6 0))] []) (by kernel_rfl) ?_ ?_
              · exact trivial
              refine AMx.ret ?_
              exact RetP.mk (r := vc (i6 0)) (by kernel_rfl) (by rw [show checkK k = 0 from by unfold checkK MayK; grind])
          · try simp only [decide_eq_true_eq, decide_eq_false_iff_not] at hc8
            refine AMx.seq ?_
            refine AMx.region (ces := []) (ks := [2]) (hs := []) (cs := []) (s' := AS.lst 53 [(2, vc (i6 22))] []) (by kernel_rfl) ?_ ?_
            · exact trivial
            refine AMx.ret ?_
            exact RetP.mk (r := vc (i6 22)) (by kernel_rfl) (by rw [show checkK k = 22 from by unfold checkK MayK; grind])
        · try simp only [decide_eq_true_eq, decide_eq_false_iff_not] at hc7
          refine AMx.region (ces := []) (ks := [1, 3, 42]) (hs := [1]) (cs := []) (s' := AS.lst 53 [(1, vp 1 0), (3, vc (bo (decide (k.2.2 = 0)))), (42, vc (bo (decide (k.1 = 5))))] [(1, AObj.row [.s (u8 k.1), .s (st k.2.1), .s (i6 k.2.2)])]) (by kernel_rfl) ?_ ?_
          · exact trivial
          refine AMx.cond (b := decide (k.1 = 5)) (by kernel_rfl) (fun hc10 => ?_) (fun hc10 => ?_)
          · try simp only [decide_eq_true_eq, decide_eq_false_iff_not] at hc10
            refine AMx.region (ces := []) (ks := [3]) (hs := []) (cs := [((decide (k.2.2 = 0)) = true) → allP [], ((decide (k.2.2 = 0)) = true) → allP [(decide (k.2.2 = 0)) = true], ((decide (k.2.2 = 0)) = true) → allP [(decide (k.2.2 = 0)) = true], (decide (k.2.2 = 0)) = true → allP [(decide (k.2.2 = 0)) = true]]) (s' := AS.lst 53 [(3, vc (bo ((decide (k.2.2 = 0)) && (decide (k.2.1 = [])))))] []) (by kernel_rfl) ?_ ?_
            · exact ⟨(fun _ => trivial), (fun hp => hp), (fun hp => hp), (fun hp2 => (by first | exact hp2 | exact ⟨hp, hp2⟩))⟩
            refine AMx.blk ?_
            refine AMx.seq ?_
            refine AMx.seq ?_
            refine AMx.region (ces := []) (ks := [52]) (hs := []) (cs := []) (s' := AS.lst 53 [(52, vc (bo (!((decide (k.2.2 = 0)) && (decide (k.2.1 = []))))))] []) (by kernel_rfl) ?_ ?_
            · exact trivial
            refine AMx.cond (b := !((decide (k.2.2 = 0)) && (decide (k.2.1 = [])))) (by kernel_rfl) (fun hc11 => ?_) (fun hc11 => ?_)
            · try simp only [decide_eq_true_eq, decide_eq_false_iff_not, Bool.and_eq_true, Bool.and_eq_false_iff, Bool.not_eq_true', Bool.not_eq_false'] at hc11
              refine AMx.seq ?_
              refine AMx.region (ces := []) (ks := [2]) (hs := []) (cs := []) (s' := AS.lst 53 [(2, vc (i6 2))] []) (by kernel_rfl) ?_ ?_
              · exact trivial
              refine AMx.ret ?_
              exact RetP.mk (r := vc (i6 2)) (by kernel_rfl) (by rw [show checkK k = 2 from by unfold checkK MayK; grind])
            · try simp only [decide_eq_true_eq, decide_eq_false_iff_not, Bool.and_eq_true, Bool.and_eq_false_iff, Bool.not_eq_true', Bool.not_eq_false'] at hc11
              refine AMx.skip ?_
              refine AMx.seq ?_
              refine AMx.region (ces := []) (ks := [2]) (hs := []) (cs := []) (s' := AS.lst 53 [(2, vc (i6 0))] []) (by kernel_rfl) ?_ ?_
              · exact trivial
              refine AMx.ret ?_
              exact RetP.mk (r := vc (i6 0)) (by kernel_rfl) (by rw [show checkK k = 0 from by unfold checkK MayK; grind])
          · try simp only [decide_eq_true_eq, decide_eq_false_iff_not] at hc10
            refine AMx.seq ?_
            refine AMx.region (ces := []) (ks := [2]) (hs := []) (cs := []) (s' := AS.lst 53 [(2, vc (i6 22))] []) (by kernel_rfl) ?_ ?_
            · exact trivial
            refine AMx.ret ?_
            exact RetP.mk (r := vc (i6 22)) (by kernel_rfl) (by rw [show checkK k = 22 from by unfold checkK MayK; grind])

end AL.Rows
