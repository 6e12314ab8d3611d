/- under: the contracts of its functions, by their walks. No condition. -/
import Derived.Test.YtfdappjogpngiaaDoorCutE
namespace AL.Under
open Go Go.Proofs AL AL.Fnv
set_option linter.unusedVariables false
set_option linter.unusedSimpArgs false

theorem f42_body : Tryd.f42.body = some (.seq (.region 0 (rg Tryd.f42 0) false) (.seq (.seq (.region 1 (rg Tryd.f42 1) false) (.cond (.tmp 9) (.seq (.region 2 (rg Tryd.f42 2) false) (.ret)) (.skip))) (.seq (.region 3 (rg Tryd.f42 3) false) (.seq (.seq (.region 4 (rg Tryd.f42 4) false) (.cond (.tmp 20) (.seq (.region 5 (rg Tryd.f42 5) false) (.ret)) (.skip))) (.seq (.region 6 (rg Tryd.f42 6) false) (.ret)))))) := by kernel_rfl

set_option maxRecDepth 100000 in
set_option maxHeartbeats 8000000 in
theorem rest_c (s top : Bytes) : Pure Tryd.prog 42 [tc (st s), tc (st top)] (AV.tup [tc (st ((restS s top).1)), tc (bo ((restS s top).2))]) := by
  refine Pure.of_body Tryd.func42 f42_body (by kernel_rfl) Tryd.ntmps42 (by kernel_rfl) (by kernel_rfl) ?_
  refine AMx.seq ?_
  refine AMx.region (ces := []) (ks := [0, 1]) (hs := []) (cs := []) (s' := AS.lst 25 [(0, vc (st s)), (1, vc (st top))] []) (by kernel_rfl) ?_ ?_
  · exact trivial
  refine AMx.seq ?_
  refine AMx.seq ?_
  refine AMx.region (ces := []) (ks := [0, 1, 9]) (hs := []) (cs := []) (s' := AS.lst 25 [(0, vc (st s)), (1, vc (st top)), (9, vc (bo (decide (top = []))))] []) (by kernel_rfl) ?_ ?_
  · exact trivial
  refine AMx.cond (b := decide (top = [])) (by kernel_rfl) (fun hc1 => ?_) (fun hc1 => ?_)
  · try simp only [decide_eq_true_eq, decide_eq_false_iff_not] at hc1
    refine AMx.seq ?_
    refine AMx.region (ces := []) (ks := [4, 5]) (hs := []) (cs := []) (s' := AS.lst 25 [(4, vc (st s)), (5, vc (bo (!decide (s = []))))] []) (by kernel_rfl) ?_ ?_
    · exact trivial
    refine AMx.ret ?_
    exact RetP.mk (r := AV.tup [tc (st s), tc (bo (!decide (s = [])))]) (by kernel_rfl) (by rw [show restS s top = (s, !decide (s = [])) from by unfold restS; simp [*]])
  · try simp only [decide_eq_true_eq, decide_eq_false_iff_not] at hc1
    refine AMx.skip ?_
    refine AMx.seq ?_
    refine AMx.region (ces := [(2, CE.call [] [] (AV.tup [tc (st (trimP s top)), tc (bo (hasP s top))]) [])]) (ks := [6, 7]) (hs := []) (cs := [Spec Tryd.prog 43 [tc (st s), tc (st top)] (ofH []) (AV.tup [tc (st (trimP s top)), tc (bo (hasP s top))]) (ofH [])]) (s' := AS.lst 25 [(6, vc (st (trimP s top))), (7, vc (bo (hasP s top)))] []) (by kernel_rfl) ?_ ?_
    · exact (CutPrefix_c s top)
    refine AMx.seq ?_
    refine AMx.seq ?_
    refine AMx.region (ces := []) (ks := [6, 20]) (hs := []) (cs := []) (s' := AS.lst 25 [(6, vc (st (trimP s top))), (20, vc (bo (!(hasP s top))))] []) (by kernel_rfl) ?_ ?_
    · exact trivial
    refine AMx.cond (b := !(hasP s top)) (by kernel_rfl) (fun hc2 => ?_) (fun hc2 => ?_)
    · try simp only [decide_eq_true_eq, decide_eq_false_iff_not, Bool.not_eq_true', Bool.not_eq_false'] at hc2
      refine AMx.seq ?_
      refine AMx.region (ces := []) (ks := [4, 5]) (hs := []) (cs := []) (s' := AS.lst 25 [(4, vc (st [])), (5, vc (bo false))] []) (by kernel_rfl) ?_ ?_
      · exact trivial
      refine AMx.ret ?_
      exact RetP.mk (r := AV.tup [tc (st []), tc (bo false)]) (by kernel_rfl) (by rw [show restS s top = ([], false) from by unfold restS; simp [*]])
    · try simp only [decide_eq_true_eq, decide_eq_false_iff_not, Bool.not_eq_true', Bool.not_eq_false'] at hc2
      refine AMx.skip ?_
      refine AMx.seq ?_
      refine AMx.region (ces := [(1, CE.call [] [] (AV.tup [tc (st (trimP (trimP s top) [47])), tc (bo (hasP (trimP s top) [47]))]) [])]) (ks := [4, 5]) (hs := []) (cs := [Spec Tryd.prog 43 [tc (st (trimP s top)), tc (st [47])] (ofH []) (AV.tup [tc (st (trimP (trimP s top) [47])), tc (bo (hasP (trimP s top) [47]))]) (ofH [])]) (s' := AS.lst 25 [(4, vc (st (trimP (trimP s top) [47]))), (5, vc (bo (hasP (trimP s top) [47])))] []) (by kernel_rfl) ?_ ?_
      · exact (CutPrefix_c (trimP s top) [47])
      refine AMx.ret ?_
      exact RetP.mk (r := AV.tup [tc (st (trimP (trimP s top) [47])), tc (bo (hasP (trimP s top) [47]))]) (by kernel_rfl) (by rw [show restS s top = (trimP (trimP s top) [47], hasP (trimP s top) [47]) from by unfold restS; simp [*]])

theorem f27_body : Tryd.f27.body = some (.seq (.region 0 (rg Tryd.f27 0) false) (.seq (.region 1 (rg Tryd.f27 1) false) (.seq (.region 2 (rg Tryd.f27 2) false) (.ret)))) := by kernel_rfl

set_option maxRecDepth 100000 in
set_option maxHeartbeats 8000000 in
theorem Below_c (s top : Bytes) : Pure Tryd.prog 27 [tc (st s), tc (st top)] (vc (bo (belowS s top))) := by
  refine Pure.of_body Tryd.func27 f27_body (by kernel_rfl) Tryd.ntmps27 (by kernel_rfl) (by kernel_rfl) ?_
  refine AMx.seq ?_
  refine AMx.region (ces := []) (ks := [0, 1]) (hs := []) (cs := []) (s' := AS.lst 14 [(0, vc (st s)), (1, vc (st top))] []) (by kernel_rfl) ?_ ?_
  · exact trivial
  refine AMx.seq ?_
  refine AMx.region (ces := [(2, CE.call [] [] (AV.tup [tc (st ((restS s top).1)), tc (bo ((restS s top).2))]) [])]) (ks := [6]) (hs := []) (cs := [Spec Tryd.prog 42 [tc (st s), tc (st top)] (ofH []) (AV.tup [tc (st ((restS s top).1)), tc (bo ((restS s top).2))]) (ofH [])]) (s' := AS.lst 14 [(6, vc (bo ((restS s top).2)))] []) (by kernel_rfl) ?_ ?_
  · exact (rest_c s top)
  refine AMx.seq ?_
  refine AMx.region (ces := []) (ks := [4]) (hs := []) (cs := []) (s' := AS.lst 14 [(4, vc (bo ((restS s top).2)))] []) (by kernel_rfl) ?_ ?_
  · exact trivial
  refine AMx.ret ?_
  exact RetP.mk (r := vc (bo ((restS s top).2))) (by kernel_rfl) rfl

end AL.Under
