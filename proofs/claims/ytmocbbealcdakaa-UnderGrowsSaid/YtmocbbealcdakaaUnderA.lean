/- under: the contracts of its functions, by their walks. No condition. -/
import Derived.Test.YtmocbbealcdakaaUnderE
namespace AL.Under
open Go Go.Proofs AL AL.Fnv
set_option linter.unusedVariables false
set_option linter.unusedSimpArgs false

theorem f38_body : Try.f38.body = some (.seq (.region 0 (rg Try.f38 0) false) (.seq (.seq (.region 1 (rg Try.f38 1) false) (.seq (.region 2 (rg Try.f38 2) false) (.cond (.tmp 12) (.seq (.region 3 (rg Try.f38 3) true) (.ret)) (.skip)))) (.seq (.region 4 (rg Try.f38 4) false) (.ret)))) := by kernel_rfl

set_option maxRecDepth 100000 in
set_option maxHeartbeats 8000000 in
theorem LCut_c (s : Bytes) : Pure Try.prog 38 [tc (st s), tc (st [47])] (AV.tup [tc (st ((cutS s).1)), tc (st ((cutS s).2.1)), tc (bo ((cutS s).2.2))]) := by
  refine Pure.of_body Try.func38 f38_body (by kernel_rfl) Try.ntmps38 (by kernel_rfl) (by kernel_rfl) ?_
  refine AMx.str 0 (b := s) rfl (fun hl => ?_)
  simp only [maxLen] at hl
  refine AMx.seq ?_
  refine AMx.region (ces := []) (ks := [0, 1]) (hs := []) (cs := []) (s' := AS.lst 23 [(0, vc (st s)), (1, vc (st [47]))] []) (by kernel_rfl) ?_ ?_
  · exact trivial
  refine AMx.seq ?_
  refine AMx.seq ?_
  refine AMx.region (ces := [(2, CE.call [] [] (vc (i6 (Go.Lib.indexByte s 47))) [])]) (ks := [0, 1, 7]) (hs := []) (cs := [Spec Try.prog 43 [tc (st s), tc (st [47])] (ofH []) (vc (i6 (Go.Lib.indexByte s 47))) (ofH [])]) (s' := AS.lst 23 [(0, vc (st s)), (1, vc (st [47])), (7, vc (i6 (Go.Lib.indexByte s 47)))] []) (by kernel_rfl) ?_ ?_
  · exact (IndexOne_c s)
  refine AMx.seq ?_
  refine AMx.region (ces := []) (ks := [0, 1, 7, 12]) (hs := []) (cs := []) (s' := AS.lst 23 [(0, vc (st s)), (1, vc (st [47])), (7, vc (i6 (Go.Lib.indexByte s 47))), (12, vc (bo (decide (0 ≤ Go.Lib.indexByte s 47))))] []) (by kernel_rfl) ?_ ?_
  · exact trivial
  refine AMx.cond (b := decide (0 ≤ Go.Lib.indexByte s 47)) (by kernel_rfl) (fun hc1 => ?_) (fun hc1 => ?_)
  · try simp only [decide_eq_true_eq, decide_eq_false_iff_not] at hc1
    refine AMx.seq ?_
    refine AMx.region_draw (ces := []) (ros := []) (ks := [4, 5, 6]) (hs := []) (cs := [0 ≤ Go.Lib.indexByte s 47, Go.Lib.indexByte s 47 ≤ List.length s, InR .i64 ((Go.Lib.indexByte s 47) + (List.length ([47] : List UInt8) : Int)), 0 ≤ (Go.Lib.indexByte s 47) + (List.length ([47] : List UInt8) : Int), (Go.Lib.indexByte s 47) + (List.length ([47] : List UInt8) : Int) ≤ List.length s]) (s' := AS.lst 23 [(4, vc (st (List.take (Go.Lib.indexByte s 47).toNat s))), (5, vc (st (List.drop ((Go.Lib.indexByte s 47) + (List.length ([47] : List UInt8) : Int)).toNat s))), (6, vc (bo true))] []) mixed (by kernel_rfl) ?_ ?_
    · exact ⟨(show 0 ≤ Go.Lib.indexByte s 47 from (by first | omega | (have hi := index_lt s; have h1 : List.length ([47] : List UInt8) = 1 := rfl; omega))), (show Go.Lib.indexByte s 47 ≤ List.length s from (by first | omega | (have hi := index_lt s; have h1 : List.length ([47] : List UInt8) = 1 := rfl; omega))), (show InR .i64 ((Go.Lib.indexByte s 47) + (List.length ([47] : List UInt8) : Int)) from (inR64 (by first | omega | (have hi := index_lt s; have h1 : List.length ([47] : List UInt8) = 1 := rfl; omega)) (by first | omega | (have hi := index_lt s; have h1 : List.length ([47] : List UInt8) = 1 := rfl; omega)))), (show 0 ≤ (Go.Lib.indexByte s 47) + (List.length ([47] : List UInt8) : Int) from (by first | omega | (have hi := index_lt s; have h1 : List.length ([47] : List UInt8) = 1 := rfl; omega))), (show (Go.Lib.indexByte s 47) + (List.length ([47] : List UInt8) : Int) ≤ List.length s from (by first | omega | (have hi := index_lt s; have h1 : List.length ([47] : List UInt8) = 1 := rfl; omega)))⟩
    refine AMx.ret ?_
    exact RetP.mk (r := AV.tup [tc (st (List.take (Go.Lib.indexByte s 47).toNat s)), tc (st (List.drop ((Go.Lib.indexByte s 47) + (List.length ([47] : List UInt8) : Int)).toNat s)), tc (bo true)]) (by kernel_rfl) (by rw [show cutS s = (List.take (Go.Lib.indexByte s 47).toNat s, List.drop ((Go.Lib.indexByte s 47) + (List.length ([47] : List UInt8) : Int)).toNat s, true) from by unfold cutS; first | rw [if_pos (by assumption)] | rw [if_neg (by assumption)]])
  · try simp only [decide_eq_true_eq, decide_eq_false_iff_not] at hc1
    refine AMx.skip ?_
    refine AMx.seq ?_
    refine AMx.region (ces := []) (ks := [4, 5, 6]) (hs := []) (cs := []) (s' := AS.lst 23 [(4, vc (st s)), (5, vc (st [])), (6, vc (bo false))] []) (by kernel_rfl) ?_ ?_
    · exact trivial
    refine AMx.ret ?_
    exact RetP.mk (r := AV.tup [tc (st s), tc (st []), tc (bo false)]) (by kernel_rfl) (by rw [show cutS s = (s, [], false) from by unfold cutS; first | rw [if_pos (by assumption)] | rw [if_neg (by assumption)]])

theorem f29_body : Try.f29.body = some (.seq (.region 0 (rg Try.f29 0) false) (.seq (.region 1 (rg Try.f29 1) false) (.ret))) := by kernel_rfl

set_option maxRecDepth 100000 in
set_option maxHeartbeats 8000000 in
theorem Cut_c (s : Bytes) : Pure Try.prog 29 [tc (st s), tc (st [47])] (AV.tup [tc (st ((cutS s).1)), tc (st ((cutS s).2.1)), tc (bo ((cutS s).2.2))]) := by
  refine Pure.of_body Try.func29 f29_body (by kernel_rfl) Try.ntmps29 (by kernel_rfl) (by kernel_rfl) ?_
  refine AMx.str 0 (b := s) rfl (fun hl => ?_)
  simp only [maxLen] at hl
  refine AMx.seq ?_
  refine AMx.region (ces := []) (ks := [0, 1]) (hs := []) (cs := []) (s' := AS.lst 13 [(0, vc (st s)), (1, vc (st [47]))] []) (by kernel_rfl) ?_ ?_
  · exact trivial
  refine AMx.seq ?_
  refine AMx.region (ces := [(2, CE.call [] [] (AV.tup [tc (st ((cutS s).1)), tc (st ((cutS s).2.1)), tc (bo ((cutS s).2.2))]) [])]) (ks := [4, 5, 6]) (hs := []) (cs := [Spec Try.prog 38 [tc (st s), tc (st [47])] (ofH []) (AV.tup [tc (st ((cutS s).1)), tc (st ((cutS s).2.1)), tc (bo ((cutS s).2.2))]) (ofH [])]) (s' := AS.lst 13 [(4, vc (st ((cutS s).1))), (5, vc (st ((cutS s).2.1))), (6, vc (bo ((cutS s).2.2)))] []) (by kernel_rfl) ?_ ?_
  · exact (LCut_c s)
  refine AMx.ret ?_
  exact RetP.mk (r := AV.tup [tc (st ((cutS s).1)), tc (st ((cutS s).2.1)), tc (bo ((cutS s).2.2))]) (by kernel_rfl) rfl

theorem f28_body : Try.f28.body = some (.seq (.region 0 (rg Try.f28 0) false) (.seq (.seq (.region 1 (rg Try.f28 1) false) (.cond (.tmp 9) (.seq (.region 2 (rg Try.f28 2) false) (.ret)) (.skip))) (.seq (.region 3 (rg Try.f28 3) false) (.seq (.seq (.region 4 (rg Try.f28 4) false) (.cond (.tmp 20) (.seq (.region 5 (rg Try.f28 5) false) (.ret)) (.skip))) (.seq (.region 6 (rg Try.f28 6) false) (.ret)))))) := by kernel_rfl

set_option maxRecDepth 100000 in
set_option maxHeartbeats 8000000 in
theorem rest_c (s top : Bytes) : Pure Try.prog 28 [tc (st s), tc (st top)] (AV.tup [tc (st ((restS s top).1)), tc (bo ((restS s top).2))]) := by
  refine Pure.of_body Try.func28 f28_body (by kernel_rfl) Try.ntmps28 (by kernel_rfl) (by kernel_rfl) ?_
  refine AMx.seq ?_
  refine AMx.region (ces := []) (ks := [0, 1]) (hs := []) (cs := []) (s' := AS.lst 25 [(0, vc (st s)), (1, vc (st top))] []) (by kernel_rfl) ?_ ?_
  · exact trivial
  refine AMx.seq ?_
  refine AMx.seq ?_
  refine AMx.region (ces := []) (ks := [0, 1, 9]) (hs := []) (cs := []) (s' := AS.lst 25 [(0, vc (st s)), (1, vc (st top)), (9, vc (bo (decide (top = []))))] []) (by kernel_rfl) ?_ ?_
  · exact trivial
  refine AMx.cond (b := decide (top = [])) (by kernel_rfl) (fun hc1 => ?_) (fun hc1 => ?_)
  · try simp only [decide_eq_true_eq, decide_eq_false_iff_not] at hc1
    refine AMx.seq ?_
    refine AMx.region (ces := []) (ks := [4, 5]) (hs := []) (cs := []) (s' := AS.lst 25 [(4, vc (st s)), (5, vc (bo (!decide (s = []))))] []) (by kernel_rfl) ?_ ?_
    · exact trivial
    refine AMx.ret ?_
    exact RetP.mk (r := AV.tup [tc (st s), tc (bo (!decide (s = [])))]) (by kernel_rfl) (by rw [show restS s top = (s, !decide (s = [])) from by unfold restS; simp [*]])
  · try simp only [decide_eq_true_eq, decide_eq_false_iff_not] at hc1
    refine AMx.skip ?_
    refine AMx.seq ?_
    refine AMx.region (ces := [(2, CE.call [] [] (AV.tup [tc (st (trimP s top)), tc (bo (hasP s top))]) [])]) (ks := [6, 7]) (hs := []) (cs := [Spec Try.prog 37 [tc (st s), tc (st top)] (ofH []) (AV.tup [tc (st (trimP s top)), tc (bo (hasP s top))]) (ofH [])]) (s' := AS.lst 25 [(6, vc (st (trimP s top))), (7, vc (bo (hasP s top)))] []) (by kernel_rfl) ?_ ?_
    · exact (CutPrefix_c s top)
    refine AMx.seq ?_
    refine AMx.seq ?_
    refine AMx.region (ces := []) (ks := [6, 20]) (hs := []) (cs := []) (s' := AS.lst 25 [(6, vc (st (trimP s top))), (20, vc (bo (!(hasP s top))))] []) (by kernel_rfl) ?_ ?_
    · exact trivial
    refine AMx.cond (b := !(hasP s top)) (by kernel_rfl) (fun hc2 => ?_) (fun hc2 => ?_)
    · try simp only [decide_eq_true_eq, decide_eq_false_iff_not, Bool.not_eq_true', Bool.not_eq_false'] at hc2
      refine AMx.seq ?_
      refine AMx.region (ces := []) (ks := [4, 5]) (hs := []) (cs := []) (s' := AS.lst 25 [(4, vc (st [])), (5, vc (bo false))] []) (by kernel_rfl) ?_ ?_
      · exact trivial
      refine AMx.ret ?_
      exact RetP.mk (r := AV.tup [tc (st []), tc (bo false)]) (by kernel_rfl) (by rw [show restS s top = ([], false) from by unfold restS; simp [*]])
    · try simp only [decide_eq_true_eq, decide_eq_false_iff_not, Bool.not_eq_true', Bool.not_eq_false'] at hc2
      refine AMx.skip ?_
      refine AMx.seq ?_
      refine AMx.region (ces := [(1, CE.call [] [] (AV.tup [tc (st (trimP (trimP s top) [47])), tc (bo (hasP (trimP s top) [47]))]) [])]) (ks := [4, 5]) (hs := []) (cs := [Spec Try.prog 37 [tc (st (trimP s top)), tc (st [47])] (ofH []) (AV.tup [tc (st (trimP (trimP s top) [47])), tc (bo (hasP (trimP s top) [47]))]) (ofH [])]) (s' := AS.lst 25 [(4, vc (st (trimP (trimP s top) [47]))), (5, vc (bo (hasP (trimP s top) [47])))] []) (by kernel_rfl) ?_ ?_
      · exact (CutPrefix_c (trimP s top) [47])
      refine AMx.ret ?_
      exact RetP.mk (r := AV.tup [tc (st (trimP (trimP s top) [47])), tc (bo (hasP (trimP s top) [47]))]) (by kernel_rfl) (by rw [show restS s top = (trimP (trimP s top) [47], hasP (trimP s top) [47]) from by unfold restS; simp [*]])

theorem f9_body : Try.f9.body = some (.seq (.region 0 (rg Try.f9 0) false) (.seq (.region 1 (rg Try.f9 1) false) (.seq (.seq (.region 2 (rg Try.f9 2) false) (.cond (.tmp 18) (.seq (.region 3 (rg Try.f9 3) false) (.ret)) (.skip))) (.seq (.seq (.region 4 (rg Try.f9 4) false) (.seq (.region 5 (rg Try.f9 5) false) (.cond (.tmp 25) (.seq (.region 6 (rg Try.f9 6) false) (.ret)) (.skip)))) (.seq (.region 7 (rg Try.f9 7) false) (.ret)))))) := by kernel_rfl

set_option maxRecDepth 100000 in
set_option maxHeartbeats 8000000 in
theorem Child_c (s top : Bytes) (hb : s.length ≤ 100000) : Pure Try.prog 9 [tc (st s), tc (st top)] (AV.tup [tc (st ((childS s top).1)), tc (bo ((childS s top).2))]) := by
  refine Pure.of_body Try.func9 f9_body (by kernel_rfl) Try.ntmps9 (by kernel_rfl) (by kernel_rfl) ?_
  refine AMx.seq ?_
  refine AMx.region (ces := []) (ks := [0, 1]) (hs := []) (cs := []) (s' := AS.lst 29 [(0, vc (st s)), (1, vc (st top))] []) (by kernel_rfl) ?_ ?_
  · exact trivial
  refine AMx.seq ?_
  refine AMx.region (ces := [(2, CE.call [] [] (AV.tup [tc (st ((restS s top).1)), tc (bo ((restS s top).2))]) [])]) (ks := [6, 7]) (hs := []) (cs := [Spec Try.prog 28 [tc (st s), tc (st top)] (ofH []) (AV.tup [tc (st ((restS s top).1)), tc (bo ((restS s top).2))]) (ofH [])]) (s' := AS.lst 29 [(6, vc (st ((restS s top).1))), (7, vc (bo ((restS s top).2)))] []) (by kernel_rfl) ?_ ?_
  · exact (rest_c s top)
  refine AMx.seq ?_
  refine AMx.seq ?_
  refine AMx.region (ces := []) (ks := [6, 18]) (hs := []) (cs := []) (s' := AS.lst 29 [(6, vc (st ((restS s top).1))), (18, vc (bo (!((restS s top).2))))] []) (by kernel_rfl) ?_ ?_
  · exact trivial
  refine AMx.cond (b := !((restS s top).2)) (by kernel_rfl) (fun hc1 => ?_) (fun hc1 => ?_)
  · try simp only [decide_eq_true_eq, decide_eq_false_iff_not, Bool.not_eq_true', Bool.not_eq_false'] at hc1
    refine AMx.seq ?_
    refine AMx.region (ces := []) (ks := [4, 5]) (hs := []) (cs := []) (s' := AS.lst 29 [(4, vc (st [])), (5, vc (bo false))] []) (by kernel_rfl) ?_ ?_
    · exact trivial
    refine AMx.ret ?_
    exact RetP.mk (r := AV.tup [tc (st []), tc (bo false)]) (by kernel_rfl) (by rw [show childS s top = ([], false) from by first | exact child_none hc1 | exact child_cut_t hc1 hc2 | exact child_cut_f hc1 hc2])
  · try simp only [decide_eq_true_eq, decide_eq_false_iff_not, Bool.not_eq_true', Bool.not_eq_false'] at hc1
    refine AMx.skip ?_
    refine AMx.seq ?_
    refine AMx.seq ?_
    refine AMx.region (ces := [(1, CE.call [] [] (AV.tup [tc (st ((cutS ((restS s top).1)).1)), tc (st ((cutS ((restS s top).1)).2.1)), tc (bo ((cutS ((restS s top).1)).2.2))]) [])]) (ks := [6, 8, 10]) (hs := []) (cs := [Spec Try.prog 29 [tc (st ((restS s top).1)), tc (st [47])] (ofH []) (AV.tup [tc (st ((cutS ((restS s top).1)).1)), tc (st ((cutS ((restS s top).1)).2.1)), tc (bo ((cutS ((restS s top).1)).2.2))]) (ofH [])]) (s' := AS.lst 29 [(6, vc (st ((restS s top).1))), (8, vc (st ((cutS ((restS s top).1)).1))), (10, vc (bo ((cutS ((restS s top).1)).2.2)))] []) (by kernel_rfl) ?_ ?_
    · exact (Cut_c ((restS s top).1))
    refine AMx.seq ?_
    refine AMx.region (ces := []) (ks := [6, 8, 25]) (hs := []) (cs := []) (s' := AS.lst 29 [(6, vc (st ((restS s top).1))), (8, vc (st ((cutS ((restS s top).1)).1))), (25, vc (bo ((cutS ((restS s top).1)).2.2)))] []) (by kernel_rfl) ?_ ?_
    · exact trivial
    refine AMx.cond (b := (cutS ((restS s top).1)).2.2) (by kernel_rfl) (fun hc2 => ?_) (fun hc2 => ?_)
    · try simp only [decide_eq_true_eq, decide_eq_false_iff_not] at hc2
      refine AMx.seq ?_
      refine AMx.region (ces := []) (ks := [4, 5]) (hs := []) (cs := [List.length ((cutS ((restS s top).1)).1 : List UInt8) + List.length ([47] : List UInt8) ≤ maxLen]) (s' := AS.lst 29 [(4, vc (st (((cutS ((restS s top).1)).1) ++ [47]))), (5, vc (bo true))] []) (by kernel_rfl) ?_ ?_
      · exact (show List.length ((cutS ((restS s top).1)).1 : List UInt8) + List.length ([47] : List UInt8) ≤ maxLen from (by simp only [List.length_append, List.length_cons, List.length_nil, maxLen]; first | omega | (first | omega | decide | (have h3 := rest_len s top; have h4 := cut_len (restS s top).1; omega))))
      refine AMx.ret ?_
      exact RetP.mk (r := AV.tup [tc (st (((cutS ((restS s top).1)).1) ++ [47])), tc (bo true)]) (by kernel_rfl) (by rw [show childS s top = (((cutS ((restS s top).1)).1) ++ [47], true) from by first | exact child_none hc1 | exact child_cut_t hc1 hc2 | exact child_cut_f hc1 hc2])
    · try simp only [decide_eq_true_eq, decide_eq_false_iff_not] at hc2
      refine AMx.skip ?_
      refine AMx.seq ?_
      refine AMx.region (ces := []) (ks := [4, 5]) (hs := []) (cs := []) (s' := AS.lst 29 [(4, vc (st ((restS s top).1))), (5, vc (bo true))] []) (by kernel_rfl) ?_ ?_
      · exact trivial
      refine AMx.ret ?_
      exact RetP.mk (r := AV.tup [tc (st ((restS s top).1)), tc (bo true)]) (by kernel_rfl) (by rw [show childS s top = ((restS s top).1, true) from by first | exact child_none hc1 | exact child_cut_t hc1 hc2 | exact child_cut_f hc1 hc2])

theorem f13_body : Try.f13.body = some (.seq (.region 0 (rg Try.f13 0) false) (.seq (.region 1 (rg Try.f13 1) false) (.seq (.region 2 (rg Try.f13 2) false) (.ret)))) := by kernel_rfl

set_option maxRecDepth 100000 in
set_option maxHeartbeats 8000000 in
theorem Below_c (s top : Bytes) : Pure Try.prog 13 [tc (st s), tc (st top)] (vc (bo (belowS s top))) := by
  refine Pure.of_body Try.func13 f13_body (by kernel_rfl) Try.ntmps13 (by kernel_rfl) (by kernel_rfl) ?_
  refine AMx.seq ?_
  refine AMx.region (ces := []) (ks := [0, 1]) (hs := []) (cs := []) (s' := AS.lst 14 [(0, vc (st s)), (1, vc (st top))] []) (by kernel_rfl) ?_ ?_
  · exact trivial
  refine AMx.seq ?_
  refine AMx.region (ces := [(2, CE.call [] [] (AV.tup [tc (st ((restS s top).1)), tc (bo ((restS s top).2))]) [])]) (ks := [6]) (hs := []) (cs := [Spec Try.prog 28 [tc (st s), tc (st top)] (ofH []) (AV.tup [tc (st ((restS s top).1)), tc (bo ((restS s top).2))]) (ofH [])]) (s' := AS.lst 14 [(6, vc (bo ((restS s top).2)))] []) (by kernel_rfl) ?_ ?_
  · exact (rest_c s top)
  refine AMx.seq ?_
  refine AMx.region (ces := []) (ks := [4]) (hs := []) (cs := []) (s' := AS.lst 14 [(4, vc (bo ((restS s top).2)))] []) (by kernel_rfl) ?_ ?_
  · exact trivial
  refine AMx.ret ?_
  exact RetP.mk (r := vc (bo ((restS s top).2))) (by kernel_rfl) rfl

theorem f11_body : Try.f11.body = some (.seq (.region 0 (rg Try.f11 0) false) (.seq (.region 1 (rg Try.f11 1) false) (.ret))) := by kernel_rfl

set_option maxRecDepth 100000 in
set_option maxHeartbeats 8000000 in
theorem Within_c (s top : Bytes) : Pure Try.prog 11 [tc (st s), tc (st top)] (vc (bo (withinS s top))) := by
  refine Pure.of_body Try.func11 f11_body (by kernel_rfl) Try.ntmps11 (by kernel_rfl) (by kernel_rfl) ?_
  refine AMx.seq ?_
  refine AMx.region (ces := []) (ks := [0, 1]) (hs := []) (cs := []) (s' := AS.lst 13 [(0, vc (st s)), (1, vc (st top))] []) (by kernel_rfl) ?_ ?_
  · exact trivial
  refine AMx.seq ?_
  refine AMx.region (ces := [(6, CE.call [] [] (vc (bo (belowS s top))) [])]) (ks := [4]) (hs := []) (cs := [((decide (s = top)) = false) → allP [], ((decide (s = top)) = false) → allP [], ((decide (s = top)) = false) → allP [(decide (s = top)) = false, (decide (s = top)) = false, Spec Try.prog 13 [tc (st s), tc (st top)] (ofH []) (vc (bo (belowS s top))) (ofH [])], (decide (s = top)) = false → allP [(decide (s = top)) = false]]) (s' := AS.lst 13 [(4, vc (bo ((decide (s = top)) || (belowS s top))))] []) (by kernel_rfl) ?_ ?_
  · exact ⟨(fun _ => trivial), (fun _ => trivial), (fun hp => by have hq := hp; (try simp only [decide_eq_true_eq, decide_eq_false_iff_not, Bool.and_eq_true, Bool.or_eq_true, Bool.and_eq_false_iff, Bool.or_eq_false_iff, Bool.not_eq_true', Bool.not_eq_false', Bool.not_eq_true, Bool.not_eq_false] at hq); exact ⟨hp, hp, (Below_c s top)⟩), (fun hp2 => (by first | exact hp2 | exact ⟨hp, hp2⟩))⟩
  refine AMx.ret ?_
  exact RetP.mk (r := vc (bo ((decide (s = top)) || (belowS s top)))) (by kernel_rfl) rfl

theorem f15_body : Try.f15.body = some (.seq (.region 0 (rg Try.f15 0) false) (.seq (.seq (.region 1 (rg Try.f15 1) false) (.block 0 (.loop (.seq (.seq (.region 2 (rg Try.f15 2) false) (.cond (.tmp 8) (.skip) (.exit 0))) (.seq (.block 1 (.seq (.region 4 (rg Try.f15 4) false) (.cond (.tmp 14) (.seq (.region 5 (rg Try.f15 5) false) (.ret)) (.skip)))) (.region 3 (rg Try.f15 3) false)))))) (.seq (.region 6 (rg Try.f15 6) false) (.ret)))) := by kernel_rfl

set_option maxRecDepth 100000 in
set_option maxHeartbeats 8000000 in
theorem Parent_c (s : Bytes) : Pure Try.prog 15 [tc (st s)] (vc (st (parentS s))) := by
  refine Pure.of_body Try.func15 f15_body (by kernel_rfl) Try.ntmps15 (by kernel_rfl) (by kernel_rfl) ?_
  refine AMx.str 0 (b := s) rfl (fun hl => ?_)
  simp only [maxLen] at hl
  refine AMx.seq ?_
  refine AMx.region (ces := []) (ks := [0]) (hs := []) (cs := []) (s' := AS.lst 18 [(0, vc (st s))] []) (by kernel_rfl) ?_ ?_
  · exact trivial
  refine AMx.seq ?_
  refine AMx.seq ?_
  refine AMx.region (ces := []) (ks := [0, 3]) (hs := []) (cs := [InR .i64 ((List.length s : Int) - 1)]) (s' := AS.lst 18 [(0, vc (st s)), (3, vc (i6 ((List.length s : Int) - 1)))] []) (by kernel_rfl) ?_ ?_
  · exact (show InR .i64 ((List.length s : Int) - 1) from (inR64 (by omega) (by omega)))
  refine AMx.block ?_
  refine AMx.ent (s' := AS.lst 18 [(0, vc (st s)), (3, vc (i6 ((List.length s : Int) - 1)))] []) (ent_proj [0, 3] []) ?_
  refine AMx.loop (fun mm ss => ∃ (k : Nat), (k ≤ s.length ∧ parentS s = parentS (List.take k s)) ∧ mm = 1 + k ∧ ss = AS.lst 18 [(0, vc (st s)), (3, vc (i6 ((k : Int) - 1)))] []) ⟨s.length, ?_, rfl, ?_⟩ ?_
  · exact ⟨Nat.le_refl _, by rw [List.take_length]⟩
  · rfl
  rintro mm ss ⟨k, ⟨hI, hP⟩, rfl, rfl⟩
  refine AMx.seq ?_
  refine AMx.seq ?_
  refine AMx.region (ces := []) (ks := [0, 3, 8]) (hs := []) (cs := []) (s' := AS.lst 18 [(0, vc (st s)), (3, vc (i6 ((k : Int) - 1))), (8, vc (bo (decide (0 ≤ (k : Int) - 1))))] []) (by kernel_rfl) ?_ ?_
  · exact trivial
  refine AMx.cond (b := decide (0 ≤ (k : Int) - 1)) (by kernel_rfl) (fun hc1 => ?_) (fun hc1 => ?_)
  · try simp only [decide_eq_true_eq, decide_eq_false_iff_not] at hc1
    refine AMx.skip ?_
    refine AMx.seq ?_
    refine AMx.block ?_
    refine AMx.seq ?_
    refine AMx.region (ces := []) (ks := [0, 3, 14]) (hs := []) (cs := [(0 : Int) ≤ (k : Int) - 1, (k : Int) - 1 < List.length s]) (s' := AS.lst 18 [(0, vc (st s)), (3, vc (i6 ((k : Int) - 1))), (14, vc (bo (decide (((List.getD s ((k : Int) - 1).toNat 0).toNat : Int) = 47))))] []) (by kernel_rfl) ?_ ?_
    · exact ⟨(show (0 : Int) ≤ (k : Int) - 1 from (by omega)), (show (k : Int) - 1 < List.length s from (by omega))⟩
    refine AMx.cond (b := decide (((List.getD s ((k : Int) - 1).toNat 0).toNat : Int) = 47)) (by kernel_rfl) (fun hc2 => ?_) (fun hc2 => ?_)
    · try simp only [decide_eq_true_eq, decide_eq_false_iff_not] at hc2
      refine AMx.seq ?_
      refine AMx.region (ces := []) (ks := [2]) (hs := []) (cs := [0 ≤ (k : Int) - 1, (k : Int) - 1 ≤ List.length s]) (s' := AS.lst 18 [(2, vc (st (List.take ((k : Int) - 1).toNat s)))] []) (by kernel_rfl) ?_ ?_
      · exact ⟨(show 0 ≤ (k : Int) - 1 from (by omega)), (show (k : Int) - 1 ≤ List.length s from (by omega))⟩
      refine AMx.ret ?_
      exact RetP.mk (r := vc (st (List.take ((k : Int) - 1).toNat s))) (by kernel_rfl) (by rw [hP, show ((k : Int) - 1).toNat = k - 1 by omega]; conv => rhs; rw [show k = k - 1 + 1 by omega]; rw [parent_t s (k - 1) (by omega) (byte47.1 (by rw [show ((k : Int) - 1).toNat = k - 1 by omega] at hc2; exact hc2))]; rfl)
    · try simp only [decide_eq_true_eq, decide_eq_false_iff_not] at hc2
      refine AMx.skip ?_
      refine AMx.blk ?_
      refine AMx.region (ces := []) (ks := [0, 3]) (hs := []) (cs := [InR .i64 (((k : Int) - 1) - 1)]) (s' := AS.lst 18 [(0, vc (st s)), (3, vc (i6 (((k : Int) - 1) - 1)))] []) (by kernel_rfl) ?_ ?_
      · exact (show InR .i64 (((k : Int) - 1) - 1) from (inR64 (by omega) (by omega)))
      refine AMx.ent_inv (s' := AS.lst 18 [(0, vc (st s)), (3, vc (i6 (((k : Int) - 1) - 1)))] []) (ent_proj [0, 3] []) ?_
      refine AMx.inv ⟨_, ?_, k - 1, ?_, rfl, ?_⟩
      rotate_left
      · exact ⟨by omega, by rw [hP, ← parent_f s (k - 1) (by omega) (fun h => hc2 (byte47.2 (by rw [show ((k : Int) - 1).toNat = k - 1 by omega]; exact h))), show k - 1 + 1 = k by omega]⟩
      · rw [show ((k - 1 : Nat) : Int) - 1 = (k : Int) - 1 - 1 by omega] <;> rfl
      · omega
  · try simp only [decide_eq_true_eq, decide_eq_false_iff_not] at hc1
    refine AMx.exit ?_
    refine AMx.code_exit ?_
    refine AMx.inv_exit ?_
    refine AMx.blk_exit ?_
    refine AMx.seq ?_
    refine AMx.region (ces := []) (ks := [2]) (hs := []) (cs := []) (s' := AS.lst 18 [(2, vc (st []))] []) (by kernel_rfl) ?_ ?_
    · exact trivial
    refine AMx.ret ?_
    exact RetP.mk (r := vc (st [])) (by kernel_rfl) (by rw [hP, show k = 0 by omega]; rfl)

theorem f31_body : Try.f31.body = some (.seq (.region 0 (rg Try.f31 0) false) (.seq (.region 1 (rg Try.f31 1) false) (.ret))) := by kernel_rfl

set_option maxRecDepth 100000 in
set_option maxHeartbeats 8000000 in
theorem ends_c (s : Bytes) (n : Nat) (h : n ≤ s.length) : Pure Try.prog 31 [tc (st s), tc (i6 (n : Int))] (vc (bo (endsS s n))) := by
  refine Pure.of_body Try.func31 f31_body (by kernel_rfl) Try.ntmps31 (by kernel_rfl) (by kernel_rfl) ?_
  refine AMx.seq ?_
  refine AMx.region (ces := []) (ks := [0, 1]) (hs := []) (cs := []) (s' := AS.lst 15 [(0, vc (st s)), (1, vc (i6 (n : Int)))] []) (by kernel_rfl) ?_ ?_
  · exact trivial
  refine AMx.seq ?_
  refine AMx.region (ces := []) (ks := [4]) (hs := []) (cs := [((decide ((n : Int) = (List.length s : Int))) = false) → allP [], ((decide ((n : Int) = (List.length s : Int))) = false) → allP [], ((decide ((n : Int) = (List.length s : Int))) = false) → allP [(decide ((n : Int) = (List.length s : Int))) = false, (decide ((n : Int) = (List.length s : Int))) = false, (0 : Int) ≤ (n : Int), (n : Int) < List.length s], ((decide ((n : Int) = (List.length s : Int))) = false) → allP [(decide ((n : Int) = (List.length s : Int))) = false], (decide ((n : Int) = (List.length s : Int))) = false → allP [(decide ((n : Int) = (List.length s : Int))) = false]]) (s' := AS.lst 15 [(4, vc (bo ((decide ((n : Int) = (List.length s : Int))) || (decide (((List.getD s n 0).toNat : Int) = 47)))))] []) (by kernel_rfl) ?_ ?_
  · exact ⟨(fun _ => trivial), (fun _ => trivial), (fun hp => by have hq := hp; (try simp only [decide_eq_true_eq, decide_eq_false_iff_not, Bool.and_eq_true, Bool.or_eq_true, Bool.and_eq_false_iff, Bool.or_eq_false_iff, Bool.not_eq_true', Bool.not_eq_false', Bool.not_eq_true, Bool.not_eq_false] at hq); exact ⟨hp, hp, (show (0 : Int) ≤ (n : Int) from (by omega)), (show (n : Int) < List.length s from (by omega))⟩), (fun hp => hp), (fun hp2 => (by first | exact hp2 | exact ⟨hp, hp2⟩))⟩
  refine AMx.ret ?_
  exact RetP.mk (r := vc (bo ((decide ((n : Int) = (List.length s : Int))) || (decide (((List.getD s n 0).toNat : Int) = 47))))) (by kernel_rfl) rfl

theorem f17_body : Try.f17.body = some (.seq (.region 0 (rg Try.f17 0) false) (.seq (.region 1 (rg Try.f17 1) false) (.seq (.block 0 (.loop (.seq (.seq (.region 2 (rg Try.f17 2) true) (.cond (.tmp 25) (.skip) (.exit 0))) (.block 1 (.region 3 (rg Try.f17 3) false))))) (.seq (.region 4 (rg Try.f17 4) false) (.seq (.block 2 (.loop (.seq (.seq (.region 5 (rg Try.f17 5) false) (.cond (.tmp 29) (.skip) (.exit 2))) (.seq (.block 3 (.seq (.region 7 (rg Try.f17 7) false) (.cond (.tmp 41) (.seq (.region 8 (rg Try.f17 8) false) (.ret)) (.skip)))) (.region 6 (rg Try.f17 6) false))))) (.seq (.region 9 (rg Try.f17 9) false) (.ret))))))) := by kernel_rfl

set_option maxRecDepth 100000 in
set_option maxHeartbeats 8000000 in
theorem Common_c (a b : Bytes) : Pure Try.prog 17 [tc (st a), tc (st b)] (vc (st (commonS a b))) := by
  refine Pure.of_body Try.func17 f17_body (by kernel_rfl) Try.ntmps17 (by kernel_rfl) (by kernel_rfl) ?_
  refine AMx.str 0 (b := a) rfl (fun hla => ?_)
  simp only [maxLen] at hla
  refine AMx.str 1 (b := b) rfl (fun hlb => ?_)
  simp only [maxLen] at hlb
  refine AMx.seq ?_
  refine AMx.region (ces := []) (ks := [0, 1]) (hs := []) (cs := []) (s' := AS.lst 45 [(0, vc (st a)), (1, vc (st b))] []) (by kernel_rfl) ?_ ?_
  · exact trivial
  refine AMx.seq ?_
  refine AMx.region (ces := []) (ks := [0, 1, 5]) (hs := []) (cs := []) (s' := AS.lst 45 [(0, vc (st a)), (1, vc (st b)), (5, vc (i6 0))] []) (by kernel_rfl) ?_ ?_
  · exact trivial
  refine AMx.seq ?_
  refine AMx.block ?_
  refine AMx.ent (s' := AS.lst 45 [(0, vc (st a)), (1, vc (st b)), (5, vc (i6 0))] []) (ent_proj [0, 1, 5] []) ?_
  refine AMx.loop (fun mm ss => ∃ (k : Nat), (k ≤ a.length ∧ k ≤ b.length ∧ List.take k a = List.take k b) ∧ mm = a.length - k ∧ ss = AS.lst 45 [(0, vc (st a)), (1, vc (st b)), (5, vc (i6 (k : Int)))] []) ⟨0, ?_, rfl, ?_⟩ ?_
  · exact ⟨by omega, by omega, rfl⟩
  · rfl
  rintro mm ss ⟨k, ⟨hA, hB, hE⟩, rfl, rfl⟩
  refine AMx.seq ?_
  refine AMx.seq ?_
  refine AMx.region_draw (ces := []) (ros := []) (ks := [0, 1, 5, 25]) (hs := []) (cs := [((decide ((k : Int) < (List.length a : Int))) = true) → allP [], ((decide ((k : Int) < (List.length a : Int))) = true) → allP [], ((decide ((k : Int) < (List.length a : Int))) = true) → allP [(decide ((k : Int) < (List.length a : Int))) = true], ((decide ((k : Int) < (List.length a : Int))) = true) → allP [(decide ((k : Int) < (List.length a : Int))) = true, (decide ((k : Int) < (List.length a : Int))) = true], (decide ((k : Int) < (List.length a : Int))) = true → allP [(decide ((k : Int) < (List.length a : Int))) = true], (((decide ((k : Int) < (List.length a : Int))) && (decide ((k : Int) < (List.length b : Int)))) = true) → allP [], (((decide ((k : Int) < (List.length a : Int))) && (decide ((k : Int) < (List.length b : Int)))) = true) → allP [], (((decide ((k : Int) < (List.length a : Int))) && (decide ((k : Int) < (List.length b : Int)))) = true) → allP [((decide ((k : Int) < (List.length a : Int))) && (decide ((k : Int) < (List.length b : Int)))) = true, ((decide ((k : Int) < (List.length a : Int))) && (decide ((k : Int) < (List.length b : Int)))) = true, (0 : Int) ≤ (k : Int), (k : Int) < List.length a], (((decide ((k : Int) < (List.length a : Int))) && (decide ((k : Int) < (List.length b : Int)))) = true) → allP [], (((decide ((k : Int) < (List.length a : Int))) && (decide ((k : Int) < (List.length b : Int)))) = true) → allP [], (((decide ((k : Int) < (List.length a : Int))) && (decide ((k : Int) < (List.length b : Int)))) = true) → allP [((decide ((k : Int) < (List.length a : Int))) && (decide ((k : Int) < (List.length b : Int)))) = true, ((decide ((k : Int) < (List.length a : Int))) && (decide ((k : Int) < (List.length b : Int)))) = true, (0 : Int) ≤ (k : Int), (k : Int) < List.length b], (((decide ((k : Int) < (List.length a : Int))) && (decide ((k : Int) < (List.length b : Int)))) = true) → allP [((decide ((k : Int) < (List.length a : Int))) && (decide ((k : Int) < (List.length b : Int)))) = true, ((decide ((k : Int) < (List.length a : Int))) && (decide ((k : Int) < (List.length b : Int)))) = true], ((decide ((k : Int) < (List.length a : Int))) && (decide ((k : Int) < (List.length b : Int)))) = true → allP [((decide ((k : Int) < (List.length a : Int))) && (decide ((k : Int) < (List.length b : Int)))) = true]]) (s' := AS.lst 45 [(0, vc (st a)), (1, vc (st b)), (5, vc (i6 (k : Int))), (25, vc (bo (((decide ((k : Int) < (List.length a : Int))) && (decide ((k : Int) < (List.length b : Int)))) && (decide (((List.getD a k 0).toNat : Int) = ((List.getD b k 0).toNat : Int))))))] []) mixed (by kernel_rfl) ?_ ?_
  · exact ⟨(fun _ => trivial), (fun _ => trivial), (fun hp => hp), (fun hp => ⟨hp, hp⟩), (fun hp2 => (by first | exact hp2 | exact ⟨hp, hp2⟩)), (fun _ => trivial), (fun _ => trivial), (fun hp => by have hq := hp; (try simp only [decide_eq_true_eq, decide_eq_false_iff_not, Bool.and_eq_true, Bool.or_eq_true, Bool.and_eq_false_iff, Bool.or_eq_false_iff, Bool.not_eq_true', Bool.not_eq_false', Bool.not_eq_true, Bool.not_eq_false] at hq); exact ⟨hp, hp, (show (0 : Int) ≤ (k : Int) from (by omega)), (show (k : Int) < List.length a from (by omega))⟩), (fun _ => trivial), (fun _ => trivial), (fun hp => by have hq := hp; (try simp only [decide_eq_true_eq, decide_eq_false_iff_not, Bool.and_eq_true, Bool.or_eq_true, Bool.and_eq_false_iff, Bool.or_eq_false_iff, Bool.not_eq_true', Bool.not_eq_false', Bool.not_eq_true, Bool.not_eq_false] at hq); exact ⟨hp, hp, (show (0 : Int) ≤ (k : Int) from (by omega)), (show (k : Int) < List.length b from (by omega))⟩), (fun hp => ⟨hp, hp⟩), (fun hp2 => (by first | exact hp2 | exact ⟨hp, hp2⟩))⟩
  refine AMx.cond (b := (((decide ((k : Int) < (List.length a : Int))) && (decide ((k : Int) < (List.length b : Int)))) && (decide (((List.getD a k 0).toNat : Int) = ((List.getD b k 0).toNat : Int))))) (by kernel_rfl) (fun hc1 => ?_) (fun hc1 => ?_)
  · try simp only [decide_eq_true_eq, decide_eq_false_iff_not, Bool.and_eq_true, Bool.and_eq_false_iff] at hc1
    refine AMx.skip ?_
    refine AMx.block ?_
    refine AMx.region (ces := []) (ks := [0, 1, 5]) (hs := []) (cs := [InR .i64 ((k : Int) + 1)]) (s' := AS.lst 45 [(0, vc (st a)), (1, vc (st b)), (5, vc (i6 ((k : Int) + 1)))] []) (by kernel_rfl) ?_ ?_
    · exact (show InR .i64 ((k : Int) + 1) from (inR64 (by omega) (by omega)))
    refine AMx.blk ?_
    refine AMx.ent_inv (s' := AS.lst 45 [(0, vc (st a)), (1, vc (st b)), (5, vc (i6 ((k : Int) + 1)))] []) (ent_proj [0, 1, 5] []) ?_
    refine AMx.inv ⟨_, ?_, k + 1, ?_, rfl, ?_⟩
    rotate_left
    · exact ⟨by omega, by omega, take_byte (by omega) (by omega) hE hc1.2⟩
    · rfl
    · omega
  · try simp only [decide_eq_true_eq, decide_eq_false_iff_not, Bool.and_eq_true, Bool.and_eq_false_iff] at hc1
    refine AMx.exit ?_
    refine AMx.code_exit ?_
    refine AMx.inv_exit ?_
    refine AMx.blk_exit ?_
    refine AMx.seq ?_
    refine AMx.region (ces := []) (ks := [0, 1, 5, 6]) (hs := []) (cs := []) (s' := AS.lst 45 [(0, vc (st a)), (1, vc (st b)), (5, vc (i6 (k : Int))), (6, AV.t (TV.c (.fn 31 [])))] []) (by kernel_rfl) ?_ ?_
    · exact trivial
    refine AMx.seq ?_
    refine AMx.block ?_
    refine AMx.ent (s' := AS.lst 45 [(0, vc (st a)), (1, vc (st b)), (5, vc (i6 (k : Int))), (6, AV.t (TV.c (.fn 31 [])))] []) (ent_proj [0, 1, 5, 6] []) ?_
    refine AMx.loop (fun mm ss => ∃ (n : Nat), (n ≤ k ∧ commonS a b = comm a b n) ∧ mm = 1 + n ∧ ss = AS.lst 45 [(0, vc (st a)), (1, vc (st b)), (5, vc (i6 (n : Int))), (6, AV.t (TV.c (.fn 31 [])))] []) ⟨k, ?_, rfl, ?_⟩ ?_
    · exact ⟨by omega, comm_start hA hB hE (fun h => by obtain ⟨q1, q2, q3⟩ := h; rcases hc1 with (h1 | h1) | h1 <;> first | omega | exact h1 (by rw [q3]))⟩
    · rfl
    rintro mm ss ⟨n, ⟨hN, hC⟩, rfl, rfl⟩
    refine AMx.seq ?_
    refine AMx.seq ?_
    refine AMx.region (ces := []) (ks := [0, 1, 5, 6, 29]) (hs := []) (cs := []) (s' := AS.lst 45 [(0, vc (st a)), (1, vc (st b)), (5, vc (i6 (n : Int))), (6, AV.t (TV.c (.fn 31 []))), (29, vc (bo (decide (0 < (n : Int)))))] []) (by kernel_rfl) ?_ ?_
    · exact trivial
    refine AMx.cond (b := decide (0 < (n : Int))) (by kernel_rfl) (fun hc2 => ?_) (fun hc2 => ?_)
    · try simp only [decide_eq_true_eq, decide_eq_false_iff_not] at hc2
      refine AMx.skip ?_
      refine AMx.seq ?_
      refine AMx.block ?_
      refine AMx.seq ?_
      refine AMx.region (ces := [(3, CE.call [] [] (vc (bo (endsS a n))) []), (8, CE.call [] [] (vc (bo (endsS b n))) [])]) (ks := [0, 1, 5, 6, 41]) (hs := []) (cs := [Spec Try.prog 31 [tc (st a), tc (i6 (n : Int))] (ofH []) (vc (bo (endsS a n))) (ofH []), ((endsS a n) = true) → allP [], ((endsS a n) = true) → allP [], ((endsS a n) = true) → allP [], ((endsS a n) = true) → allP [(endsS a n) = true, (endsS a n) = true, (endsS a n) = true, Spec Try.prog 31 [tc (st b), tc (i6 (n : Int))] (ofH []) (vc (bo (endsS b n))) (ofH [])], (endsS a n) = true → allP [(endsS a n) = true]]) (s' := AS.lst 45 [(0, vc (st a)), (1, vc (st b)), (5, vc (i6 (n : Int))), (6, AV.t (TV.c (.fn 31 []))), (41, vc (bo ((endsS a n) && (endsS b n))))] []) (by kernel_rfl) ?_ ?_
      · exact ⟨(ends_c a n (by omega)), (fun _ => trivial), (fun _ => trivial), (fun _ => trivial), (fun hp => by have hq := hp; (try simp only [decide_eq_true_eq, decide_eq_false_iff_not, Bool.and_eq_true, Bool.or_eq_true, Bool.and_eq_false_iff, Bool.or_eq_false_iff, Bool.not_eq_true', Bool.not_eq_false', Bool.not_eq_true, Bool.not_eq_false] at hq); exact ⟨hp, hp, hp, (ends_c b n (by omega))⟩), (fun hp2 => (by first | exact hp2 | exact ⟨hp, hp2⟩))⟩
      refine AMx.cond (b := ((endsS a n) && (endsS b n))) (by kernel_rfl) (fun hc3 => ?_) (fun hc3 => ?_)
      · try simp only [decide_eq_true_eq, decide_eq_false_iff_not, Bool.and_eq_true, Bool.and_eq_false_iff] at hc3
        refine AMx.seq ?_
        refine AMx.region (ces := []) (ks := [4]) (hs := []) (cs := [0 ≤ (n : Int), (n : Int) ≤ List.length a]) (s' := AS.lst 45 [(4, vc (st (List.take n a)))] []) (by kernel_rfl) ?_ ?_
        · exact ⟨(show 0 ≤ (n : Int) from (by omega)), (show (n : Int) ≤ List.length a from (by omega))⟩
        refine AMx.ret ?_
        exact RetP.mk (r := vc (st (List.take n a))) (by kernel_rfl) (by rw [hC, comm_hit (by omega) (common_yes hA hB hE hN (by omega) (by rw [hc3.1, hc3.2]; rfl))])
      · try simp only [decide_eq_true_eq, decide_eq_false_iff_not, Bool.and_eq_true, Bool.and_eq_false_iff] at hc3
        refine AMx.skip ?_
        refine AMx.blk ?_
        refine AMx.region (ces := []) (ks := [0, 1, 5, 6]) (hs := []) (cs := [InR .i64 ((n : Int) - 1)]) (s' := AS.lst 45 [(0, vc (st a)), (1, vc (st b)), (5, vc (i6 ((n : Int) - 1))), (6, AV.t (TV.c (.fn 31 [])))] []) (by kernel_rfl) ?_ ?_
        · exact (show InR .i64 ((n : Int) - 1) from (inR64 (by omega) (by omega)))
        refine AMx.ent_inv (s' := AS.lst 45 [(0, vc (st a)), (1, vc (st b)), (5, vc (i6 ((n : Int) - 1))), (6, AV.t (TV.c (.fn 31 [])))] []) (ent_proj [0, 1, 5, 6] []) ?_
        refine AMx.inv ⟨_, ?_, n - 1, ?_, rfl, ?_⟩
        rotate_left
        · exact ⟨by omega, by rw [hC, comm_miss (by omega) (common_no hA hB hE hN (by omega) (by rcases hc3 with h | h <;> rw [h] <;> simp))]⟩
        · rw [show ((n - 1 : Nat) : Int) = (n : Int) - 1 by omega] <;> rfl
        · omega
    · try simp only [decide_eq_true_eq, decide_eq_false_iff_not] at hc2
      refine AMx.exit ?_
      refine AMx.code_exit ?_
      refine AMx.inv_exit ?_
      refine AMx.blk_exit ?_
      refine AMx.seq ?_
      refine AMx.region (ces := []) (ks := [4]) (hs := []) (cs := []) (s' := AS.lst 45 [(4, vc (st []))] []) (by kernel_rfl) ?_ ?_
      · exact trivial
      refine AMx.ret ?_
      exact RetP.mk (r := vc (st [])) (by kernel_rfl) (by rw [hC, show n = 0 by omega]; rfl)

theorem f21_body : Try.f21.body = some (.seq (.region 0 (rg Try.f21 0) false) (.seq (.region 1 (rg Try.f21 1) false) (.seq (.seq (.region 2 (rg Try.f21 2) false) (.block 0 (.loop (.seq (.region 3 (rg Try.f21 3) false) (.seq (.cond (.tmp 13) (.skip) (.exit 0)) (.seq (.block 1 (.seq (.region 4 (rg Try.f21 4) false) (.seq (.region 5 (rg Try.f21 5) false) (.seq (.region 6 (rg Try.f21 6) false) (.cond (.tmp 22) (.region 7 (rg Try.f21 7) false) (.skip)))))) (.region 8 (rg Try.f21 8) false))))))) (.seq (.region 9 (rg Try.f21 9) false) (.seq (.region 10 (rg Try.f21 10) false) (.ret)))))) := by kernel_rfl

set_option maxRecDepth 100000 in
set_option maxHeartbeats 8000000 in
theorem Children_c (top : Bytes) (l : List Bytes) (hl : l.length ≤ 1000) (hb : ∀ x ∈ l, x.length ≤ 100000) : Pure Try.prog 21 [tc (st top), tc (slS l)] (vc (slS (childrenS top l))) := by
  refine Pure.of_body Try.func21 f21_body (by kernel_rfl) Try.ntmps21 (by kernel_rfl) (by kernel_rfl) ?_
  refine AMx.seq ?_
  refine AMx.region (ces := []) (ks := [0, 1]) (hs := []) (cs := []) (s' := AS.lst 32 [(0, vc (st top)), (1, vc (slS l))] []) (by kernel_rfl) ?_ ?_
  · exact trivial
  refine AMx.seq ?_
  refine AMx.region (ces := []) (ks := [0, 1, 5]) (hs := []) (cs := []) (s' := AS.lst 32 [(0, vc (st top)), (1, vc (slS l)), (5, vc (SC.nilsl))] []) (by kernel_rfl) ?_ ?_
  · exact trivial
  refine AMx.seq ?_
  refine AMx.seq ?_
  refine AMx.region (ces := []) (ks := [0, 5, 10, 11, 12]) (hs := []) (cs := []) (s' := AS.lst 32 [(0, vc (st top)), (5, vc (SC.nilsl)), (10, vc (slS l)), (11, vc (i6 (List.length l : Int))), (12, vc (i6 0))] []) (by kernel_rfl) ?_ ?_
  · exact trivial
  refine AMx.block ?_
  refine AMx.ent (s' := AS.lst 32 [(0, vc (st top)), (5, vo 5), (10, vc (slS l)), (11, vc (i6 (List.length l : Int))), (12, vc (i6 0))] [(5, AObj.grow 9 1 Bytes [] rowS [])]) (ent_adopt (t := 5) (d := 5) 9 1 Bytes [] rowS (by kernel_rfl) (by kernel_rfl) (by kernel_rfl) (by kernel_rfl)) ?_
  refine AMx.ent (s' := AS.lst 32 [(0, vc (st top)), (5, vo 5), (10, vc (slS l)), (11, vc (i6 (List.length l : Int))), (12, vc (i6 0))] [(5, AObj.grow 9 1 Bytes [] rowS [])]) (ent_proj [0, 5, 10, 11, 12] [5]) ?_
  refine AMx.loop (fun mm ss => ∃ (k : Nat), (k ≤ l.length) ∧ mm = l.length - k ∧ ss = AS.lst 32 [(0, vc (st top)), (5, vo 5), (10, vc (slS l)), (11, vc (i6 (List.length l : Int))), (12, vc (i6 (k : Int)))] [(5, AObj.grow 9 1 Bytes [] rowS (keptS top (List.take k l)))]) ⟨0, ?_, rfl, ?_⟩ ?_
  · omega
  · rfl
  rintro mm ss ⟨k, hI, rfl, rfl⟩
  refine AMx.seq ?_
  refine AMx.region (ces := []) (ks := [0, 5, 10, 11, 12, 13]) (hs := [5]) (cs := []) (s' := AS.lst 32 [(0, vc (st top)), (5, vo 5), (10, vc (slS l)), (11, vc (i6 (List.length l : Int))), (12, vc (i6 (k : Int))), (13, vc (bo (decide ((k : Int) < (List.length l : Int)))))] [(5, AObj.grow 9 1 Bytes [] rowS (keptS top (List.take k l)))]) (by kernel_rfl) ?_ ?_
  · exact trivial
  refine AMx.seq ?_
  refine AMx.cond (b := decide ((k : Int) < (List.length l : Int))) (by kernel_rfl) (fun hc1 => ?_) (fun hc1 => ?_)
  · try simp only [decide_eq_true_eq, decide_eq_false_iff_not] at hc1
    refine AMx.skip ?_
    refine AMx.seq ?_
    refine AMx.block ?_
    refine AMx.seq ?_
    refine AMx.region (ces := []) (ks := [0, 5, 7, 10, 11, 12]) (hs := [5]) (cs := [(0 : Int) ≤ (k : Int), (k : Int) < List.length l]) (s' := AS.lst 32 [(0, vc (st top)), (5, vo 5), (7, vc (st (List.getD l k []))), (10, vc (slS l)), (11, vc (i6 (List.length l : Int))), (12, vc (i6 (k : Int)))] [(5, AObj.grow 9 1 Bytes [] rowS (keptS top (List.take k l)))]) (by kernel_rfl) ?_ ?_
    · exact ⟨(show (0 : Int) ≤ (k : Int) from (by first | omega | exact getD_len hb _ (by omega) | (rw [risen_len]; have hk := kept_len top (List.take k l); have hk2 : (List.take k l).length ≤ k := (by rw [List.length_take]; omega); omega) | (have hk := kept_len top (List.take k l); have hk2 : (List.take k l).length ≤ k := (by rw [List.length_take]; omega); omega))), (show (k : Int) < List.length l from (by first | omega | exact getD_len hb _ (by omega) | (rw [risen_len]; have hk := kept_len top (List.take k l); have hk2 : (List.take k l).length ≤ k := (by rw [List.length_take]; omega); omega) | (have hk := kept_len top (List.take k l); have hk2 : (List.take k l).length ≤ k := (by rw [List.length_take]; omega); omega)))⟩
    refine AMx.seq ?_
    refine AMx.region (ces := [(2, CE.call [] [] (AV.tup [tc (st ((childS (List.getD l k []) top).1)), tc (bo ((childS (List.getD l k []) top).2))]) [])]) (ks := [0, 5, 8, 9, 10, 11, 12]) (hs := [5]) (cs := [Spec Try.prog 9 [tc (st (List.getD l k [])), tc (st top)] (ofH []) (AV.tup [tc (st ((childS (List.getD l k []) top).1)), tc (bo ((childS (List.getD l k []) top).2))]) (ofH [])]) (s' := AS.lst 32 [(0, vc (st top)), (5, vo 5), (8, vc (st ((childS (List.getD l k []) top).1))), (9, vc (bo ((childS (List.getD l k []) top).2))), (10, vc (slS l)), (11, vc (i6 (List.length l : Int))), (12, vc (i6 (k : Int)))] [(5, AObj.grow 9 1 Bytes [] rowS (keptS top (List.take k l)))]) (by kernel_rfl) ?_ ?_
    · exact (Child_c (List.getD l k []) top (by first | omega | decide | exact getD_len hb _ (by omega) | (simp only [List.length_cons, List.length_nil]; omega)))
    refine AMx.seq ?_
    refine AMx.region (ces := []) (ks := [0, 5, 8, 10, 11, 12, 22]) (hs := [5]) (cs := []) (s' := AS.lst 32 [(0, vc (st top)), (5, vo 5), (8, vc (st ((childS (List.getD l k []) top).1))), (10, vc (slS l)), (11, vc (i6 (List.length l : Int))), (12, vc (i6 (k : Int))), (22, vc (bo ((childS (List.getD l k []) top).2)))] [(5, AObj.grow 9 1 Bytes [] rowS (keptS top (List.take k l)))]) (by kernel_rfl) ?_ ?_
    · exact trivial
    refine AMx.cond (b := (childS (List.getD l k []) top).2) (by kernel_rfl) (fun hc2 => ?_) (fun hc2 => ?_)
    · try simp only [decide_eq_true_eq, decide_eq_false_iff_not] at hc2
      refine AMx.region (ces := [(2, CE.obj (AObj.grow 9 1 Bytes [] rowS [(childS (List.getD l k []) top).1])), (3, CE.obj (AObj.grow 9 1 Bytes [] rowS ((keptS top (List.take k l)) ++ [(childS (List.getD l k []) top).1])))]) (ks := [0, 5, 10, 11, 12]) (hs := [26]) (cs := [flat 1 rowS [(childS (List.getD l k []) top).1] = [.s (st ((childS (List.getD l k []) top).1))], List.length ([(childS (List.getD l k []) top).1] : List Bytes) = 1, AppC (flat 1 rowS [(childS (List.getD l k []) top).1]) (List.length ([(childS (List.getD l k []) top).1] : List Bytes)) 16 (AObj.grow 9 1 Bytes [] rowS (keptS top (List.take k l))) (AObj.grow 9 1 Bytes [] rowS ((keptS top (List.take k l)) ++ [(childS (List.getD l k []) top).1]))]) (s' := AS.lst 32 [(0, vc (st top)), (5, vo 26), (10, vc (slS l)), (11, vc (i6 (List.length l : Int))), (12, vc (i6 (k : Int)))] [(26, AObj.grow 9 1 Bytes [] rowS ((keptS top (List.take k l)) ++ [(childS (List.getD l k []) top).1]))]) (by kernel_rfl) ?_ ?_
      · exact ⟨rfl, rfl, (⟨_, rfl, rfl, rfl, by have hk := kept_len top (List.take k l); have hk2 : (List.take k l).length ≤ k := (by rw [List.length_take]; omega); simp only [List.length_append, List.length_cons, List.length_nil]; omega, by have hk := kept_len top (List.take k l); have hk2 : (List.take k l).length ≤ k := (by rw [List.length_take]; omega); simp only [List.length_append, List.length_cons, List.length_nil, maxLen]; omega⟩)⟩
      refine AMx.blk ?_
      refine AMx.region (ces := []) (ks := [0, 5, 10, 11, 12]) (hs := [26]) (cs := [InR .i64 ((k : Int) + 1)]) (s' := AS.lst 32 [(0, vc (st top)), (5, vo 26), (10, vc (slS l)), (11, vc (i6 (List.length l : Int))), (12, vc (i6 ((k : Int) + 1)))] [(26, AObj.grow 9 1 Bytes [] rowS ((keptS top (List.take k l)) ++ [(childS (List.getD l k []) top).1]))]) (by kernel_rfl) ?_ ?_
      · exact (show InR .i64 ((k : Int) + 1) from (inR64 (by first | omega | exact getD_len hb _ (by omega) | (rw [risen_len]; have hk := kept_len top (List.take k l); have hk2 : (List.take k l).length ≤ k := (by rw [List.length_take]; omega); omega) | (have hk := kept_len top (List.take k l); have hk2 : (List.take k l).length ≤ k := (by rw [List.length_take]; omega); omega)) (by first | omega | exact getD_len hb _ (by omega) | (rw [risen_len]; have hk := kept_len top (List.take k l); have hk2 : (List.take k l).length ≤ k := (by rw [List.length_take]; omega); omega) | (have hk := kept_len top (List.take k l); have hk2 : (List.take k l).length ≤ k := (by rw [List.length_take]; omega); omega))))
      refine AMx.ent_inv (s' := AS.lst 32 [(0, vc (st top)), (5, vo 5), (10, vc (slS l)), (11, vc (i6 (List.length l : Int))), (12, vc (i6 ((k : Int) + 1)))] [(5, AObj.grow 9 1 Bytes [] rowS ((keptS top (List.take k l)) ++ [(childS (List.getD l k []) top).1]))]) (ent_swap 26 5 (by kernel_rfl) (by kernel_rfl)) ?_
      refine AMx.ent_inv (s' := AS.lst 32 [(0, vc (st top)), (5, vo 5), (10, vc (slS l)), (11, vc (i6 (List.length l : Int))), (12, vc (i6 ((k : Int) + 1)))] [(5, AObj.grow 9 1 Bytes [] rowS ((keptS top (List.take k l)) ++ [(childS (List.getD l k []) top).1]))]) (ent_proj [0, 5, 10, 11, 12] [5]) ?_
      refine AMx.inv ⟨_, ?_, k + 1, ?_, rfl, ?_⟩
      rotate_left
      · omega
      · rw [← kept_t top l k (by omega) (by assumption)]; rfl
      · omega
    · try simp only [decide_eq_true_eq, decide_eq_false_iff_not] at hc2
      refine AMx.skip ?_
      refine AMx.blk ?_
      refine AMx.region (ces := []) (ks := [0, 5, 10, 11, 12]) (hs := [5]) (cs := [InR .i64 ((k : Int) + 1)]) (s' := AS.lst 32 [(0, vc (st top)), (5, vo 5), (10, vc (slS l)), (11, vc (i6 (List.length l : Int))), (12, vc (i6 ((k : Int) + 1)))] [(5, AObj.grow 9 1 Bytes [] rowS (keptS top (List.take k l)))]) (by kernel_rfl) ?_ ?_
      · exact (show InR .i64 ((k : Int) + 1) from (inR64 (by first | omega | exact getD_len hb _ (by omega) | (rw [risen_len]; have hk := kept_len top (List.take k l); have hk2 : (List.take k l).length ≤ k := (by rw [List.length_take]; omega); omega) | (have hk := kept_len top (List.take k l); have hk2 : (List.take k l).length ≤ k := (by rw [List.length_take]; omega); omega)) (by first | omega | exact getD_len hb _ (by omega) | (rw [risen_len]; have hk := kept_len top (List.take k l); have hk2 : (List.take k l).length ≤ k := (by rw [List.length_take]; omega); omega) | (have hk := kept_len top (List.take k l); have hk2 : (List.take k l).length ≤ k := (by rw [List.length_take]; omega); omega))))
      refine AMx.ent_inv (s' := AS.lst 32 [(0, vc (st top)), (5, vo 5), (10, vc (slS l)), (11, vc (i6 (List.length l : Int))), (12, vc (i6 ((k : Int) + 1)))] [(5, AObj.grow 9 1 Bytes [] rowS (keptS top (List.take k l)))]) (ent_proj [0, 5, 10, 11, 12] [5]) ?_
      refine AMx.inv ⟨_, ?_, k + 1, ?_, rfl, ?_⟩
      rotate_left
      · omega
      · rw [← kept_f top l k (by omega) (by assumption)]; rfl
      · omega
  · try simp only [decide_eq_true_eq, decide_eq_false_iff_not] at hc1
    refine AMx.exit ?_
    refine AMx.code_exit ?_
    refine AMx.inv_exit ?_
    refine AMx.blk_exit ?_
    refine AMx.seq ?_
    refine AMx.region (ces := [(1, CE.call [] [5] (AV.tup []) [(5, AObj.grow 9 1 Bytes [] rowS (risen (keptS top (List.take k l))))])]) (ks := [5]) (hs := [5]) (cs := [Spec Try.prog 32 [TV.c (.own 5)] (ofH [(5, AObj.grow 9 1 Bytes [] rowS (keptS top (List.take k l)))]) (AV.tup []) (ofH [(5, AObj.grow 9 1 Bytes [] rowS (risen (keptS top (List.take k l))))])]) (s' := AS.lst 32 [(5, vo 5)] [(5, AObj.grow 9 1 Bytes [] rowS (risen (keptS top (List.take k l))))]) (by kernel_rfl) ?_ ?_
    · exact (Sort_c (keptS top (List.take k l)) (by first | omega | exact getD_len hb _ (by omega) | (rw [risen_len]; have hk := kept_len top (List.take k l); have hk2 : (List.take k l).length ≤ k := (by rw [List.length_take]; omega); omega) | (have hk := kept_len top (List.take k l); have hk2 : (List.take k l).length ≤ k := (by rw [List.length_take]; omega); omega)) 5)
    refine AMx.seq ?_
    refine AMx.region (ces := [(1, CE.call [] [5] (vo 31) [(31, AObj.grow 9 1 Bytes [] rowS (Go.Lib.compact (risen (keptS top (List.take k l)))))])]) (ks := [4]) (hs := [31]) (cs := [Spec Try.prog 33 [TV.c (.own 5)] (ofH [(5, AObj.grow 9 1 Bytes [] rowS (risen (keptS top (List.take k l))))]) (vo 31) (ofH [(31, AObj.grow 9 1 Bytes [] rowS (Go.Lib.compact (risen (keptS top (List.take k l)))))])]) (s' := AS.lst 32 [(4, vo 31)] [(31, AObj.grow 9 1 Bytes [] rowS (Go.Lib.compact (risen (keptS top (List.take k l)))))]) (by kernel_rfl) ?_ ?_
    · exact (Compact_c (risen (keptS top (List.take k l))) (by first | omega | exact getD_len hb _ (by omega) | (rw [risen_len]; have hk := kept_len top (List.take k l); have hk2 : (List.take k l).length ≤ k := (by rw [List.length_take]; omega); omega) | (have hk := kept_len top (List.take k l); have hk2 : (List.take k l).length ≤ k := (by rw [List.length_take]; omega); omega)) 5 31 (by decide))
    refine AMx.ent (s' := AS.lst 32 [(4, vc (slS (Go.Lib.compact (risen (keptS top (List.take k l))))))] []) (ent_freeze (id := 31) (T := 9) (by kernel_rfl)) ?_
    refine AMx.ret ?_
    exact RetP.mk (r := vc (slS (Go.Lib.compact (risen (keptS top (List.take k l)))))) (by kernel_rfl) (by rw [compact_risen, List.take_of_length_le (by omega)]; rfl)

theorem f23_body : Try.f23.body = some (.seq (.region 0 (rg Try.f23 0) false) (.seq (.region 1 (rg Try.f23 1) false) (.seq (.seq (.region 2 (rg Try.f23 2) false) (.block 0 (.loop (.seq (.region 3 (rg Try.f23 3) false) (.seq (.cond (.tmp 12) (.skip) (.exit 0)) (.seq (.block 1 (.seq (.region 4 (rg Try.f23 4) false) (.seq (.region 5 (rg Try.f23 5) false) (.cond (.tmp 24) (.region 6 (rg Try.f23 6) false) (.skip))))) (.region 7 (rg Try.f23 7) false))))))) (.seq (.region 8 (rg Try.f23 8) false) (.ret))))) := by kernel_rfl

set_option maxRecDepth 100000 in
set_option maxHeartbeats 8000000 in
theorem Longest_c (s : Bytes) (l : List Bytes) : Pure Try.prog 23 [tc (st s), tc (slS l)] (vc (i6 (longestS s l))) := by
  refine Pure.of_body Try.func23 f23_body (by kernel_rfl) Try.ntmps23 (by kernel_rfl) (by kernel_rfl) ?_
  refine AMx.sl 1 (l := l) rfl (fun hl => ?_)
  simp only [maxLen] at hl
  refine AMx.seq ?_
  refine AMx.region (ces := []) (ks := [0, 1]) (hs := []) (cs := []) (s' := AS.lst 30 [(0, vc (st s)), (1, vc (slS l))] []) (by kernel_rfl) ?_ ?_
  · exact trivial
  refine AMx.seq ?_
  refine AMx.region (ces := []) (ks := [0, 1, 5, 6]) (hs := []) (cs := []) (s' := AS.lst 30 [(0, vc (st s)), (1, vc (slS l)), (5, vc (i6 (-1))), (6, vc (i6 (-1)))] []) (by kernel_rfl) ?_ ?_
  · exact trivial
  refine AMx.seq ?_
  refine AMx.seq ?_
  refine AMx.region (ces := []) (ks := [0, 5, 6, 9, 10, 11]) (hs := []) (cs := []) (s' := AS.lst 30 [(0, vc (st s)), (5, vc (i6 (-1))), (6, vc (i6 (-1))), (9, vc (slS l)), (10, vc (i6 (List.length l : Int))), (11, vc (i6 0))] []) (by kernel_rfl) ?_ ?_
  · exact trivial
  refine AMx.block ?_
  refine AMx.ent (s' := AS.lst 30 [(0, vc (st s)), (5, vc (i6 (-1))), (6, vc (i6 (-1))), (9, vc (slS l)), (10, vc (i6 (List.length l : Int))), (11, vc (i6 0))] []) (ent_proj [0, 5, 6, 9, 10, 11] []) ?_
  refine AMx.loop (fun mm ss => ∃ (k : Nat), (k ≤ l.length) ∧ mm = l.length - k ∧ ss = AS.lst 30 [(0, vc (st s)), (5, vc (i6 (longS s l k))), (6, vc (i6 (sizeS l (longS s l k)))), (9, vc (slS l)), (10, vc (i6 (List.length l : Int))), (11, vc (i6 (k : Int)))] []) ⟨0, ?_, rfl, ?_⟩ ?_
  · omega
  · rfl
  rintro mm ss ⟨k, hI, rfl, rfl⟩
  refine AMx.seq ?_
  refine AMx.region (ces := []) (ks := [0, 5, 6, 9, 10, 11, 12]) (hs := []) (cs := []) (s' := AS.lst 30 [(0, vc (st s)), (5, vc (i6 (longS s l k))), (6, vc (i6 (sizeS l (longS s l k)))), (9, vc (slS l)), (10, vc (i6 (List.length l : Int))), (11, vc (i6 (k : Int))), (12, vc (bo (decide ((k : Int) < (List.length l : Int)))))] []) (by kernel_rfl) ?_ ?_
  · exact trivial
  refine AMx.seq ?_
  refine AMx.cond (b := decide ((k : Int) < (List.length l : Int))) (by kernel_rfl) (fun hc1 => ?_) (fun hc1 => ?_)
  · try simp only [decide_eq_true_eq, decide_eq_false_iff_not] at hc1
    refine AMx.skip ?_
    refine AMx.seq ?_
    refine AMx.block ?_
    refine AMx.seq ?_
    refine AMx.region (ces := []) (ks := [0, 5, 6, 7, 8, 9, 10, 11]) (hs := []) (cs := [(0 : Int) ≤ (k : Int), (k : Int) < List.length l]) (s' := AS.lst 30 [(0, vc (st s)), (5, vc (i6 (longS s l k))), (6, vc (i6 (sizeS l (longS s l k)))), (7, vc (i6 (k : Int))), (8, vc (st (List.getD l k []))), (9, vc (slS l)), (10, vc (i6 (List.length l : Int))), (11, vc (i6 (k : Int)))] []) (by kernel_rfl) ?_ ?_
    · exact ⟨(show (0 : Int) ≤ (k : Int) from (by omega)), (show (k : Int) < List.length l from (by omega))⟩
    refine AMx.seq ?_
    refine AMx.region (ces := [(7, CE.call [] [] (vc (bo (withinS s (List.getD l k [])))) [])]) (ks := [0, 5, 6, 7, 8, 9, 10, 11, 24]) (hs := []) (cs := [((decide (sizeS l (longS s l k) < (List.length ((List.getD l k []) : List UInt8) : Int))) = true) → allP [], ((decide (sizeS l (longS s l k) < (List.length ((List.getD l k []) : List UInt8) : Int))) = true) → allP [], ((decide (sizeS l (longS s l k) < (List.length ((List.getD l k []) : List UInt8) : Int))) = true) → allP [(decide (sizeS l (longS s l k) < (List.length ((List.getD l k []) : List UInt8) : Int))) = true, (decide (sizeS l (longS s l k) < (List.length ((List.getD l k []) : List UInt8) : Int))) = true, Spec Try.prog 11 [tc (st s), tc (st (List.getD l k []))] (ofH []) (vc (bo (withinS s (List.getD l k [])))) (ofH [])], (decide (sizeS l (longS s l k) < (List.length ((List.getD l k []) : List UInt8) : Int))) = true → allP [(decide (sizeS l (longS s l k) < (List.length ((List.getD l k []) : List UInt8) : Int))) = true]]) (s' := AS.lst 30 [(0, vc (st s)), (5, vc (i6 (longS s l k))), (6, vc (i6 (sizeS l (longS s l k)))), (7, vc (i6 (k : Int))), (8, vc (st (List.getD l k []))), (9, vc (slS l)), (10, vc (i6 (List.length l : Int))), (11, vc (i6 (k : Int))), (24, vc (bo ((decide (sizeS l (longS s l k) < (List.length ((List.getD l k []) : List UInt8) : Int))) && (withinS s (List.getD l k [])))))] []) (by kernel_rfl) ?_ ?_
    · exact ⟨(fun _ => trivial), (fun _ => trivial), (fun hp => by have hq := hp; (try simp only [decide_eq_true_eq, decide_eq_false_iff_not, Bool.and_eq_true, Bool.or_eq_true, Bool.and_eq_false_iff, Bool.or_eq_false_iff, Bool.not_eq_true', Bool.not_eq_false', Bool.not_eq_true, Bool.not_eq_false] at hq); exact ⟨hp, hp, (Within_c s (List.getD l k []))⟩), (fun hp2 => (by first | exact hp2 | exact ⟨hp, hp2⟩))⟩
    refine AMx.cond (b := ((decide (sizeS l (longS s l k) < (List.length ((List.getD l k []) : List UInt8) : Int))) && (withinS s (List.getD l k [])))) (by kernel_rfl) (fun hc2 => ?_) (fun hc2 => ?_)
    · try simp only [decide_eq_true_eq, decide_eq_false_iff_not, Bool.and_eq_true, Bool.and_eq_false_iff] at hc2
      refine AMx.region (ces := []) (ks := [0, 5, 6, 9, 10, 11]) (hs := []) (cs := []) (s' := AS.lst 30 [(0, vc (st s)), (5, vc (i6 (k : Int))), (6, vc (i6 (List.length ((List.getD l k []) : List UInt8) : Int))), (9, vc (slS l)), (10, vc (i6 (List.length l : Int))), (11, vc (i6 (k : Int)))] []) (by kernel_rfl) ?_ ?_
      · exact trivial
      refine AMx.blk ?_
      refine AMx.region (ces := []) (ks := [0, 5, 6, 9, 10, 11]) (hs := []) (cs := [InR .i64 ((k : Int) + 1)]) (s' := AS.lst 30 [(0, vc (st s)), (5, vc (i6 (k : Int))), (6, vc (i6 (List.length ((List.getD l k []) : List UInt8) : Int))), (9, vc (slS l)), (10, vc (i6 (List.length l : Int))), (11, vc (i6 ((k : Int) + 1)))] []) (by kernel_rfl) ?_ ?_
      · exact (show InR .i64 ((k : Int) + 1) from (inR64 (by omega) (by omega)))
      refine AMx.ent_inv (s' := AS.lst 30 [(0, vc (st s)), (5, vc (i6 (k : Int))), (6, vc (i6 (List.length ((List.getD l k []) : List UInt8) : Int))), (9, vc (slS l)), (10, vc (i6 (List.length l : Int))), (11, vc (i6 ((k : Int) + 1)))] []) (ent_proj [0, 5, 6, 9, 10, 11] []) ?_
      refine AMx.inv ⟨_, ?_, k + 1, ?_, rfl, ?_⟩
      rotate_left
      · omega
      · rw [long_t hc2.2 hc2.1, size_k]; rfl
      · omega
    · try simp only [decide_eq_true_eq, decide_eq_false_iff_not, Bool.and_eq_true, Bool.and_eq_false_iff] at hc2
      refine AMx.skip ?_
      refine AMx.blk ?_
      refine AMx.region (ces := []) (ks := [0, 5, 6, 9, 10, 11]) (hs := []) (cs := [InR .i64 ((k : Int) + 1)]) (s' := AS.lst 30 [(0, vc (st s)), (5, vc (i6 (longS s l k))), (6, vc (i6 (sizeS l (longS s l k)))), (9, vc (slS l)), (10, vc (i6 (List.length l : Int))), (11, vc (i6 ((k : Int) + 1)))] []) (by kernel_rfl) ?_ ?_
      · exact (show InR .i64 ((k : Int) + 1) from (inR64 (by omega) (by omega)))
      refine AMx.ent_inv (s' := AS.lst 30 [(0, vc (st s)), (5, vc (i6 (longS s l k))), (6, vc (i6 (sizeS l (longS s l k)))), (9, vc (slS l)), (10, vc (i6 (List.length l : Int))), (11, vc (i6 ((k : Int) + 1)))] []) (ent_proj [0, 5, 6, 9, 10, 11] []) ?_
      refine AMx.inv ⟨_, ?_, k + 1, ?_, rfl, ?_⟩
      rotate_left
      · omega
      · rw [long_f (fun q => by rcases hc2 with h | h; exact h q.1; rw [q.2] at h; cases h)]; rfl
      · omega
  · try simp only [decide_eq_true_eq, decide_eq_false_iff_not] at hc1
    refine AMx.exit ?_
    refine AMx.code_exit ?_
    refine AMx.inv_exit ?_
    refine AMx.blk_exit ?_
    refine AMx.seq ?_
    refine AMx.region (ces := []) (ks := [4]) (hs := []) (cs := []) (s' := AS.lst 30 [(4, vc (i6 (longS s l k)))] []) (by kernel_rfl) ?_ ?_
    · exact trivial
    refine AMx.ret ?_
    exact RetP.mk (r := vc (i6 (longS s l k))) (by kernel_rfl) (by rw [show k = l.length by omega]; rfl)

theorem f36_body : Try.f36.body = some (.seq (.region 0 (rg Try.f36 0) false) (.seq (.region 1 (rg Try.f36 1) false) (.ret))) := by kernel_rfl

set_option maxRecDepth 100000 in
set_option maxHeartbeats 8000000 in
theorem nestC_c (t s : Bytes) : Pure Try.prog 36 [tc (st t), tc (SC.ref 1 (rl [st s]))] (vc (bo (withinS s t || withinS t s))) := by
  refine Pure.of_body Try.func36 f36_body (by kernel_rfl) Try.ntmps36 (by kernel_rfl) (by kernel_rfl) ?_
  refine AMx.seq ?_
  refine AMx.region (ces := []) (ks := [0, 1]) (hs := []) (cs := []) (s' := AS.lst 12 [(0, vc (st t)), (1, vc (SC.ref 1 (rl [st s])))] []) (by kernel_rfl) ?_ ?_
  · exact trivial
  refine AMx.seq ?_
  refine AMx.region (ces := [(2, CE.call [] [] (vc (bo (withinS s t))) []), (6, CE.call [] [] (vc (bo (withinS t s))) [])]) (ks := [3]) (hs := []) (cs := [Spec Try.prog 11 [tc (st s), tc (st t)] (ofH []) (vc (bo (withinS s t))) (ofH []), ((withinS s t) = false) → allP [], ((withinS s t) = false) → allP [], ((withinS s t) = false) → allP [(withinS s t) = false, (withinS s t) = false, Spec Try.prog 11 [tc (st t), tc (st s)] (ofH []) (vc (bo (withinS t s))) (ofH [])], (withinS s t) = false → allP [(withinS s t) = false]]) (s' := AS.lst 12 [(3, vc (bo ((withinS s t) || (withinS t s))))] []) (by kernel_rfl) ?_ ?_
  · exact ⟨(Within_c s t), (fun _ => trivial), (fun _ => trivial), (fun hp => by have hq := hp; (try simp only [decide_eq_true_eq, decide_eq_false_iff_not, Bool.and_eq_true, Bool.or_eq_true, Bool.and_eq_false_iff, Bool.or_eq_false_iff, Bool.not_eq_true', Bool.not_eq_false', Bool.not_eq_true, Bool.not_eq_false] at hq); exact ⟨hp, hp, (Within_c t s)⟩), (fun hp2 => (by first | exact hp2 | exact ⟨hp, hp2⟩))⟩
  refine AMx.ret ?_
  exact RetP.mk (r := vc (bo ((withinS s t) || (withinS t s)))) (by kernel_rfl) rfl

theorem f41_body : Try.f41.body = some (.seq (.region 0 (rg Try.f41 0) false) (.seq (.seq (.region 1 (rg Try.f41 1) false) (.block 0 (.loop (.seq (.region 2 (rg Try.f41 2) false) (.seq (.cond (.tmp 9) (.skip) (.exit 0)) (.seq (.block 1 (.seq (.region 3 (rg Try.f41 3) false) (.seq (.region 4 (rg Try.f41 4) false) (.cond (.tmp 16) (.seq (.region 5 (rg Try.f41 5) false) (.ret)) (.skip))))) (.region 6 (rg Try.f41 6) false))))))) (.seq (.region 7 (rg Try.f41 7) false) (.ret)))) := by kernel_rfl

set_option maxRecDepth 100000 in
set_option maxHeartbeats 8000000 in
theorem Index_c (f : FuncId) (caps : List Cap) (p : Bytes → Bool) (hf : ∀ x : Bytes, Pure Try.prog f ([tc (st x)] ++ List.map capT caps) (vc (bo (p x)))) (l : List Bytes) : Pure Try.prog 41 [tc (slS l), TV.c (.fn f caps)] (vc (i6 (Lib.idxS p l))) := by
  refine Pure.of_body Try.func41 f41_body (by kernel_rfl) Try.ntmps41 (by kernel_rfl) (by kernel_rfl) ?_
  refine AMx.sl 0 (l := l) rfl (fun hl => ?_)
  simp only [maxLen] at hl
  refine AMx.seq ?_
  refine AMx.region (ces := []) (ks := [0, 1]) (hs := []) (cs := []) (s' := AS.lst 19 [(0, vc (slS l)), (1, AV.t (TV.c (.fn f caps)))] []) (by kernel_rfl) ?_ ?_
  · exact trivial
  refine AMx.seq ?_
  refine AMx.seq ?_
  refine AMx.region (ces := []) (ks := [0, 1, 7, 8]) (hs := []) (cs := []) (s' := AS.lst 19 [(0, vc (slS l)), (1, AV.t (TV.c (.fn f caps))), (7, vc (i6 (List.length l : Int))), (8, vc (i6 0))] []) (by kernel_rfl) ?_ ?_
  · exact trivial
  refine AMx.block ?_
  refine AMx.ent (s' := AS.lst 19 [(0, vc (slS l)), (1, AV.t (TV.c (.fn f caps))), (7, vc (i6 (List.length l : Int))), (8, vc (i6 0))] []) (ent_proj [0, 1, 7, 8] []) ?_
  refine AMx.loop (fun mm ss => ∃ (k : Nat), (k ≤ l.length ∧ ∀ x ∈ List.take k l, p x = false) ∧ mm = l.length - k ∧ ss = AS.lst 19 [(0, vc (slS l)), (1, AV.t (TV.c (.fn f caps))), (7, vc (i6 (List.length l : Int))), (8, vc (i6 (k : Int)))] []) ⟨0, ?_, rfl, ?_⟩ ?_
  · exact ⟨by omega, fun x hx => by simp at hx⟩
  · rfl
  rintro mm ss ⟨k, ⟨hI, hN⟩, rfl, rfl⟩
  refine AMx.seq ?_
  refine AMx.region (ces := []) (ks := [0, 1, 7, 8, 9]) (hs := []) (cs := []) (s' := AS.lst 19 [(0, vc (slS l)), (1, AV.t (TV.c (.fn f caps))), (7, vc (i6 (List.length l : Int))), (8, vc (i6 (k : Int))), (9, vc (bo (decide ((k : Int) < (List.length l : Int)))))] []) (by kernel_rfl) ?_ ?_
  · exact trivial
  refine AMx.seq ?_
  refine AMx.cond (b := decide ((k : Int) < (List.length l : Int))) (by kernel_rfl) (fun hc1 => ?_) (fun hc1 => ?_)
  · try simp only [decide_eq_true_eq, decide_eq_false_iff_not] at hc1
    refine AMx.skip ?_
    refine AMx.seq ?_
    refine AMx.block ?_
    refine AMx.seq ?_
    refine AMx.region (ces := []) (ks := [0, 1, 5, 7, 8]) (hs := []) (cs := []) (s' := AS.lst 19 [(0, vc (slS l)), (1, AV.t (TV.c (.fn f caps))), (5, vc (i6 (k : Int))), (7, vc (i6 (List.length l : Int))), (8, vc (i6 (k : Int)))] []) (by kernel_rfl) ?_ ?_
    · exact trivial
    refine AMx.seq ?_
    refine AMx.region (ces := [(5, CE.call [] [] (vc (bo (p (List.getD l k [])))) [])]) (ks := [0, 1, 5, 7, 8, 16]) (hs := []) (cs := [(0 : Int) ≤ (k : Int), (k : Int) < List.length l, Spec Try.prog f ([tc (st (List.getD l k []))] ++ List.map capT caps) (ofH []) (vc (bo (p (List.getD l k [])))) (ofH [])]) (s' := AS.lst 19 [(0, vc (slS l)), (1, AV.t (TV.c (.fn f caps))), (5, vc (i6 (k : Int))), (7, vc (i6 (List.length l : Int))), (8, vc (i6 (k : Int))), (16, vc (bo (p (List.getD l k []))))] []) (by kernel_rfl) ?_ ?_
    · exact ⟨(show (0 : Int) ≤ (k : Int) from (by omega)), (show (k : Int) < List.length l from (by omega)), (hf (List.getD l k []))⟩
    refine AMx.cond (b := p (List.getD l k [])) (by kernel_rfl) (fun hc2 => ?_) (fun hc2 => ?_)
    · try simp only [decide_eq_true_eq, decide_eq_false_iff_not] at hc2
      refine AMx.seq ?_
      refine AMx.region (ces := []) (ks := [4]) (hs := []) (cs := []) (s' := AS.lst 19 [(4, vc (i6 (k : Int)))] []) (by kernel_rfl) ?_ ?_
      · exact trivial
      refine AMx.ret ?_
      exact RetP.mk (r := vc (i6 (k : Int))) (by kernel_rfl) (by rw [Lib.idx_hit [] l k (by omega) hN (by assumption)])
    · try simp only [decide_eq_true_eq, decide_eq_false_iff_not] at hc2
      refine AMx.skip ?_
      refine AMx.blk ?_
      refine AMx.region (ces := []) (ks := [0, 1, 7, 8]) (hs := []) (cs := [InR .i64 ((k : Int) + 1)]) (s' := AS.lst 19 [(0, vc (slS l)), (1, AV.t (TV.c (.fn f caps))), (7, vc (i6 (List.length l : Int))), (8, vc (i6 ((k : Int) + 1)))] []) (by kernel_rfl) ?_ ?_
      · exact (show InR .i64 ((k : Int) + 1) from (inR64 (by omega) (by omega)))
      refine AMx.ent_inv (s' := AS.lst 19 [(0, vc (slS l)), (1, AV.t (TV.c (.fn f caps))), (7, vc (i6 (List.length l : Int))), (8, vc (i6 ((k : Int) + 1)))] []) (ent_proj [0, 1, 7, 8] []) ?_
      refine AMx.inv ⟨_, ?_, k + 1, ?_, rfl, ?_⟩
      rotate_left
      · exact ⟨by omega, Lib.all_step [] l k (by omega) hN (by assumption)⟩
      · rfl
      · omega
  · try simp only [decide_eq_true_eq, decide_eq_false_iff_not] at hc1
    refine AMx.exit ?_
    refine AMx.code_exit ?_
    refine AMx.inv_exit ?_
    refine AMx.blk_exit ?_
    refine AMx.seq ?_
    refine AMx.region (ces := []) (ks := [4]) (hs := []) (cs := []) (s' := AS.lst 19 [(4, vc (i6 (-1)))] []) (by kernel_rfl) ?_ ?_
    · exact trivial
    refine AMx.ret ?_
    exact RetP.mk (r := vc (i6 (-1))) (by kernel_rfl) (by rw [Lib.idx_none (fun x hx => hN x (by rwa [List.take_of_length_le (by omega)]))])

theorem f35_body : Try.f35.body = some (.seq (.region 0 (rg Try.f35 0) false) (.seq (.region 1 (rg Try.f35 1) false) (.ret))) := by kernel_rfl

set_option maxRecDepth 100000 in
set_option maxHeartbeats 8000000 in
theorem Contains_c (f : FuncId) (caps : List Cap) (p : Bytes → Bool) (hf : ∀ x : Bytes, Pure Try.prog f ([tc (st x)] ++ List.map capT caps) (vc (bo (p x)))) (l : List Bytes) : Pure Try.prog 35 [tc (slS l), TV.c (.fn f caps)] (vc (bo (decide (0 ≤ AL.Lib.idxS p l)))) := by
  refine Pure.of_body Try.func35 f35_body (by kernel_rfl) Try.ntmps35 (by kernel_rfl) (by kernel_rfl) ?_
  refine AMx.seq ?_
  refine AMx.region (ces := []) (ks := [0, 1]) (hs := []) (cs := []) (s' := AS.lst 9 [(0, vc (slS l)), (1, AV.t (TV.c (.fn f caps)))] []) (by kernel_rfl) ?_ ?_
  · exact trivial
  refine AMx.seq ?_
  refine AMx.region (ces := [(2, CE.call [] [] (vc (i6 (AL.Lib.idxS p l))) [])]) (ks := [4]) (hs := []) (cs := [Spec Try.prog 41 [tc (slS l), TV.c (.fn f caps)] (ofH []) (vc (i6 (AL.Lib.idxS p l))) (ofH [])]) (s' := AS.lst 9 [(4, vc (bo (decide (0 ≤ AL.Lib.idxS p l))))] []) (by kernel_rfl) ?_ ?_
  · exact (Index_c f caps p hf l)
  refine AMx.ret ?_
  exact RetP.mk (r := vc (bo (decide (0 ≤ AL.Lib.idxS p l)))) (by kernel_rfl) rfl

theorem f25_body : Try.f25.body = some (.seq (.region 0 (rg Try.f25 0) false) (.seq (.region 1 (rg Try.f25 1) false) (.ret))) := by kernel_rfl

set_option maxRecDepth 100000 in
set_option maxHeartbeats 8000000 in
theorem Nested_c (s : Bytes) (l : List Bytes) : Pure Try.prog 25 [tc (st s), tc (slS l)] (vc (bo (nestedS s l))) := by
  refine Pure.of_body Try.func25 f25_body (by kernel_rfl) Try.ntmps25 (by kernel_rfl) (by kernel_rfl) ?_
  refine AMx.seq ?_
  refine AMx.region (ces := [(0, CE.shr none)]) (ks := [1, 2]) (hs := []) (cs := []) (s' := AS.lst 8 [(1, vc (slS l)), (2, vc (SC.ref 1 (rl [st s])))] []) (by kernel_rfl) ?_ ?_
  · exact trivial
  refine AMx.seq ?_
  refine AMx.region (ces := [(2, CE.call [] [] (vc (bo (decide (0 ≤ AL.Lib.idxS (fun x : Bytes => withinS s x || withinS x s) l)))) [])]) (ks := [4]) (hs := []) (cs := [Spec Try.prog 35 [tc (slS l), TV.c (.fn 36 [.s (SC.ref 1 (rl [st s]))])] (ofH []) (vc (bo (decide (0 ≤ AL.Lib.idxS (fun x : Bytes => withinS s x || withinS x s) l)))) (ofH [])]) (s' := AS.lst 8 [(4, vc (bo (decide (0 ≤ AL.Lib.idxS (fun x : Bytes => withinS s x || withinS x s) l))))] []) (by kernel_rfl) ?_ ?_
  · exact (Contains_c 36 [.s (SC.ref 1 (rl [st s]))] (fun x : Bytes => withinS s x || withinS x s) (fun x => nestC_c x s) l)
  refine AMx.ret ?_
  exact RetP.mk (r := vc (bo (decide (0 ≤ AL.Lib.idxS (fun x : Bytes => withinS s x || withinS x s) l)))) (by kernel_rfl) (by rw [← nested_idx])

end AL.Under
