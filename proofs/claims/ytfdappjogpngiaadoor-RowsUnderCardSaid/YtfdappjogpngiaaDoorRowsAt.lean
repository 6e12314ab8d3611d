/- rows: the contracts of its functions, by their walks. No condition. -/
import Derived.Test.YtfdappjogpngiaaDoorRowsAc
namespace AL.Rows
open Go Go.Proofs AL
open AL.Secret (Sec RowV loose rowR)
open AL.Under (hasP trimP)
set_option linter.unusedVariables false
set_option linter.unusedSimpArgs false

theorem f8_body : Tryd.f8.body = some (.seq (.region 0 (rg Tryd.f8 0) false) (.seq (.seq (.region 1 (rg Tryd.f8 1) false) (.seq (.region 2 (rg Tryd.f8 2) false) (.cond (.tmp 8) (.seq (.region 3 (rg Tryd.f8 3) false) (.ret)) (.skip)))) (.seq (.seq (.region 4 (rg Tryd.f8 4) false) (.block 0 (.seq (.region 5 (rg Tryd.f8 5) false) (.cond (.tmp 12) (.seq (.region 6 (rg Tryd.f8 6) false) (.ret)) (.seq (.region 7 (rg Tryd.f8 7) false) (.cond (.tmp 17) (.seq (.region 8 (rg Tryd.f8 8) false) (.ret)) (.seq (.region 9 (rg Tryd.f8 9) false) (.cond (.tmp 28) (.seq (.region 10 (rg Tryd.f8 10) false) (.ret)) (.seq (.region 11 (rg Tryd.f8 11) false) (.cond (.tmp 33) (.seq (.region 12 (rg Tryd.f8 12) false) (.ret)) (.skip))))))))))) (.seq (.region 13 (rg Tryd.f8 13) false) (.ret))))) := by kernel_rfl

set_option maxRecDepth 100000 in
set_option maxHeartbeats 8000000 in
theorem Text_c (k : KeyV) (hb : k.2.1.length ≤ 100000) : Pure Tryd.prog 8 [TV.agg [.s (u8 k.1), .s (st k.2.1), .s (i6 k.2.2)]] (AV.tup [tc (st ((textS k).1)), tc (i6 ((textS k).2))]) := by
  refine Pure.of_body Tryd.func8 f8_body (by kernel_rfl) Tryd.ntmps8 (by kernel_rfl) (by kernel_rfl) ?_
  refine AMx.seq ?_
  refine AMx.region (ces := []) (ks := [1]) (hs := [1]) (cs := []) (s' := AS.lst 35 [(1, vp 1 0)] [(1, AObj.row [.s (u8 k.1), .s (st k.2.1), .s (i6 k.2.2)])]) (by kernel_rfl) ?_ ?_
  · exact trivial
  refine AMx.seq ?_
  refine AMx.seq ?_
  refine AMx.region (ces := [(1, CE.call [] [] (vc (i6 (checkK k))) [])]) (ks := [1, 4]) (hs := [1]) (cs := [Spec Tryd.prog 13 [TV.agg [.s (u8 k.1), .s (st k.2.1), .s (i6 k.2.2)]] (ofH []) (vc (i6 (checkK k))) (ofH [])]) (s' := AS.lst 35 [(1, vp 1 0), (4, vc (i6 (checkK k)))] [(1, AObj.row [.s (u8 k.1), .s (st k.2.1), .s (i6 k.2.2)])]) (by kernel_rfl) ?_ ?_
  · exact (Check_c k)
  refine AMx.seq ?_
  refine AMx.region (ces := []) (ks := [1, 4, 8]) (hs := [1]) (cs := []) (s' := AS.lst 35 [(1, vp 1 0), (4, vc (i6 (checkK k))), (8, vc (bo (!decide (checkK k = 0))))] [(1, AObj.row [.s (u8 k.1), .s (st k.2.1), .s (i6 k.2.2)])]) (by kernel_rfl) ?_ ?_
  · exact trivial
  refine AMx.cond (b := !decide (checkK k = 0)) (by kernel_rfl) (fun hc1 => ?_) (fun hc1 => ?_)
  · try simp only [decide_eq_true_eq, decide_eq_false_iff_not, Bool.not_eq_true', Bool.not_eq_false'] at hc1
    refine AMx.seq ?_
    refine AMx.region (ces := []) (ks := [2, 3]) (hs := []) (cs := []) (s' := AS.lst 35 [(2, vc (st [])), (3, vc (i6 (checkK k)))] []) (by kernel_rfl) ?_ ?_
    · exact trivial
    refine AMx.ret ?_
    exact RetP.mk (r := AV.tup [tc (st []), tc (i6 (checkK k))]) (by kernel_rfl) (by rw [show textS k = ([], checkK k) from by first | rw [text_no (by assumption)] | (rw [text_ok (by assumption)]; unfold textOf wholeM wholeR; grind)])
  · try simp only [decide_eq_true_eq, decide_eq_false_iff_not, Bool.not_eq_true', Bool.not_eq_false'] at hc1
    refine AMx.skip ?_
    refine AMx.seq ?_
    refine AMx.seq ?_
    refine AMx.region (ces := []) (ks := [1, 11]) (hs := [1]) (cs := []) (s' := AS.lst 35 [(1, vp 1 0), (11, vc (u8 k.1))] [(1, AObj.row [.s (u8 k.1), .s (st k.2.1), .s (i6 k.2.2)])]) (by kernel_rfl) ?_ ?_
    · exact trivial
    refine AMx.block ?_
    refine AMx.seq ?_
    refine AMx.region (ces := []) (ks := [1, 11, 12]) (hs := [1]) (cs := []) (s' := AS.lst 35 [(1, vp 1 0), (11, vc (u8 k.1)), (12, vc (bo (decide (k.1 = 1))))] [(1, AObj.row [.s (u8 k.1), .s (st k.2.1), .s (i6 k.2.2)])]) (by kernel_rfl) ?_ ?_
    · exact trivial
    refine AMx.cond (b := decide (k.1 = 1)) (by kernel_rfl) (fun hc2 => ?_) (fun hc2 => ?_)
    · try simp only [decide_eq_true_eq, decide_eq_false_iff_not] at hc2
      refine AMx.seq ?_
      refine AMx.region (ces := []) (ks := [2, 3]) (hs := []) (cs := [List.length ([109, 47] : List UInt8) + List.length k.2.1 ≤ maxLen]) (s' := AS.lst 35 [(2, vc (st ([109, 47] ++ k.2.1))), (3, vc (i6 0))] []) (by kernel_rfl) ?_ ?_
      · exact (show List.length ([109, 47] : List UInt8) + List.length k.2.1 ≤ maxLen from (by simp only [List.length_append, List.length_cons, List.length_nil, maxLen]; first | omega | (first | omega | (simp only [List.length_append, List.length_cons, List.length_nil]; omega))))
      refine AMx.ret ?_
      exact RetP.mk (r := AV.tup [tc (st ([109, 47] ++ k.2.1)), tc (i6 0)]) (by kernel_rfl) (by rw [show textS k = ([109, 47] ++ k.2.1, 0) from by first | rw [text_no (by assumption)] | (rw [text_ok (by assumption)]; unfold textOf wholeM wholeR; grind)])
    · try simp only [decide_eq_true_eq, decide_eq_false_iff_not] at hc2
      refine AMx.seq ?_
      refine AMx.region (ces := []) (ks := [1, 11, 17]) (hs := [1]) (cs := []) (s' := AS.lst 35 [(1, vp 1 0), (11, vc (u8 k.1)), (17, vc (bo (decide (k.1 = 2))))] [(1, AObj.row [.s (u8 k.1), .s (st k.2.1), .s (i6 k.2.2)])]) (by kernel_rfl) ?_ ?_
      · exact trivial
      refine AMx.cond (b := decide (k.1 = 2)) (by kernel_rfl) (fun hc3 => ?_) (fun hc3 => ?_)
      · try simp only [decide_eq_true_eq, decide_eq_false_iff_not] at hc3
        refine AMx.seq ?_
        refine AMx.region (ces := [(6, CE.obj (AObj.grow 5 1 UInt8 0 rowU8 [0, b8 k.2.2])), (7, CE.str [0, b8 k.2.2])]) (ks := [2, 3]) (hs := []) (cs := [List.length ([100, 47] : List UInt8) + List.length k.2.1 ≤ maxLen, flat 1 rowU8 [0, b8 k.2.2] = [.s (u8 0), .s (u8 (IntKind.wrap .u8 (k.2.2)))], List.length ([0, b8 k.2.2] : List UInt8) = 2, flat 1 rowU8 [0, b8 k.2.2] = flat 1 rowU8 [0, b8 k.2.2], List.length ([0, b8 k.2.2] : List UInt8) = List.length ([0, b8 k.2.2] : List UInt8), (List.length ([0, b8 k.2.2] : List UInt8) : Int) ≤ 140737488355328, List.length ([100, 47] ++ k.2.1 : List UInt8) + List.length ([0, b8 k.2.2] : List UInt8) ≤ maxLen]) (s' := AS.lst 35 [(2, vc (st (([100, 47] ++ k.2.1) ++ [0, b8 k.2.2]))), (3, vc (i6 0))] []) (by kernel_rfl) ?_ ?_
        · exact ⟨(show List.length ([100, 47] : List UInt8) + List.length k.2.1 ≤ maxLen from (by simp only [List.length_append, List.length_cons, List.length_nil, maxLen]; first | omega | (first | omega | (simp only [List.length_append, List.length_cons, List.length_nil]; omega)))), (by have hm := may_name (check_may.1 (by assumption)) (by assumption); exact two_u8 rfl (wrap8 (by omega) (by omega))), rfl, rfl, rfl, (show (List.length ([0, b8 k.2.2] : List UInt8) : Int) ≤ 140737488355328 from (by first | omega | (simp only [List.length_append, List.length_cons, List.length_nil]; omega))), (show List.length ([100, 47] ++ k.2.1 : List UInt8) + List.length ([0, b8 k.2.2] : List UInt8) ≤ maxLen from (by simp only [List.length_append, List.length_cons, List.length_nil, maxLen]; first | omega | (first | omega | (simp only [List.length_append, List.length_cons, List.length_nil]; omega))))⟩
        refine AMx.ret ?_
        exact RetP.mk (r := AV.tup [tc (st (([100, 47] ++ k.2.1) ++ [0, b8 k.2.2])), tc (i6 0)]) (by kernel_rfl) (by rw [show textS k = (([100, 47] ++ k.2.1) ++ [0, b8 k.2.2], 0) from by first | rw [text_no (by assumption)] | (rw [text_ok (by assumption)]; unfold textOf wholeM wholeR; grind)])
      · try simp only [decide_eq_true_eq, decide_eq_false_iff_not] at hc3
        refine AMx.seq ?_
        refine AMx.region (ces := []) (ks := [1, 11, 28]) (hs := [1]) (cs := []) (s' := AS.lst 35 [(1, vp 1 0), (11, vc (u8 k.1)), (28, vc (bo (decide (k.1 = 3))))] [(1, AObj.row [.s (u8 k.1), .s (st k.2.1), .s (i6 k.2.2)])]) (by kernel_rfl) ?_ ?_
        · exact trivial
        refine AMx.cond (b := decide (k.1 = 3)) (by kernel_rfl) (fun hc4 => ?_) (fun hc4 => ?_)
        · try simp only [decide_eq_true_eq, decide_eq_false_iff_not] at hc4
          refine AMx.seq ?_
          refine AMx.region (ces := []) (ks := [2, 3]) (hs := []) (cs := [List.length ([116, 47] : List UInt8) + List.length k.2.1 ≤ maxLen]) (s' := AS.lst 35 [(2, vc (st ([116, 47] ++ k.2.1))), (3, vc (i6 0))] []) (by kernel_rfl) ?_ ?_
          · exact (show List.length ([116, 47] : List UInt8) + List.length k.2.1 ≤ maxLen from (by simp only [List.length_append, List.length_cons, List.length_nil, maxLen]; first | omega | (first | omega | (simp only [List.length_append, List.length_cons, List.length_nil]; omega))))
          refine AMx.ret ?_
          exact RetP.mk (r := AV.tup [tc (st ([116, 47] ++ k.2.1)), tc (i6 0)]) (by kernel_rfl) (by rw [show textS k = ([116, 47] ++ k.2.1, 0) from by first | rw [text_no (by assumption)] | (rw [text_ok (by assumption)]; unfold textOf wholeM wholeR; grind)])
        · try simp only [decide_eq_true_eq, decide_eq_false_iff_not] at hc4
          refine AMx.seq ?_
          refine AMx.region (ces := []) (ks := [33]) (hs := []) (cs := []) (s' := AS.lst 35 [(33, vc (bo (decide (k.1 = 4))))] []) (by kernel_rfl) ?_ ?_
          · exact trivial
          refine AMx.cond (b := decide (k.1 = 4)) (by kernel_rfl) (fun hc5 => ?_) (fun hc5 => ?_)
          · try simp only [decide_eq_true_eq, decide_eq_false_iff_not] at hc5
            refine AMx.seq ?_
            refine AMx.region (ces := []) (ks := [2, 3]) (hs := []) (cs := []) (s' := AS.lst 35 [(2, vc (st [115, 47, 109, 111, 117, 110, 116, 115])), (3, vc (i6 0))] []) (by kernel_rfl) ?_ ?_
            · exact trivial
            refine AMx.ret ?_
            exact RetP.mk (r := AV.tup [tc (st [115, 47, 109, 111, 117, 110, 116, 115]), tc (i6 0)]) (by kernel_rfl) (by rw [show textS k = ([115, 47, 109, 111, 117, 110, 116, 115], 0) from by first | rw [text_no (by assumption)] | (rw [text_ok (by assumption)]; unfold textOf wholeM wholeR; grind)])
          · try simp only [decide_eq_true_eq, decide_eq_false_iff_not] at hc5
            refine AMx.skip ?_
            refine AMx.blk ?_
            refine AMx.seq ?_
            refine AMx.region (ces := []) (ks := [2, 3]) (hs := []) (cs := []) (s' := AS.lst 35 [(2, vc (st [115, 47, 114, 105, 110, 103])), (3, vc (i6 0))] []) (by kernel_rfl) ?_ ?_
            · exact trivial
            refine AMx.ret ?_
            exact RetP.mk (r := AV.tup [tc (st [115, 47, 114, 105, 110, 103]), tc (i6 0)]) (by kernel_rfl) (by rw [show textS k = ([115, 47, 114, 105, 110, 103], 0) from by first | rw [text_no (by assumption)] | (rw [text_ok (by assumption)]; unfold textOf wholeM wholeR; grind)])

theorem f9_body : Tryd.f9.body = some (.seq (.region 0 (rg Tryd.f9 0) false) (.seq (.region 1 (rg Tryd.f9 1) false) (.seq (.seq (.region 2 (rg Tryd.f9 2) false) (.cond (.tmp 8) (.seq (.region 3 (rg Tryd.f9 3) false) (.ret)) (.skip))) (.seq (.seq (.region 4 (rg Tryd.f9 4) false) (.cond (.tmp 12) (.seq (.region 5 (rg Tryd.f9 5) false) (.ret)) (.skip))) (.seq (.seq (.region 6 (rg Tryd.f9 6) false) (.cond (.tmp 18) (.seq (.region 7 (rg Tryd.f9 7) false) (.ret)) (.skip))) (.seq (.seq (.region 8 (rg Tryd.f9 8) false) (.cond (.tmp 30) (.seq (.region 9 (rg Tryd.f9 9) false) (.ret)) (.skip))) (.seq (.seq (.region 10 (rg Tryd.f9 10) false) (.cond (.tmp 36) (.seq (.region 11 (rg Tryd.f9 11) false) (.ret)) (.skip))) (.seq (.region 12 (rg Tryd.f9 12) false) (.ret))))))))) := by kernel_rfl

set_option maxRecDepth 100000 in
set_option maxHeartbeats 8000000 in
theorem RText_c (k : KeyV) (hb : k.2.1.length ≤ 100000) : Pure Tryd.prog 9 [TV.agg [.s (u8 k.1), .s (st k.2.1), .s (i6 k.2.2)]] (AV.tup [tc (st ((textS k).1)), tc (i6 ((textS k).2))]) := by
  refine Pure.of_body Tryd.func9 f9_body (by kernel_rfl) Tryd.ntmps9 (by kernel_rfl) (by kernel_rfl) ?_
  refine AMx.seq ?_
  refine AMx.region (ces := []) (ks := [1]) (hs := [1]) (cs := []) (s' := AS.lst 37 [(1, vp 1 0)] [(1, AObj.row [.s (u8 k.1), .s (st k.2.1), .s (i6 k.2.2)])]) (by kernel_rfl) ?_ ?_
  · exact trivial
  refine AMx.seq ?_
  refine AMx.region (ces := [(1, CE.call [] [] (vc (i6 (checkK k))) [])]) (ks := [1, 4]) (hs := [1]) (cs := [Spec Tryd.prog 14 [TV.agg [.s (u8 k.1), .s (st k.2.1), .s (i6 k.2.2)]] (ofH []) (vc (i6 (checkK k))) (ofH [])]) (s' := AS.lst 37 [(1, vp 1 0), (4, vc (i6 (checkK k)))] [(1, AObj.row [.s (u8 k.1), .s (st k.2.1), .s (i6 k.2.2)])]) (by kernel_rfl) ?_ ?_
  · exact (RCheck_c k)
  refine AMx.seq ?_
  refine AMx.seq ?_
  refine AMx.region (ces := []) (ks := [1, 4, 8]) (hs := [1]) (cs := []) (s' := AS.lst 37 [(1, vp 1 0), (4, vc (i6 (checkK k))), (8, vc (bo (!decide (checkK k = 0))))] [(1, AObj.row [.s (u8 k.1), .s (st k.2.1), .s (i6 k.2.2)])]) (by kernel_rfl) ?_ ?_
  · exact trivial
  refine AMx.cond (b := !decide (checkK k = 0)) (by kernel_rfl) (fun hc1 => ?_) (fun hc1 => ?_)
  · try simp only [decide_eq_true_eq, decide_eq_false_iff_not, Bool.not_eq_true', Bool.not_eq_false'] at hc1
    refine AMx.seq ?_
    refine AMx.region (ces := []) (ks := [2, 3]) (hs := []) (cs := []) (s' := AS.lst 37 [(2, vc (st [])), (3, vc (i6 (checkK k)))] []) (by kernel_rfl) ?_ ?_
    · exact trivial
    refine AMx.ret ?_
    exact RetP.mk (r := AV.tup [tc (st []), tc (i6 (checkK k))]) (by kernel_rfl) (by rw [show textS k = ([], checkK k) from by first | rw [text_no (by assumption)] | (rw [text_ok (by assumption)]; unfold textOf wholeM wholeR; grind)])
  · try simp only [decide_eq_true_eq, decide_eq_false_iff_not, Bool.not_eq_true', Bool.not_eq_false'] at hc1
    refine AMx.skip ?_
    refine AMx.seq ?_
    refine AMx.seq ?_
    refine AMx.region (ces := []) (ks := [1, 12]) (hs := [1]) (cs := []) (s' := AS.lst 37 [(1, vp 1 0), (12, vc (bo (decide (k.1 = 1))))] [(1, AObj.row [.s (u8 k.1), .s (st k.2.1), .s (i6 k.2.2)])]) (by kernel_rfl) ?_ ?_
    · exact trivial
    refine AMx.cond (b := decide (k.1 = 1)) (by kernel_rfl) (fun hc2 => ?_) (fun hc2 => ?_)
    · try simp only [decide_eq_true_eq, decide_eq_false_iff_not] at hc2
      refine AMx.seq ?_
      refine AMx.region (ces := []) (ks := [2, 3]) (hs := []) (cs := [List.length ([109, 47] : List UInt8) + List.length k.2.1 ≤ maxLen]) (s' := AS.lst 37 [(2, vc (st ([109, 47] ++ k.2.1))), (3, vc (i6 0))] []) (by kernel_rfl) ?_ ?_
      · exact (show List.length ([109, 47] : List UInt8) + List.length k.2.1 ≤ maxLen from (by simp only [List.length_append, List.length_cons, List.length_nil, maxLen]; first | omega | (first | omega | (simp only [List.length_append, List.length_cons, List.length_nil]; omega))))
      refine AMx.ret ?_
      exact RetP.mk (r := AV.tup [tc (st ([109, 47] ++ k.2.1)), tc (i6 0)]) (by kernel_rfl) (by rw [show textS k = ([109, 47] ++ k.2.1, 0) from by first | rw [text_no (by assumption)] | (rw [text_ok (by assumption)]; unfold textOf wholeM wholeR; grind)])
    · try simp only [decide_eq_true_eq, decide_eq_false_iff_not] at hc2
      refine AMx.skip ?_
      refine AMx.seq ?_
      refine AMx.seq ?_
      refine AMx.region (ces := []) (ks := [1, 18]) (hs := [1]) (cs := []) (s' := AS.lst 37 [(1, vp 1 0), (18, vc (bo (decide (k.1 = 2))))] [(1, AObj.row [.s (u8 k.1), .s (st k.2.1), .s (i6 k.2.2)])]) (by kernel_rfl) ?_ ?_
      · exact trivial
      refine AMx.cond (b := decide (k.1 = 2)) (by kernel_rfl) (fun hc3 => ?_) (fun hc3 => ?_)
      · try simp only [decide_eq_true_eq, decide_eq_false_iff_not] at hc3
        refine AMx.seq ?_
        refine AMx.region (ces := [(6, CE.obj (AObj.grow 5 1 UInt8 0 rowU8 [0, b8 k.2.2])), (7, CE.str [0, b8 k.2.2])]) (ks := [2, 3]) (hs := []) (cs := [List.length ([100, 47] : List UInt8) + List.length k.2.1 ≤ maxLen, flat 1 rowU8 [0, b8 k.2.2] = [.s (u8 0), .s (u8 (IntKind.wrap .u8 (k.2.2)))], List.length ([0, b8 k.2.2] : List UInt8) = 2, flat 1 rowU8 [0, b8 k.2.2] = flat 1 rowU8 [0, b8 k.2.2], List.length ([0, b8 k.2.2] : List UInt8) = List.length ([0, b8 k.2.2] : List UInt8), (List.length ([0, b8 k.2.2] : List UInt8) : Int) ≤ 140737488355328, List.length ([100, 47] ++ k.2.1 : List UInt8) + List.length ([0, b8 k.2.2] : List UInt8) ≤ maxLen]) (s' := AS.lst 37 [(2, vc (st (([100, 47] ++ k.2.1) ++ [0, b8 k.2.2]))), (3, vc (i6 0))] []) (by kernel_rfl) ?_ ?_
        · exact ⟨(show List.length ([100, 47] : List UInt8) + List.length k.2.1 ≤ maxLen from (by simp only [List.length_append, List.length_cons, List.length_nil, maxLen]; first | omega | (first | omega | (simp only [List.length_append, List.length_cons, List.length_nil]; omega)))), (by have hm := may_name (check_may.1 (by assumption)) (by assumption); exact two_u8 rfl (wrap8 (by omega) (by omega))), rfl, rfl, rfl, (show (List.length ([0, b8 k.2.2] : List UInt8) : Int) ≤ 140737488355328 from (by first | omega | (simp only [List.length_append, List.length_cons, List.length_nil]; omega))), (show List.length ([100, 47] ++ k.2.1 : List UInt8) + List.length ([0, b8 k.2.2] : List UInt8) ≤ maxLen from (by simp only [List.length_append, List.length_cons, List.length_nil, maxLen]; first | omega | (first | omega | (simp only [List.length_append, List.length_cons, List.length_nil]; omega))))⟩
        refine AMx.ret ?_
        exact RetP.mk (r := AV.tup [tc (st (([100, 47] ++ k.2.1) ++ [0, b8 k.2.2])), tc (i6 0)]) (by kernel_rfl) (by rw [show textS k = (([100, 47] ++ k.2.1) ++ [0, b8 k.2.2], 0) from by first | rw [text_no (by assumption)] | (rw [text_ok (by assumption)]; unfold textOf wholeM wholeR; grind)])
      · try simp only [decide_eq_true_eq, decide_eq_false_iff_not] at hc3
        refine AMx.skip ?_
        refine AMx.seq ?_
        refine AMx.seq ?_
        refine AMx.region (ces := []) (ks := [1, 30]) (hs := [1]) (cs := []) (s' := AS.lst 37 [(1, vp 1 0), (30, vc (bo (decide (k.1 = 3))))] [(1, AObj.row [.s (u8 k.1), .s (st k.2.1), .s (i6 k.2.2)])]) (by kernel_rfl) ?_ ?_
        · exact trivial
        refine AMx.cond (b := decide (k.1 = 3)) (by kernel_rfl) (fun hc4 => ?_) (fun hc4 => ?_)
        · try simp only [decide_eq_true_eq, decide_eq_false_iff_not] at hc4
          refine AMx.seq ?_
          refine AMx.region (ces := []) (ks := [2, 3]) (hs := []) (cs := [List.length ([116, 47] : List UInt8) + List.length k.2.1 ≤ maxLen]) (s' := AS.lst 37 [(2, vc (st ([116, 47] ++ k.2.1))), (3, vc (i6 0))] []) (by kernel_rfl) ?_ ?_
          · exact (show List.length ([116, 47] : List UInt8) + List.length k.2.1 ≤ maxLen from (by simp only [List.length_append, List.length_cons, List.length_nil, maxLen]; first | omega | (first | omega | (simp only [List.length_append, List.length_cons, List.length_nil]; omega))))
          refine AMx.ret ?_
          exact RetP.mk (r := AV.tup [tc (st ([116, 47] ++ k.2.1)), tc (i6 0)]) (by kernel_rfl) (by rw [show textS k = ([116, 47] ++ k.2.1, 0) from by first | rw [text_no (by assumption)] | (rw [text_ok (by assumption)]; unfold textOf wholeM wholeR; grind)])
        · try simp only [decide_eq_true_eq, decide_eq_false_iff_not] at hc4
          refine AMx.skip ?_
          refine AMx.seq ?_
          refine AMx.seq ?_
          refine AMx.region (ces := []) (ks := [36]) (hs := []) (cs := []) (s' := AS.lst 37 [(36, vc (bo (decide (k.1 = 4))))] []) (by kernel_rfl) ?_ ?_
          · exact trivial
          refine AMx.cond (b := decide (k.1 = 4)) (by kernel_rfl) (fun hc5 => ?_) (fun hc5 => ?_)
          · try simp only [decide_eq_true_eq, decide_eq_false_iff_not] at hc5
            refine AMx.seq ?_
            refine AMx.region (ces := []) (ks := [2, 3]) (hs := []) (cs := []) (s' := AS.lst 37 [(2, vc (st [115, 47, 109, 111, 117, 110, 116, 115])), (3, vc (i6 0))] []) (by kernel_rfl) ?_ ?_
            · exact trivial
            refine AMx.ret ?_
            exact RetP.mk (r := AV.tup [tc (st [115, 47, 109, 111, 117, 110, 116, 115]), tc (i6 0)]) (by kernel_rfl) (by rw [show textS k = ([115, 47, 109, 111, 117, 110, 116, 115], 0) from by first | rw [text_no (by assumption)] | (rw [text_ok (by assumption)]; unfold textOf wholeM wholeR; grind)])
          · try simp only [decide_eq_true_eq, decide_eq_false_iff_not] at hc5
            refine AMx.skip ?_
            refine AMx.seq ?_
            refine AMx.region (ces := []) (ks := [2, 3]) (hs := []) (cs := []) (s' := AS.lst 37 [(2, vc (st [115, 47, 114, 105, 110, 103])), (3, vc (i6 0))] []) (by kernel_rfl) ?_ ?_
            · exact trivial
            refine AMx.ret ?_
            exact RetP.mk (r := AV.tup [tc (st [115, 47, 114, 105, 110, 103]), tc (i6 0)]) (by kernel_rfl) (by rw [show textS k = ([115, 47, 114, 105, 110, 103], 0) from by first | rw [text_no (by assumption)] | (rw [text_ok (by assumption)]; unfold textOf wholeM wholeR; grind)])

end AL.Rows
