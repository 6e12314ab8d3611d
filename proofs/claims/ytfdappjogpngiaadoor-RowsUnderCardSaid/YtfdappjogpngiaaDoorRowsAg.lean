/- rows: the contracts of its functions, by their walks. No condition. -/
import Derived.Test.YtfdappjogpngiaaDoorRowsAt
namespace AL.Rows
open Go Go.Proofs AL
open AL.Secret (Sec RowV loose rowR)
open AL.Under (hasP trimP)
set_option linter.unusedVariables false
set_option linter.unusedSimpArgs false

theorem f29_body : Tryd.f29.body = some (.seq (.region 0 (rg Tryd.f29 0) false) (.seq (.seq (.region 1 (rg Tryd.f29 1) false) (.cond (.tmp 11) (.seq (.region 2 (rg Tryd.f29 2) false) (.ret)) (.skip))) (.seq (.seq (.region 3 (rg Tryd.f29 3) false) (.cond (.tmp 14) (.seq (.region 4 (rg Tryd.f29 4) false) (.ret)) (.skip))) (.seq (.seq (.region 5 (rg Tryd.f29 5) false) (.seq (.region 6 (rg Tryd.f29 6) false) (.cond (.tmp 21) (.seq (.region 7 (rg Tryd.f29 7) false) (.ret)) (.skip)))) (.seq (.seq (.region 8 (rg Tryd.f29 8) false) (.seq (.region 9 (rg Tryd.f29 9) false) (.cond (.tmp 29) (.seq (.region 10 (rg Tryd.f29 10) false) (.ret)) (.skip)))) (.seq (.seq (.region 11 (rg Tryd.f29 11) false) (.seq (.region 12 (rg Tryd.f29 12) false) (.cond (.tmp 50) (.seq (.region 13 (rg Tryd.f29 13) false) (.seq (.region 14 (rg Tryd.f29 14) true) (.ret))) (.skip)))) (.seq (.region 15 (rg Tryd.f29 15) false) (.ret)))))))) := by kernel_rfl

set_option maxRecDepth 100000 in
set_option maxHeartbeats 8000000 in
theorem guess_c (s : Bytes) : Pure Tryd.prog 29 [tc (st s)] (AV.t (TV.agg [.s (u8 ((guessS s).1)), .s (st ((guessS s).2.1)), .s (i6 ((guessS s).2.2))])) := by
  refine Pure.of_body Tryd.func29 f29_body (by kernel_rfl) Tryd.ntmps29 (by kernel_rfl) (by kernel_rfl) ?_
  refine AMx.str 0 (b := s) rfl (fun hl => ?_)
  simp only [maxLen] at hl
  have ht := Under.trim_len s [100, 47]
  have e1 : ((List.length (trimP s [100, 47]) : Int) - 2).toNat = List.length (trimP s [100, 47]) - 2 := by omega
  refine AMx.seq ?_
  refine AMx.region (ces := []) (ks := [0, 2]) (hs := [2]) (cs := []) (s' := AS.lst 64 [(0, vc (st s)), (2, vp 2 0)] [(2, AObj.row [.s (u8 0), .s (st []), .s (i6 0)])]) (by kernel_rfl) ?_ ?_
  · exact trivial
  refine AMx.seq ?_
  refine AMx.seq ?_
  refine AMx.region (ces := []) (ks := [0, 2, 11]) (hs := [2]) (cs := []) (s' := AS.lst 64 [(0, vc (st s)), (2, vp 2 0), (11, vc (bo (decide (s = [115, 47, 109, 111, 117, 110, 116, 115]))))] [(2, AObj.row [.s (u8 0), .s (st []), .s (i6 0)])]) (by kernel_rfl) ?_ ?_
  · exact trivial
  refine AMx.cond (b := decide (s = [115, 47, 109, 111, 117, 110, 116, 115])) (by kernel_rfl) (fun hc1 => ?_) (fun hc1 => ?_)
  · try simp only [decide_eq_true_eq, decide_eq_false_iff_not] at hc1
    refine AMx.seq ?_
    refine AMx.region (ces := []) (ks := [2]) (hs := [2]) (cs := []) (s' := AS.lst 64 [(2, vp 2 0)] [(2, AObj.row [.s (u8 4), .s (st []), .s (i6 0)])]) (by kernel_rfl) ?_ ?_
    · exact trivial
    refine AMx.ret ?_
    exact RetP.mk (r := AV.t (TV.agg [.s (u8 4), .s (st []), .s (i6 0)])) (by kernel_rfl) (by rw [show guessS s = ((4, [], 0) : KeyV) from by unfold guessS wholeM wholeR; rw [if_pos hc1]])
  · try simp only [decide_eq_true_eq, decide_eq_false_iff_not] at hc1
    refine AMx.skip ?_
    refine AMx.seq ?_
    refine AMx.seq ?_
    refine AMx.region (ces := []) (ks := [0, 2, 14]) (hs := [2]) (cs := []) (s' := AS.lst 64 [(0, vc (st s)), (2, vp 2 0), (14, vc (bo (decide (s = [115, 47, 114, 105, 110, 103]))))] [(2, AObj.row [.s (u8 0), .s (st []), .s (i6 0)])]) (by kernel_rfl) ?_ ?_
    · exact trivial
    refine AMx.cond (b := decide (s = [115, 47, 114, 105, 110, 103])) (by kernel_rfl) (fun hc2 => ?_) (fun hc2 => ?_)
    · try simp only [decide_eq_true_eq, decide_eq_false_iff_not] at hc2
      refine AMx.seq ?_
      refine AMx.region (ces := []) (ks := [2]) (hs := [2]) (cs := []) (s' := AS.lst 64 [(2, vp 2 0)] [(2, AObj.row [.s (u8 5), .s (st []), .s (i6 0)])]) (by kernel_rfl) ?_ ?_
      · exact trivial
      refine AMx.ret ?_
      exact RetP.mk (r := AV.t (TV.agg [.s (u8 5), .s (st []), .s (i6 0)])) (by kernel_rfl) (by rw [show guessS s = ((5, [], 0) : KeyV) from by unfold guessS wholeM wholeR; rw [if_neg hc1, if_pos hc2]])
    · try simp only [decide_eq_true_eq, decide_eq_false_iff_not] at hc2
      refine AMx.skip ?_
      refine AMx.seq ?_
      refine AMx.seq ?_
      refine AMx.region (ces := [(1, CE.call [] [] (AV.tup [tc (st (trimP s [109, 47])), tc (bo (hasP s [109, 47]))]) [])]) (ks := [0, 2, 3, 4]) (hs := [2]) (cs := [Spec Tryd.prog 43 [tc (st s), tc (st [109, 47])] (ofH []) (AV.tup [tc (st (trimP s [109, 47])), tc (bo (hasP s [109, 47]))]) (ofH [])]) (s' := AS.lst 64 [(0, vc (st s)), (2, vp 2 0), (3, vc (st (trimP s [109, 47]))), (4, vc (bo (hasP s [109, 47])))] [(2, AObj.row [.s (u8 0), .s (st []), .s (i6 0)])]) (by kernel_rfl) ?_ ?_
      · exact (Under.CutPrefix_c s [109, 47])
      refine AMx.seq ?_
      refine AMx.region (ces := []) (ks := [0, 2, 3, 21]) (hs := [2]) (cs := []) (s' := AS.lst 64 [(0, vc (st s)), (2, vp 2 0), (3, vc (st (trimP s [109, 47]))), (21, vc (bo (hasP s [109, 47])))] [(2, AObj.row [.s (u8 0), .s (st []), .s (i6 0)])]) (by kernel_rfl) ?_ ?_
      · exact trivial
      refine AMx.cond (b := hasP s [109, 47]) (by kernel_rfl) (fun hc3 => ?_) (fun hc3 => ?_)
      · try simp only [decide_eq_true_eq, decide_eq_false_iff_not] at hc3
        refine AMx.seq ?_
        refine AMx.region (ces := []) (ks := [2]) (hs := [2]) (cs := []) (s' := AS.lst 64 [(2, vp 2 0)] [(2, AObj.row [.s (u8 1), .s (st (trimP s [109, 47])), .s (i6 0)])]) (by kernel_rfl) ?_ ?_
        · exact trivial
        refine AMx.ret ?_
        exact RetP.mk (r := AV.t (TV.agg [.s (u8 1), .s (st (trimP s [109, 47])), .s (i6 0)])) (by kernel_rfl) (by rw [show guessS s = ((1, trimP s [109, 47], 0) : KeyV) from by unfold guessS wholeM wholeR; rw [if_neg hc1, if_neg hc2, if_pos hc3]])
      · try simp only [decide_eq_true_eq, decide_eq_false_iff_not] at hc3
        refine AMx.skip ?_
        refine AMx.seq ?_
        refine AMx.seq ?_
        refine AMx.region (ces := [(1, CE.call [] [] (AV.tup [tc (st (trimP s [116, 47])), tc (bo (hasP s [116, 47]))]) [])]) (ks := [0, 2, 5, 6]) (hs := [2]) (cs := [Spec Tryd.prog 43 [tc (st s), tc (st [116, 47])] (ofH []) (AV.tup [tc (st (trimP s [116, 47])), tc (bo (hasP s [116, 47]))]) (ofH [])]) (s' := AS.lst 64 [(0, vc (st s)), (2, vp 2 0), (5, vc (st (trimP s [116, 47]))), (6, vc (bo (hasP s [116, 47])))] [(2, AObj.row [.s (u8 0), .s (st []), .s (i6 0)])]) (by kernel_rfl) ?_ ?_
        · exact (Under.CutPrefix_c s [116, 47])
        refine AMx.seq ?_
        refine AMx.region (ces := []) (ks := [0, 2, 5, 29]) (hs := [2]) (cs := []) (s' := AS.lst 64 [(0, vc (st s)), (2, vp 2 0), (5, vc (st (trimP s [116, 47]))), (29, vc (bo (hasP s [116, 47])))] [(2, AObj.row [.s (u8 0), .s (st []), .s (i6 0)])]) (by kernel_rfl) ?_ ?_
        · exact trivial
        refine AMx.cond (b := hasP s [116, 47]) (by kernel_rfl) (fun hc4 => ?_) (fun hc4 => ?_)
        · try simp only [decide_eq_true_eq, decide_eq_false_iff_not] at hc4
          refine AMx.seq ?_
          refine AMx.region (ces := []) (ks := [2]) (hs := [2]) (cs := []) (s' := AS.lst 64 [(2, vp 2 0)] [(2, AObj.row [.s (u8 3), .s (st (trimP s [116, 47])), .s (i6 0)])]) (by kernel_rfl) ?_ ?_
          · exact trivial
          refine AMx.ret ?_
          exact RetP.mk (r := AV.t (TV.agg [.s (u8 3), .s (st (trimP s [116, 47])), .s (i6 0)])) (by kernel_rfl) (by rw [show guessS s = ((3, trimP s [116, 47], 0) : KeyV) from by unfold guessS wholeM wholeR; rw [if_neg hc1, if_neg hc2, if_neg (by rw [hc3]; decide), if_pos hc4]])
        · try simp only [decide_eq_true_eq, decide_eq_false_iff_not] at hc4
          refine AMx.skip ?_
          refine AMx.seq ?_
          refine AMx.seq ?_
          refine AMx.region (ces := [(1, CE.call [] [] (AV.tup [tc (st (trimP s [100, 47])), tc (bo (hasP s [100, 47]))]) [])]) (ks := [2, 7, 8]) (hs := [2]) (cs := [Spec Tryd.prog 43 [tc (st s), tc (st [100, 47])] (ofH []) (AV.tup [tc (st (trimP s [100, 47])), tc (bo (hasP s [100, 47]))]) (ofH [])]) (s' := AS.lst 64 [(2, vp 2 0), (7, vc (st (trimP s [100, 47]))), (8, vc (bo (hasP s [100, 47])))] [(2, AObj.row [.s (u8 0), .s (st []), .s (i6 0)])]) (by kernel_rfl) ?_ ?_
          · exact (Under.CutPrefix_c s [100, 47])
          refine AMx.seq ?_
          refine AMx.region (ces := []) (ks := [2, 7, 50]) (hs := [2]) (cs := [((hasP s [100, 47]) = true) → allP [], ((hasP s [100, 47]) = true) → allP [(hasP s [100, 47]) = true], ((hasP s [100, 47]) = true) → allP [(hasP s [100, 47]) = true], (hasP s [100, 47]) = true → allP [(hasP s [100, 47]) = true], (((hasP s [100, 47]) && (decide (2 < (List.length (trimP s [100, 47] : List UInt8) : Int)))) = true) → allP [], (((hasP s [100, 47]) && (decide (2 < (List.length (trimP s [100, 47] : List UInt8) : Int)))) = true) → allP [], (((hasP s [100, 47]) && (decide (2 < (List.length (trimP s [100, 47] : List UInt8) : Int)))) = true) → allP [((hasP s [100, 47]) && (decide (2 < (List.length (trimP s [100, 47] : List UInt8) : Int)))) = true], (((hasP s [100, 47]) && (decide (2 < (List.length (trimP s [100, 47] : List UInt8) : Int)))) = true) → allP [((hasP s [100, 47]) && (decide (2 < (List.length (trimP s [100, 47] : List UInt8) : Int)))) = true, InR .i64 ((List.length (trimP s [100, 47] : List UInt8) : Int) - 2)], (((hasP s [100, 47]) && (decide (2 < (List.length (trimP s [100, 47] : List UInt8) : Int)))) = true) → allP [((hasP s [100, 47]) && (decide (2 < (List.length (trimP s [100, 47] : List UInt8) : Int)))) = true, ((hasP s [100, 47]) && (decide (2 < (List.length (trimP s [100, 47] : List UInt8) : Int)))) = true, (0 : Int) ≤ (List.length (trimP s [100, 47] : List UInt8) : Int) - 2, (List.length (trimP s [100, 47] : List UInt8) : Int) - 2 < List.length (trimP s [100, 47] : List UInt8)], (((hasP s [100, 47]) && (decide (2 < (List.length (trimP s [100, 47] : List UInt8) : Int)))) = true) → allP [((hasP s [100, 47]) && (decide (2 < (List.length (trimP s [100, 47] : List UInt8) : Int)))) = true], ((hasP s [100, 47]) && (decide (2 < (List.length (trimP s [100, 47] : List UInt8) : Int)))) = true → allP [((hasP s [100, 47]) && (decide (2 < (List.length (trimP s [100, 47] : List UInt8) : Int)))) = true]]) (s' := AS.lst 64 [(2, vp 2 0), (7, vc (st (trimP s [100, 47]))), (50, vc (bo (((hasP s [100, 47]) && (decide (2 < (List.length (trimP s [100, 47] : List UInt8) : Int)))) && (decide (((List.getD (trimP s [100, 47]) ((List.length (trimP s [100, 47] : List UInt8) : Int) - 2).toNat 0).toNat : Int) = 0)))))] [(2, AObj.row [.s (u8 0), .s (st []), .s (i6 0)])]) (by kernel_rfl) ?_ ?_
          · exact ⟨(fun _ => trivial), (fun hp => hp), (fun hp => hp), (fun hp2 => (by first | exact hp2 | exact ⟨hp, hp2⟩)), (fun _ => trivial), (fun _ => trivial), (fun hp => hp), (fun hp => by have hq := hp; (try simp only [decide_eq_true_eq, decide_eq_false_iff_not, Bool.and_eq_true, Bool.or_eq_true, Bool.and_eq_false_iff, Bool.or_eq_false_iff, Bool.not_eq_true', Bool.not_eq_false', Bool.not_eq_true, Bool.not_eq_false] at hq); exact ⟨hp, (show InR .i64 ((List.length (trimP s [100, 47] : List UInt8) : Int) - 2) from (inR64 (by first | omega | (have hb := Rune.byte_lt (trimP s [100, 47]) ((List.length (trimP s [100, 47]) : Int) - 2 + 1).toNat; omega)) (by first | omega | (have hb := Rune.byte_lt (trimP s [100, 47]) ((List.length (trimP s [100, 47]) : Int) - 2 + 1).toNat; omega))))⟩), (fun hp => by have hq := hp; (try simp only [decide_eq_true_eq, decide_eq_false_iff_not, Bool.and_eq_true, Bool.or_eq_true, Bool.and_eq_false_iff, Bool.or_eq_false_iff, Bool.not_eq_true', Bool.not_eq_false', Bool.not_eq_true, Bool.not_eq_false] at hq); exact ⟨hp, hp, (show (0 : Int) ≤ (List.length (trimP s [100, 47] : List UInt8) : Int) - 2 from (by first | omega | (have hb := Rune.byte_lt (trimP s [100, 47]) ((List.length (trimP s [100, 47]) : Int) - 2 + 1).toNat; omega))), (show (List.length (trimP s [100, 47] : List UInt8) : Int) - 2 < List.length (trimP s [100, 47] : List UInt8) from (by first | omega | (have hb := Rune.byte_lt (trimP s [100, 47]) ((List.length (trimP s [100, 47]) : Int) - 2 + 1).toNat; omega)))⟩), (fun hp => hp), (fun hp2 => (by first | exact hp2 | exact ⟨hp, hp2⟩))⟩
          refine AMx.cond (b := (((hasP s [100, 47]) && (decide (2 < (List.length (trimP s [100, 47] : List UInt8) : Int)))) && (decide (((List.getD (trimP s [100, 47]) ((List.length (trimP s [100, 47] : List UInt8) : Int) - 2).toNat 0).toNat : Int) = 0)))) (by kernel_rfl) (fun hc5 => ?_) (fun hc5 => ?_)
          · try simp only [decide_eq_true_eq, decide_eq_false_iff_not, Bool.and_eq_true, Bool.and_eq_false_iff] at hc5
            refine AMx.seq ?_
            refine AMx.region (ces := []) (ks := [2, 7, 9]) (hs := [2]) (cs := [InR .i64 ((List.length (trimP s [100, 47] : List UInt8) : Int) - 2)]) (s' := AS.lst 64 [(2, vp 2 0), (7, vc (st (trimP s [100, 47]))), (9, vc (i6 ((List.length (trimP s [100, 47] : List UInt8) : Int) - 2)))] [(2, AObj.row [.s (u8 0), .s (st []), .s (i6 0)])]) (by kernel_rfl) ?_ ?_
            · exact (show InR .i64 ((List.length (trimP s [100, 47] : List UInt8) : Int) - 2) from (inR64 (by first | omega | (have hb := Rune.byte_lt (trimP s [100, 47]) ((List.length (trimP s [100, 47]) : Int) - 2 + 1).toNat; omega)) (by first | omega | (have hb := Rune.byte_lt (trimP s [100, 47]) ((List.length (trimP s [100, 47]) : Int) - 2 + 1).toNat; omega))))
            refine AMx.seq ?_
            refine AMx.region_draw (ces := []) (ros := [(9, [2])]) (ks := [2]) (hs := [2]) (cs := [0 ≤ (List.length (trimP s [100, 47] : List UInt8) : Int) - 2, (List.length (trimP s [100, 47] : List UInt8) : Int) - 2 ≤ List.length (trimP s [100, 47] : List UInt8), InR .i64 (((List.length (trimP s [100, 47] : List UInt8) : Int) - 2) + 1), (0 : Int) ≤ ((List.length (trimP s [100, 47] : List UInt8) : Int) - 2) + 1, ((List.length (trimP s [100, 47] : List UInt8) : Int) - 2) + 1 < List.length (trimP s [100, 47] : List UInt8)]) (s' := AS.lst 64 [(2, vp 2 0)] [(2, AObj.row [.s (u8 2), .s (st (List.take ((List.length (trimP s [100, 47] : List UInt8) : Int) - 2).toNat (trimP s [100, 47]))), .s (i6 ((List.getD (trimP s [100, 47]) (((List.length (trimP s [100, 47] : List UInt8) : Int) - 2) + 1).toNat 0).toNat : Int))])]) mixed (by kernel_rfl) ?_ ?_
            · exact ⟨(show 0 ≤ (List.length (trimP s [100, 47] : List UInt8) : Int) - 2 from (by first | omega | (have hb := Rune.byte_lt (trimP s [100, 47]) ((List.length (trimP s [100, 47]) : Int) - 2 + 1).toNat; omega))), (show (List.length (trimP s [100, 47] : List UInt8) : Int) - 2 ≤ List.length (trimP s [100, 47] : List UInt8) from (by first | omega | (have hb := Rune.byte_lt (trimP s [100, 47]) ((List.length (trimP s [100, 47]) : Int) - 2 + 1).toNat; omega))), (show InR .i64 (((List.length (trimP s [100, 47] : List UInt8) : Int) - 2) + 1) from (inR64 (by first | omega | (have hb := Rune.byte_lt (trimP s [100, 47]) ((List.length (trimP s [100, 47]) : Int) - 2 + 1).toNat; omega)) (by first | omega | (have hb := Rune.byte_lt (trimP s [100, 47]) ((List.length (trimP s [100, 47]) : Int) - 2 + 1).toNat; omega)))), (show (0 : Int) ≤ ((List.length (trimP s [100, 47] : List UInt8) : Int) - 2) + 1 from (by first | omega | (have hb := Rune.byte_lt (trimP s [100, 47]) ((List.length (trimP s [100, 47]) : Int) - 2 + 1).toNat; omega))), (show ((List.length (trimP s [100, 47] : List UInt8) : Int) - 2) + 1 < List.length (trimP s [100, 47] : List UInt8) from (by first | omega | (have hb := Rune.byte_lt (trimP s [100, 47]) ((List.length (trimP s [100, 47]) : Int) - 2 + 1).toNat; omega)))⟩
            refine AMx.ret ?_
            exact RetP.mk (r := AV.t (TV.agg [.s (u8 2), .s (st (List.take ((List.length (trimP s [100, 47] : List UInt8) : Int) - 2).toNat (trimP s [100, 47]))), .s (i6 ((List.getD (trimP s [100, 47]) (((List.length (trimP s [100, 47] : List UInt8) : Int) - 2) + 1).toNat 0).toNat : Int))])) (by kernel_rfl) (by rw [show guessS s = ((2, List.take ((List.length (trimP s [100, 47] : List UInt8) : Int) - 2).toNat (trimP s [100, 47]), ((List.getD (trimP s [100, 47]) (((List.length (trimP s [100, 47] : List UInt8) : Int) - 2) + 1).toNat 0).toNat : Int)) : KeyV) from by unfold guessS wholeM wholeR; rw [if_neg hc1, if_neg hc2, if_neg (by rw [hc3]; decide), if_neg (by rw [hc4]; decide), if_pos ⟨hc5.1.1, by omega, by have q := hc5.2; rw [e1] at q; omega⟩, e1, show (((List.length (trimP s [100, 47]) : Int) - 2 + 1).toNat) = List.length (trimP s [100, 47]) - 1 by omega]])
          · try simp only [decide_eq_true_eq, decide_eq_false_iff_not, Bool.and_eq_true, Bool.and_eq_false_iff] at hc5
            refine AMx.skip ?_
            refine AMx.seq ?_
            refine AMx.region (ces := []) (ks := [2]) (hs := [2]) (cs := []) (s' := AS.lst 64 [(2, vp 2 0)] [(2, AObj.row [.s (u8 0), .s (st []), .s (i6 0)])]) (by kernel_rfl) ?_ ?_
            · exact trivial
            refine AMx.ret ?_
            exact RetP.mk (r := AV.t (TV.agg [.s (u8 0), .s (st []), .s (i6 0)])) (by kernel_rfl) (by rw [show guessS s = ((0, [], 0) : KeyV) from by unfold guessS wholeM wholeR; rw [if_neg hc1, if_neg hc2, if_neg (by rw [hc3]; decide), if_neg (by rw [hc4]; decide), if_neg (fun q => by rcases hc5 with (z | z) | z; rw [q.1] at z; cases z; omega; rw [e1] at z; exact z (by omega))]])

theorem f10_body : Tryd.f10.body = some (.seq (.region 0 (rg Tryd.f10 0) false) (.seq (.region 1 (rg Tryd.f10 1) false) (.seq (.seq (.region 2 (rg Tryd.f10 2) false) (.cond (.tmp 9) (.seq (.region 3 (rg Tryd.f10 3) false) (.ret)) (.skip))) (.seq (.region 4 (rg Tryd.f10 4) false) (.ret))))) := by kernel_rfl

set_option maxRecDepth 100000 in
set_option maxHeartbeats 8000000 in
theorem Parse_c (s : Bytes) : Pure Tryd.prog 10 [tc (st s)] (AV.tup [TV.agg [.s (u8 (((parseS s).1).1)), .s (st (((parseS s).1).2.1)), .s (i6 (((parseS s).1).2.2))], tc (i6 ((parseS s).2))]) := by
  refine Pure.of_body Tryd.func10 f10_body (by kernel_rfl) Tryd.ntmps10 (by kernel_rfl) (by kernel_rfl) ?_
  refine AMx.seq ?_
  refine AMx.region (ces := []) (ks := [0, 2]) (hs := [2]) (cs := []) (s' := AS.lst 12 [(0, vc (st s)), (2, vp 2 0)] [(2, AObj.row [.s (u8 0), .s (st []), .s (i6 0)])]) (by kernel_rfl) ?_ ?_
  · exact trivial
  refine AMx.seq ?_
  refine AMx.region (ces := [(1, CE.call [] [] (AV.t (TV.agg [.s (u8 ((guessS s).1)), .s (st ((guessS s).2.1)), .s (i6 ((guessS s).2.2))])) [])]) (ks := [2, 4]) (hs := [2, 4]) (cs := [Spec Tryd.prog 29 [tc (st s)] (ofH []) (AV.t (TV.agg [.s (u8 ((guessS s).1)), .s (st ((guessS s).2.1)), .s (i6 ((guessS s).2.2))])) (ofH [])]) (s' := AS.lst 12 [(2, vp 2 0), (4, vp 4 0)] [(2, AObj.row [.s (u8 0), .s (st []), .s (i6 0)]), (4, AObj.row [.s (u8 ((guessS s).1)), .s (st ((guessS s).2.1)), .s (i6 ((guessS s).2.2))])]) (by kernel_rfl) ?_ ?_
  · exact (guess_c s)
  refine AMx.seq ?_
  refine AMx.seq ?_
  refine AMx.region (ces := [(1, CE.call [] [] (vc (i6 (checkK (guessS s)))) [])]) (ks := [2, 4, 9]) (hs := [2, 4]) (cs := [Spec Tryd.prog 13 [TV.agg [.s (u8 ((guessS s).1)), .s (st ((guessS s).2.1)), .s (i6 ((guessS s).2.2))]] (ofH []) (vc (i6 (checkK (guessS s)))) (ofH [])]) (s' := AS.lst 12 [(2, vp 2 0), (4, vp 4 0), (9, vc (bo (!decide (checkK (guessS s) = 0))))] [(2, AObj.row [.s (u8 0), .s (st []), .s (i6 0)]), (4, AObj.row [.s (u8 ((guessS s).1)), .s (st ((guessS s).2.1)), .s (i6 ((guessS s).2.2))])]) (by kernel_rfl) ?_ ?_
  · exact (Check_c (guessS s))
  refine AMx.cond (b := !decide (checkK (guessS s) = 0)) (by kernel_rfl) (fun hc1 => ?_) (fun hc1 => ?_)
  · try simp only [decide_eq_true_eq, decide_eq_false_iff_not, Bool.not_eq_true', Bool.not_eq_false'] at hc1
    refine AMx.seq ?_
    refine AMx.region (ces := []) (ks := [2, 3]) (hs := [2]) (cs := []) (s' := AS.lst 12 [(2, vp 2 0), (3, vc (i6 4))] [(2, AObj.row [.s (u8 0), .s (st []), .s (i6 0)])]) (by kernel_rfl) ?_ ?_
    · exact trivial
    refine AMx.ret ?_
    exact RetP.mk (r := AV.tup [TV.agg [.s (u8 0), .s (st []), .s (i6 0)], tc (i6 4)]) (by kernel_rfl) (by rw [show parseS s = (((0, [], 0) : KeyV), 4) from by unfold parseS; first | rw [if_pos (by assumption)] | rw [if_neg (by assumption)]])
  · try simp only [decide_eq_true_eq, decide_eq_false_iff_not, Bool.not_eq_true', Bool.not_eq_false'] at hc1
    refine AMx.skip ?_
    refine AMx.seq ?_
    refine AMx.region (ces := []) (ks := [2, 3]) (hs := [2]) (cs := []) (s' := AS.lst 12 [(2, vp 2 0), (3, vc (i6 0))] [(2, AObj.row [.s (u8 ((guessS s).1)), .s (st ((guessS s).2.1)), .s (i6 ((guessS s).2.2))])]) (by kernel_rfl) ?_ ?_
    · exact trivial
    refine AMx.ret ?_
    exact RetP.mk (r := AV.tup [TV.agg [.s (u8 ((guessS s).1)), .s (st ((guessS s).2.1)), .s (i6 ((guessS s).2.2))], tc (i6 0)]) (by kernel_rfl) (by rw [show parseS s = ((guessS s), 0) from by unfold parseS; first | rw [if_pos (by assumption)] | rw [if_neg (by assumption)]])

end AL.Rows
