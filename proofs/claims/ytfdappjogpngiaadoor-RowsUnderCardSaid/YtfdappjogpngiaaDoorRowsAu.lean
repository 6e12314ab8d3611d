/- rows: the contracts of its functions, by their walks. No condition. -/
import Derived.Test.YtfdappjogpngiaaDoorRowsA
namespace AL.Rows
open Go Go.Proofs AL
open AL.Secret (Sec RowV loose rowR)
open AL.Under (hasP trimP)
set_option linter.unusedVariables false
set_option linter.unusedSimpArgs false

theorem f12_body : Tryd.f12.body = some (.seq (.region 0 (rg Tryd.f12 0) false) (.seq (.region 1 (rg Tryd.f12 1) false) (.ret))) := by kernel_rfl

set_option maxRecDepth 100000 in
set_option maxHeartbeats 8000000 in
theorem Under_c (top : Bytes) (hb : top.length ≤ 100000) : Pure Tryd.prog 12 [tc (st top)] (vc (AL.Fnv.slS (underS top))) := by
  refine Pure.of_body Tryd.func12 f12_body (by kernel_rfl) Tryd.ntmps12 (by kernel_rfl) (by kernel_rfl) ?_
  refine AMx.seq ?_
  refine AMx.region (ces := []) (ks := [0]) (hs := []) (cs := []) (s' := AS.lst 10 [(0, vc (st top))] []) (by kernel_rfl) ?_ ?_
  · exact trivial
  refine AMx.seq ?_
  refine AMx.region (ces := [(6, CE.obj (AObj.grow 9 1 Bytes [] AL.Fnv.rowS [([109, 47] ++ top) ++ [47], ([100, 47] ++ top) ++ [47]]))]) (ks := [2]) (hs := [9]) (cs := [List.length ([109, 47] : List UInt8) + List.length top ≤ maxLen, List.length ([109, 47] ++ top : List UInt8) + List.length ([47] : List UInt8) ≤ maxLen, List.length ([100, 47] : List UInt8) + List.length top ≤ maxLen, List.length ([100, 47] ++ top : List UInt8) + List.length ([47] : List UInt8) ≤ maxLen, flat 1 AL.Fnv.rowS [([109, 47] ++ top) ++ [47], ([100, 47] ++ top) ++ [47]] = [.s (st (([109, 47] ++ top) ++ [47])), .s (st (([100, 47] ++ top) ++ [47]))], List.length ([([109, 47] ++ top) ++ [47], ([100, 47] ++ top) ++ [47]] : List Bytes) = 2]) (s' := AS.lst 10 [(2, vo 9)] [(9, AObj.grow 9 1 Bytes [] AL.Fnv.rowS [([109, 47] ++ top) ++ [47], ([100, 47] ++ top) ++ [47]])]) (by kernel_rfl) ?_ ?_
  · exact ⟨(show List.length ([109, 47] : List UInt8) + List.length top ≤ maxLen from (by simp only [List.length_append, List.length_cons, List.length_nil, maxLen]; omega)), (show List.length ([109, 47] ++ top : List UInt8) + List.length ([47] : List UInt8) ≤ maxLen from (by simp only [List.length_append, List.length_cons, List.length_nil, maxLen]; omega)), (show List.length ([100, 47] : List UInt8) + List.length top ≤ maxLen from (by simp only [List.length_append, List.length_cons, List.length_nil, maxLen]; omega)), (show List.length ([100, 47] ++ top : List UInt8) + List.length ([47] : List UInt8) ≤ maxLen from (by simp only [List.length_append, List.length_cons, List.length_nil, maxLen]; omega)), rfl, rfl⟩
  refine AMx.ent (s' := AS.lst 10 [(2, vc (AL.Fnv.slS [([109, 47] ++ top) ++ [47], ([100, 47] ++ top) ++ [47]]))] []) (ent_freeze (id := 9) (T := 9) (by kernel_rfl)) ?_
  refine AMx.ret ?_
  exact RetP.mk (r := vc (AL.Fnv.slS [([109, 47] ++ top) ++ [47], ([100, 47] ++ top) ++ [47]])) (by kernel_rfl) rfl

theorem f15_body : Tryd.f15.body = some (.seq (.region 0 (rg Tryd.f15 0) false) (.seq (.region 1 (rg Tryd.f15 1) false) (.ret))) := by kernel_rfl

set_option maxRecDepth 100000 in
set_option maxHeartbeats 8000000 in
theorem Cost_c (key : Bytes) (n : Int) (hb : key.length ≤ 100000) : Pure Tryd.prog 15 [tc (st key), tc (i6 n)] (vc (i6 (costS key n))) := by
  refine Pure.of_body Tryd.func15 f15_body (by kernel_rfl) Tryd.ntmps15 (by kernel_rfl) (by kernel_rfl) ?_
  refine AMx.str 0 (b := key) rfl (fun hl => ?_)
  simp only [maxLen] at hl
  refine AMx.seq ?_
  refine AMx.region (ces := []) (ks := [0, 1]) (hs := []) (cs := []) (s' := AS.lst 12 [(0, vc (st key)), (1, vc (i6 n))] []) (by kernel_rfl) ?_ ?_
  · exact trivial
  refine AMx.seq ?_
  refine AMx.region (ces := []) (ks := [4]) (hs := []) (cs := [InR .i64 (36 + (List.length key : Int)), InR .i64 ((36 + (List.length key : Int)) + (max 0 (min n 1048576)))]) (s' := AS.lst 12 [(4, vc (i6 ((36 + (List.length key : Int)) + (max 0 (min n 1048576)))))] []) (by kernel_rfl) ?_ ?_
  · exact ⟨(show InR .i64 (36 + (List.length key : Int)) from (inR64 (by omega) (by omega))), (show InR .i64 ((36 + (List.length key : Int)) + (max 0 (min n 1048576))) from (inR64 (by omega) (by omega)))⟩
  refine AMx.ret ?_
  exact RetP.mk (r := vc (i6 ((36 + (List.length key : Int)) + (max 0 (min n 1048576))))) (by kernel_rfl) (by rw [show costS key n = (36 + (List.length key : Int)) + (max 0 (min n 1048576)) from by unfold costS; omega])

theorem f16_body : Tryd.f16.body = some (.seq (.region 0 (rg Tryd.f16 0) false) (.seq (.seq (.region 1 (rg Tryd.f16 1) false) (.cond (.tmp 6) (.region 2 (rg Tryd.f16 2) false) (.skip))) (.seq (.seq (.region 3 (rg Tryd.f16 3) false) (.cond (.tmp 8) (.region 4 (rg Tryd.f16 4) false) (.skip))) (.seq (.region 5 (rg Tryd.f16 5) false) (.ret))))) := by kernel_rfl

set_option maxRecDepth 100000 in
set_option maxHeartbeats 8000000 in
theorem RCost_c (key : Bytes) (n : Int) (hb : key.length ≤ 100000) : Pure Tryd.prog 16 [tc (st key), tc (i6 n)] (vc (i6 (costS key n))) := by
  refine Pure.of_body Tryd.func16 f16_body (by kernel_rfl) Tryd.ntmps16 (by kernel_rfl) (by kernel_rfl) ?_
  refine AMx.str 0 (b := key) rfl (fun hl => ?_)
  simp only [maxLen] at hl
  refine AMx.seq ?_
  refine AMx.region (ces := []) (ks := [0, 1]) (hs := []) (cs := []) (s' := AS.lst 14 [(0, vc (st key)), (1, vc (i6 n))] []) (by kernel_rfl) ?_ ?_
  · exact trivial
  refine AMx.seq ?_
  refine AMx.seq ?_
  refine AMx.region (ces := []) (ks := [0, 1, 6]) (hs := []) (cs := []) (s' := AS.lst 14 [(0, vc (st key)), (1, vc (i6 n)), (6, vc (bo (decide (n < 0))))] []) (by kernel_rfl) ?_ ?_
  · exact trivial
  refine AMx.cond (b := decide (n < 0)) (by kernel_rfl) (fun hc1 => ?_) (fun hc1 => ?_)
  · try simp only [decide_eq_true_eq, decide_eq_false_iff_not] at hc1
    refine AMx.region (ces := []) (ks := [0, 1]) (hs := []) (cs := []) (s' := AS.lst 14 [(0, vc (st key)), (1, vc (i6 0))] []) (by kernel_rfl) ?_ ?_
    · exact trivial
    refine AMx.seq ?_
    refine AMx.seq ?_
    refine AMx.region (ces := []) (ks := [0, 1, 8]) (hs := []) (cs := []) (s' := AS.lst 14 [(0, vc (st key)), (1, vc (i6 0)), (8, vc (bo false))] []) (by kernel_rfl) ?_ ?_
    · exact trivial
    refine AMx.cond (b := false) (by kernel_rfl) (fun hc2 => ?_) (fun hc2 => ?_)
    · skip
      cases hc2
    · skip
      refine AMx.skip ?_
      refine AMx.seq ?_
      refine AMx.region (ces := []) (ks := [4]) (hs := []) (cs := [InR .i64 (36 + (List.length key : Int)), InR .i64 ((36 + (List.length key : Int)) + 0)]) (s' := AS.lst 14 [(4, vc (i6 ((36 + (List.length key : Int)) + 0)))] []) (by kernel_rfl) ?_ ?_
      · exact ⟨(show InR .i64 (36 + (List.length key : Int)) from (inR64 (by omega) (by omega))), (show InR .i64 ((36 + (List.length key : Int)) + 0) from (inR64 (by omega) (by omega)))⟩
      refine AMx.ret ?_
      exact RetP.mk (r := vc (i6 ((36 + (List.length key : Int)) + 0))) (by kernel_rfl) (by rw [show costS key n = (36 + (List.length key : Int)) + 0 from by unfold costS; omega])
  · try simp only [decide_eq_true_eq, decide_eq_false_iff_not] at hc1
    refine AMx.skip ?_
    refine AMx.seq ?_
    refine AMx.seq ?_
    refine AMx.region (ces := []) (ks := [0, 1, 8]) (hs := []) (cs := []) (s' := AS.lst 14 [(0, vc (st key)), (1, vc (i6 n)), (8, vc (bo (decide (1048576 < n))))] []) (by kernel_rfl) ?_ ?_
    · exact trivial
    refine AMx.cond (b := decide (1048576 < n)) (by kernel_rfl) (fun hc3 => ?_) (fun hc3 => ?_)
    · try simp only [decide_eq_true_eq, decide_eq_false_iff_not] at hc3
      refine AMx.region (ces := []) (ks := [0, 1]) (hs := []) (cs := []) (s' := AS.lst 14 [(0, vc (st key)), (1, vc (i6 1048576))] []) (by kernel_rfl) ?_ ?_
      · exact trivial
      refine AMx.seq ?_
      refine AMx.region (ces := []) (ks := [4]) (hs := []) (cs := [InR .i64 (36 + (List.length key : Int)), InR .i64 ((36 + (List.length key : Int)) + 1048576)]) (s' := AS.lst 14 [(4, vc (i6 ((36 + (List.length key : Int)) + 1048576)))] []) (by kernel_rfl) ?_ ?_
      · exact ⟨(show InR .i64 (36 + (List.length key : Int)) from (inR64 (by omega) (by omega))), (show InR .i64 ((36 + (List.length key : Int)) + 1048576) from (inR64 (by omega) (by omega)))⟩
      refine AMx.ret ?_
      exact RetP.mk (r := vc (i6 ((36 + (List.length key : Int)) + 1048576))) (by kernel_rfl) (by rw [show costS key n = (36 + (List.length key : Int)) + 1048576 from by unfold costS; omega])
    · try simp only [decide_eq_true_eq, decide_eq_false_iff_not] at hc3
      refine AMx.skip ?_
      refine AMx.seq ?_
      refine AMx.region (ces := []) (ks := [4]) (hs := []) (cs := [InR .i64 (36 + (List.length key : Int)), InR .i64 ((36 + (List.length key : Int)) + n)]) (s' := AS.lst 14 [(4, vc (i6 ((36 + (List.length key : Int)) + n)))] []) (by kernel_rfl) ?_ ?_
      · exact ⟨(show InR .i64 (36 + (List.length key : Int)) from (inR64 (by omega) (by omega))), (show InR .i64 ((36 + (List.length key : Int)) + n) from (inR64 (by omega) (by omega)))⟩
      refine AMx.ret ?_
      exact RetP.mk (r := vc (i6 ((36 + (List.length key : Int)) + n))) (by kernel_rfl) (by rw [show costS key n = (36 + (List.length key : Int)) + n from by unfold costS; omega])

theorem f34_body : Tryd.f34.body = some (.seq (.region 0 (rg Tryd.f34 0) false) (.seq (.region 1 (rg Tryd.f34 1) false) (.ret))) := by kernel_rfl

set_option maxRecDepth 100000 in
set_option maxHeartbeats 8000000 in
theorem loose_c  : Pure Tryd.prog 34 [] (AV.t (TV.agg [.s (i6 loose.1), .s (bo loose.2)])) := by
  refine Pure.of_body Tryd.func34 f34_body (by kernel_rfl) Tryd.ntmps34 (by kernel_rfl) (by kernel_rfl) ?_
  refine AMx.seq ?_
  refine AMx.region (ces := []) (ks := [0]) (hs := [0]) (cs := []) (s' := AS.lst 2 [(0, vp 0 0)] [(0, AObj.row [.s (i6 0), .s (bo false)])]) (by kernel_rfl) ?_ ?_
  · exact trivial
  refine AMx.seq ?_
  refine AMx.region (ces := []) (ks := [0]) (hs := [0]) (cs := []) (s' := AS.lst 2 [(0, vp 0 0)] [(0, AObj.row [.s (i6 6), .s (bo false)])]) (by kernel_rfl) ?_ ?_
  · exact trivial
  refine AMx.ret ?_
  exact RetP.mk (r := AV.t (TV.agg [.s (i6 6), .s (bo false)])) (by kernel_rfl) rfl

theorem f35_body : Tryd.f35.body = some (.seq (.region 0 (rg Tryd.f35 0) false) (.seq (.seq (.region 1 (rg Tryd.f35 1) false) (.cond (.tmp 3) (.seq (.region 2 (rg Tryd.f35 2) false) (.ret)) (.skip))) (.seq (.region 3 (rg Tryd.f35 3) false) (.ret)))) := by kernel_rfl

set_option maxRecDepth 100000 in
set_option maxHeartbeats 8000000 in
theorem bit_c (b : Bool) : Pure Tryd.prog 35 [tc (bo b)] (vc (u8 ((bitS b).toNat : Int))) := by
  refine Pure.of_body Tryd.func35 f35_body (by kernel_rfl) Tryd.ntmps35 (by kernel_rfl) (by kernel_rfl) ?_
  refine AMx.seq ?_
  refine AMx.region (ces := []) (ks := [0]) (hs := []) (cs := []) (s' := AS.lst 4 [(0, vc (bo b))] []) (by kernel_rfl) ?_ ?_
  · exact trivial
  refine AMx.seq ?_
  refine AMx.seq ?_
  refine AMx.region (ces := []) (ks := [3]) (hs := []) (cs := []) (s' := AS.lst 4 [(3, vc (bo b))] []) (by kernel_rfl) ?_ ?_
  · exact trivial
  refine AMx.cond (b := b) (by kernel_rfl) (fun hc1 => ?_) (fun hc1 => ?_)
  · try simp only [decide_eq_true_eq, decide_eq_false_iff_not] at hc1
    refine AMx.seq ?_
    refine AMx.region (ces := []) (ks := [2]) (hs := []) (cs := []) (s' := AS.lst 4 [(2, vc (u8 1))] []) (by kernel_rfl) ?_ ?_
    · exact trivial
    refine AMx.ret ?_
    exact RetP.mk (r := vc (u8 1)) (by kernel_rfl) (by rw [hc1]; rfl)
  · try simp only [decide_eq_true_eq, decide_eq_false_iff_not] at hc1
    refine AMx.skip ?_
    refine AMx.seq ?_
    refine AMx.region (ces := []) (ks := [2]) (hs := []) (cs := []) (s' := AS.lst 4 [(2, vc (u8 0))] []) (by kernel_rfl) ?_ ?_
    · exact trivial
    refine AMx.ret ?_
    exact RetP.mk (r := vc (u8 0)) (by kernel_rfl) (by rw [hc1]; rfl)

theorem f24_body : Tryd.f24.body = some (.seq (.region 0 (rg Tryd.f24 0) false) (.seq (.seq (.region 1 (rg Tryd.f24 1) false) (.cond (.tmp 8) (.seq (.region 2 (rg Tryd.f24 2) false) (.ret)) (.skip))) (.seq (.region 3 (rg Tryd.f24 3) false) (.ret)))) := by kernel_rfl

set_option maxRecDepth 100000 in
set_option maxHeartbeats 8000000 in
theorem Length_c (n : Int) : Pure Tryd.prog 24 [tc (i6 n)] (vc (i6 (lengthS n))) := by
  refine Pure.of_body Tryd.func24 f24_body (by kernel_rfl) Tryd.ntmps24 (by kernel_rfl) (by kernel_rfl) ?_
  refine AMx.seq ?_
  refine AMx.region (ces := []) (ks := [0]) (hs := []) (cs := []) (s' := AS.lst 12 [(0, vc (i6 n))] []) (by kernel_rfl) ?_ ?_
  · exact trivial
  refine AMx.seq ?_
  refine AMx.seq ?_
  refine AMx.region (ces := []) (ks := [0, 8]) (hs := []) (cs := [((decide (n < 0)) = false) → allP [], ((decide (n < 0)) = false) → allP [(decide (n < 0)) = false], (decide (n < 0)) = false → allP [(decide (n < 0)) = false]]) (s' := AS.lst 12 [(0, vc (i6 n)), (8, vc (bo ((decide (n < 0)) || (decide (6 < n)))))] []) (by kernel_rfl) ?_ ?_
  · exact ⟨(fun _ => trivial), (fun hp => hp), (fun hp2 => (by first | exact hp2 | exact ⟨hp, hp2⟩))⟩
  refine AMx.cond (b := ((decide (n < 0)) || (decide (6 < n)))) (by kernel_rfl) (fun hc1 => ?_) (fun hc1 => ?_)
  · try simp only [decide_eq_true_eq, decide_eq_false_iff_not, Bool.or_eq_true, Bool.or_eq_false_iff] at hc1
    refine AMx.seq ?_
    refine AMx.region (ces := []) (ks := [2]) (hs := []) (cs := []) (s' := AS.lst 12 [(2, vc (i6 0))] []) (by kernel_rfl) ?_ ?_
    · exact trivial
    refine AMx.ret ?_
    exact RetP.mk (r := vc (i6 0)) (by kernel_rfl) (by rw [show lengthS n = 0 from by unfold lengthS; first | rw [if_pos (by omega)] | rw [if_neg (by omega)]])
  · try simp only [decide_eq_true_eq, decide_eq_false_iff_not, Bool.or_eq_true, Bool.or_eq_false_iff] at hc1
    refine AMx.skip ?_
    refine AMx.seq ?_
    refine AMx.region (ces := []) (ks := [2]) (hs := []) (cs := [InR .i64 (2 * n), InR .i64 (4 + (2 * n))]) (s' := AS.lst 12 [(2, vc (i6 (4 + (2 * n))))] []) (by kernel_rfl) ?_ ?_
    · exact ⟨(show InR .i64 (2 * n) from (inR64 (by omega) (by omega))), (show InR .i64 (4 + (2 * n)) from (inR64 (by omega) (by omega)))⟩
    refine AMx.ret ?_
    exact RetP.mk (r := vc (i6 (4 + (2 * n)))) (by kernel_rfl) (by rw [show lengthS n = 4 + (2 * n) from by unfold lengthS; first | rw [if_pos (by omega)] | rw [if_neg (by omega)]])

theorem f28_body : Tryd.f28.body = some (.seq (.region 0 (rg Tryd.f28 0) false) (.seq (.region 1 (rg Tryd.f28 1) false) (.ret))) := by kernel_rfl

set_option maxRecDepth 100000 in
set_option maxHeartbeats 8000000 in
theorem Begins_c (s t : Bytes) : Pure Tryd.prog 28 [tc (st s), tc (st t)] (vc (bo (hasP s t))) := by
  refine Pure.of_body Tryd.func28 f28_body (by kernel_rfl) Tryd.ntmps28 (by kernel_rfl) (by kernel_rfl) ?_
  refine AMx.seq ?_
  refine AMx.region (ces := []) (ks := [0, 1]) (hs := []) (cs := []) (s' := AS.lst 18 [(0, vc (st s)), (1, vc (st t))] []) (by kernel_rfl) ?_ ?_
  · exact trivial
  refine AMx.seq ?_
  refine AMx.region (ces := []) (ks := [4]) (hs := []) (cs := [((decide ((List.length t : Int) ≤ (List.length s : Int))) = true) → allP [], ((decide ((List.length t : Int) ≤ (List.length s : Int))) = true) → allP [], ((decide ((List.length t : Int) ≤ (List.length s : Int))) = true) → allP [(decide ((List.length t : Int) ≤ (List.length s : Int))) = true], ((decide ((List.length t : Int) ≤ (List.length s : Int))) = true) → allP [(decide ((List.length t : Int) ≤ (List.length s : Int))) = true, (decide ((List.length t : Int) ≤ (List.length s : Int))) = true, 0 ≤ (List.length t : Int), (List.length t : Int) ≤ List.length s], ((decide ((List.length t : Int) ≤ (List.length s : Int))) = true) → allP [], ((decide ((List.length t : Int) ≤ (List.length s : Int))) = true) → allP [(decide ((List.length t : Int) ≤ (List.length s : Int))) = true, (decide ((List.length t : Int) ≤ (List.length s : Int))) = true], (decide ((List.length t : Int) ≤ (List.length s : Int))) = true → allP [(decide ((List.length t : Int) ≤ (List.length s : Int))) = true]]) (s' := AS.lst 18 [(4, vc (bo ((decide ((List.length t : Int) ≤ (List.length s : Int))) && (decide (List.take (List.length t) s = t)))))] []) (by kernel_rfl) ?_ ?_
  · exact ⟨(fun _ => trivial), (fun _ => trivial), (fun hp => hp), (fun hp => by have hq := hp; (try simp only [decide_eq_true_eq, decide_eq_false_iff_not, Bool.and_eq_true, Bool.or_eq_true, Bool.and_eq_false_iff, Bool.or_eq_false_iff, Bool.not_eq_true', Bool.not_eq_false', Bool.not_eq_true, Bool.not_eq_false] at hq); exact ⟨hp, hp, (show 0 ≤ (List.length t : Int) from (by omega)), (show (List.length t : Int) ≤ List.length s from (by omega))⟩), (fun _ => trivial), (fun hp => ⟨hp, hp⟩), (fun hp2 => (by first | exact hp2 | exact ⟨hp, hp2⟩))⟩
  refine AMx.ret ?_
  exact RetP.mk (r := vc (bo ((decide ((List.length t : Int) ≤ (List.length s : Int))) && (decide (List.take (List.length t) s = t))))) (by kernel_rfl) (by rw [begins_eq])

end AL.Rows
