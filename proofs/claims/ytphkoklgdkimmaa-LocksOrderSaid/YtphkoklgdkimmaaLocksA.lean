/- locks: the contracts of its functions, by their walks. No condition. -/
import Derived.Test.YtphkoklgdkimmaaLocksD
import Derived.Test.YtphkoklgdkimmaaGateC
namespace AL.Locks
open Go Go.Proofs AL AL.Fnv AL.Gate
set_option linter.unusedVariables false
set_option linter.unusedSimpArgs false

theorem f51_body : Try.f51.body = some (.seq (.region 0 (rg Try.f51 0) false) (.seq (.seq (.region 1 (rg Try.f51 1) false) (.cond (.tmp 9) (.seq (.region 2 (rg Try.f51 2) false) (.ret)) (.skip))) (.seq (.region 3 (rg Try.f51 3) false) (.ret)))) := by kernel_rfl

set_option maxRecDepth 100000 in
set_option maxHeartbeats 8000000 in
theorem New_c (n : Int) : Pure Try.prog 51 [tc (i6 n)] (AV.tup [TV.agg [.s (slT ((newS n).1))], tc (i6 ((newS n).2))]) := by
  refine Pure.of_body Try.func51 f51_body (by kernel_rfl) Try.ntmps51 (by kernel_rfl) (by kernel_rfl) ?_
  refine AMx.seq ?_
  refine AMx.region (ces := []) (ks := [0, 2]) (hs := [2]) (cs := []) (s' := AS.lst 15 [(0, vc (i6 n)), (2, vp 2 0)] [(2, AObj.row [.s (SC.nilsl)])]) (by kernel_rfl) ?_ ?_
  · exact trivial
  refine AMx.seq ?_
  refine AMx.seq ?_
  refine AMx.region (ces := []) (ks := [0, 2, 9]) (hs := [2]) (cs := [((decide (n < 1)) = false) → allP [], ((decide (n < 1)) = false) → allP [(decide (n < 1)) = false], (decide (n < 1)) = false → allP [(decide (n < 1)) = false]]) (s' := AS.lst 15 [(0, vc (i6 n)), (2, vp 2 0), (9, vc (bo ((decide (n < 1)) || (decide (8 < n)))))] [(2, AObj.row [.s (SC.nilsl)])]) (by kernel_rfl) ?_ ?_
  · exact ⟨(fun _ => trivial), (fun hp => hp), (fun hp2 => (by first | exact hp2 | exact ⟨hp, hp2⟩))⟩
  refine AMx.cond (b := ((decide (n < 1)) || (decide (8 < n)))) (by kernel_rfl) (fun hc1 => ?_) (fun hc1 => ?_)
  · try simp only [decide_eq_true_eq, decide_eq_false_iff_not, Bool.or_eq_true, Bool.or_eq_false_iff] at hc1
    refine AMx.seq ?_
    refine AMx.region (ces := []) (ks := [2, 3]) (hs := [2]) (cs := []) (s' := AS.lst 15 [(2, vp 2 0), (3, vc (i6 2))] [(2, AObj.row [.s (SC.nilsl)])]) (by kernel_rfl) ?_ ?_
    · exact trivial
    refine AMx.ent (ent_row 2 (l := [.s (SC.nilsl)]) (m := [.s (slT [])]) (by kernel_rfl) ⟨AC.le_nil, trivial⟩) ?_
    refine AMx.ret ?_
    exact RetP.mk (r := AV.tup [TV.agg [.s (slT [])], tc (i6 2)]) (by kernel_rfl) (by rw [show newS n = ([], 2) from by unfold newS; first | rw [if_pos (by omega)] | rw [if_neg (by omega)]])
  · try simp only [decide_eq_true_eq, decide_eq_false_iff_not, Bool.or_eq_true, Bool.or_eq_false_iff] at hc1
    refine AMx.skip ?_
    refine AMx.seq ?_
    refine AMx.region (ces := [(2, CE.obj (AObj.grow 44 2 Unit () rowNil (List.replicate (n + 4).toNat ())))]) (ks := [2, 3]) (hs := [2, 13]) (cs := [InR .i64 (n + 4), 0 ≤ n + 4, n + 4 ≤ n + 4, (48 : Int) * (n + 4) ≤ 281474976710656, n + 4 ≤ 9223372036854775807, MakeC (n + 4).toNat [.s (SC.nilsl), .s (SC.nilsl)] (AObj.grow 44 2 Unit () rowNil (List.replicate (n + 4).toNat ()))]) (s' := AS.lst 15 [(2, vp 2 0), (3, vc (i6 0))] [(2, AObj.row [.own 13]), (13, AObj.grow 44 2 Unit () rowNil (List.replicate (n + 4).toNat ()))]) (by kernel_rfl) ?_ ?_
    · exact ⟨(show InR .i64 (n + 4) from (inR64 (by omega) (by omega))), (show 0 ≤ n + 4 from (by omega)), (show n + 4 ≤ n + 4 from (by omega)), (show (48 : Int) * (n + 4) ≤ 281474976710656 from (by omega)), (show n + 4 ≤ 9223372036854775807 from (by omega)), (⟨_, rfl, rfl⟩)⟩
    refine AMx.ent (ent_regrow (T := 44) (k := 2) 13 (d := ()) (d2 := ([], [])) (row := rowNil) (row2 := rowT) (l := List.replicate (n + 4).toNat ()) (l2 := List.replicate (n + 4).toNat ([], [])) (by kernel_rfl) (by simp) nil_le) ?_
    refine AMx.ent (s' := AS.lst 15 [(2, vp 2 0), (3, vc (i6 0))] [(2, AObj.row [.own 13]), (13, AObj.grow 44 2 Gt ([], []) rowT (List.replicate (n + 4).toNat ([], [])))]) (ent_proj [2, 3] [2, 13]) ?_
    refine AMx.ent (s' := AS.lst 15 [(2, vp 2 0), (3, vc (i6 0))] [(2, AObj.row [.s (slT (List.replicate (n + 4).toNat ([], [])))])]) (ent_freeze (id := 13) (T := 44) (by kernel_rfl)) ?_
    refine AMx.ret ?_
    exact RetP.mk (r := AV.tup [TV.agg [.s (slT (List.replicate (n + 4).toNat ([], [])))], tc (i6 0)]) (by kernel_rfl) (by rw [show newS n = (List.replicate (n + 4).toNat ([], []), 0) from by unfold newS; first | rw [if_pos (by omega)] | rw [if_neg (by omega)]])

theorem f52_body : Try.f52.body = some (.seq (.region 0 (rg Try.f52 0) false) (.seq (.seq (.region 1 (rg Try.f52 1) false) (.cond (.tmp 9) (.seq (.region 2 (rg Try.f52 2) false) (.ret)) (.skip))) (.seq (.region 3 (rg Try.f52 3) false) (.ret)))) := by kernel_rfl

set_option maxRecDepth 100000 in
set_option maxHeartbeats 8000000 in
theorem RNew_c (n : Int) : Pure Try.prog 52 [tc (i6 n)] (AV.tup [TV.agg [.s (slT ((newS n).1))], tc (i6 ((newS n).2))]) := by
  refine Pure.of_body Try.func52 f52_body (by kernel_rfl) Try.ntmps52 (by kernel_rfl) (by kernel_rfl) ?_
  refine AMx.seq ?_
  refine AMx.region (ces := []) (ks := [0, 2]) (hs := [2]) (cs := []) (s' := AS.lst 15 [(0, vc (i6 n)), (2, vp 2 0)] [(2, AObj.row [.s (SC.nilsl)])]) (by kernel_rfl) ?_ ?_
  · exact trivial
  refine AMx.seq ?_
  refine AMx.seq ?_
  refine AMx.region (ces := []) (ks := [0, 2, 9]) (hs := [2]) (cs := [((decide (n < 1)) = false) → allP [], ((decide (n < 1)) = false) → allP [(decide (n < 1)) = false], (decide (n < 1)) = false → allP [(decide (n < 1)) = false]]) (s' := AS.lst 15 [(0, vc (i6 n)), (2, vp 2 0), (9, vc (bo ((decide (n < 1)) || (decide (8 < n)))))] [(2, AObj.row [.s (SC.nilsl)])]) (by kernel_rfl) ?_ ?_
  · exact ⟨(fun _ => trivial), (fun hp => hp), (fun hp2 => (by first | exact hp2 | exact ⟨hp, hp2⟩))⟩
  refine AMx.cond (b := ((decide (n < 1)) || (decide (8 < n)))) (by kernel_rfl) (fun hc1 => ?_) (fun hc1 => ?_)
  · try simp only [decide_eq_true_eq, decide_eq_false_iff_not, Bool.or_eq_true, Bool.or_eq_false_iff] at hc1
    refine AMx.seq ?_
    refine AMx.region (ces := []) (ks := [2, 3]) (hs := [2]) (cs := []) (s' := AS.lst 15 [(2, vp 2 0), (3, vc (i6 2))] [(2, AObj.row [.s (SC.nilsl)])]) (by kernel_rfl) ?_ ?_
    · exact trivial
    refine AMx.ent (ent_row 2 (l := [.s (SC.nilsl)]) (m := [.s (slT [])]) (by kernel_rfl) ⟨AC.le_nil, trivial⟩) ?_
    refine AMx.ret ?_
    exact RetP.mk (r := AV.tup [TV.agg [.s (slT [])], tc (i6 2)]) (by kernel_rfl) (by rw [show newS n = ([], 2) from by unfold newS; first | rw [if_pos (by omega)] | rw [if_neg (by omega)]])
  · try simp only [decide_eq_true_eq, decide_eq_false_iff_not, Bool.or_eq_true, Bool.or_eq_false_iff] at hc1
    refine AMx.skip ?_
    refine AMx.seq ?_
    refine AMx.region (ces := [(2, CE.obj (AObj.grow 47 2 Unit () rowNil (List.replicate (n + 4).toNat ())))]) (ks := [2, 3]) (hs := [2, 13]) (cs := [InR .i64 (n + 4), 0 ≤ n + 4, n + 4 ≤ n + 4, (48 : Int) * (n + 4) ≤ 281474976710656, n + 4 ≤ 9223372036854775807, MakeC (n + 4).toNat [.s (SC.nilsl), .s (SC.nilsl)] (AObj.grow 47 2 Unit () rowNil (List.replicate (n + 4).toNat ()))]) (s' := AS.lst 15 [(2, vp 2 0), (3, vc (i6 0))] [(2, AObj.row [.own 13]), (13, AObj.grow 47 2 Unit () rowNil (List.replicate (n + 4).toNat ()))]) (by kernel_rfl) ?_ ?_
    · exact ⟨(show InR .i64 (n + 4) from (inR64 (by omega) (by omega))), (show 0 ≤ n + 4 from (by omega)), (show n + 4 ≤ n + 4 from (by omega)), (show (48 : Int) * (n + 4) ≤ 281474976710656 from (by omega)), (show n + 4 ≤ 9223372036854775807 from (by omega)), (⟨_, rfl, rfl⟩)⟩
    refine AMx.ent (ent_regrow (T := 47) (k := 2) 13 (d := ()) (d2 := ([], [])) (row := rowNil) (row2 := rowT) (l := List.replicate (n + 4).toNat ()) (l2 := List.replicate (n + 4).toNat ([], [])) (by kernel_rfl) (by simp) nil_le) ?_
    refine AMx.ent (s' := AS.lst 15 [(2, vp 2 0), (3, vc (i6 0))] [(2, AObj.row [.own 13]), (13, AObj.grow 47 2 Gt ([], []) rowT (List.replicate (n + 4).toNat ([], [])))]) (ent_proj [2, 3] [2, 13]) ?_
    refine AMx.ent (s' := AS.lst 15 [(2, vp 2 0), (3, vc (i6 0))] [(2, AObj.row [.s (slT (List.replicate (n + 4).toNat ([], [])))])]) (ent_freeze (id := 13) (T := 47) (by kernel_rfl)) ?_
    refine AMx.ret ?_
    exact RetP.mk (r := AV.tup [TV.agg [.s (slT (List.replicate (n + 4).toNat ([], [])))], tc (i6 0)]) (by kernel_rfl) (by rw [show newS n = (List.replicate (n + 4).toNat ([], []), 0) from by unfold newS; first | rw [if_pos (by omega)] | rw [if_neg (by omega)]])

theorem f53_body : Try.f53.body = some (.seq (.region 0 (rg Try.f53 0) false) (.seq (.region 1 (rg Try.f53 1) false) (.ret))) := by kernel_rfl

set_option maxRecDepth 100000 in
set_option maxHeartbeats 8000000 in
theorem TShards_c (t : Tab) : Pure Try.prog 53 [TV.agg [.s (slT t)]] (vc (i6 (max 0 ((List.length t : Int) - 4)))) := by
  refine Pure.of_body Try.func53 f53_body (by kernel_rfl) Try.ntmps53 (by kernel_rfl) (by kernel_rfl) ?_
  refine AMx.celln 0 0 rfl rfl (fun hl => ?_)
  simp only [maxLen] at hl
  refine AMx.seq ?_
  refine AMx.region (ces := []) (ks := [1]) (hs := [1]) (cs := []) (s' := AS.lst 8 [(1, vp 1 0)] [(1, AObj.row [.s (slT t)])]) (by kernel_rfl) ?_ ?_
  · exact trivial
  refine AMx.seq ?_
  refine AMx.region (ces := []) (ks := [2]) (hs := []) (cs := [InR .i64 ((List.length t : Int) - 4)]) (s' := AS.lst 8 [(2, vc (i6 (max 0 ((List.length t : Int) - 4))))] []) (by kernel_rfl) ?_ ?_
  · exact (show InR .i64 ((List.length t : Int) - 4) from (inR64 (by omega) (by omega)))
  refine AMx.ret ?_
  exact RetP.mk (r := vc (i6 (max 0 ((List.length t : Int) - 4)))) (by kernel_rfl) rfl

theorem f101_body : Try.f101.body = some (.seq (.region 0 (rg Try.f101 0) false) (.seq (.region 1 (rg Try.f101 1) false) (.ret))) := by kernel_rfl

set_option maxRecDepth 100000 in
set_option maxHeartbeats 8000000 in
theorem TStore_c (t : Tab) : Pure Try.prog 101 [TV.agg [.s (slT t)]] (vc (i6 (max 0 ((List.length t : Int) - 2)))) := by
  refine Pure.of_body Try.func101 f101_body (by kernel_rfl) Try.ntmps101 (by kernel_rfl) (by kernel_rfl) ?_
  refine AMx.celln 0 0 rfl rfl (fun hl => ?_)
  simp only [maxLen] at hl
  refine AMx.seq ?_
  refine AMx.region (ces := []) (ks := [1]) (hs := [1]) (cs := []) (s' := AS.lst 8 [(1, vp 1 0)] [(1, AObj.row [.s (slT t)])]) (by kernel_rfl) ?_ ?_
  · exact trivial
  refine AMx.seq ?_
  refine AMx.region (ces := []) (ks := [2]) (hs := []) (cs := [InR .i64 ((List.length t : Int) - 2)]) (s' := AS.lst 8 [(2, vc (i6 (max 0 ((List.length t : Int) - 2))))] []) (by kernel_rfl) ?_ ?_
  · exact (show InR .i64 ((List.length t : Int) - 2) from (inR64 (by omega) (by omega)))
  refine AMx.ret ?_
  exact RetP.mk (r := vc (i6 (max 0 ((List.length t : Int) - 2)))) (by kernel_rfl) rfl

theorem f65_body : Try.f65.body = some (.seq (.region 0 (rg Try.f65 0) false) (.seq (.region 1 (rg Try.f65 1) false) (.ret))) := by kernel_rfl

set_option maxRecDepth 100000 in
set_option maxHeartbeats 8000000 in
theorem TCache_c (t : Tab) : Pure Try.prog 65 [TV.agg [.s (slT t)]] (vc (i6 (max 0 ((List.length t : Int) - 1)))) := by
  refine Pure.of_body Try.func65 f65_body (by kernel_rfl) Try.ntmps65 (by kernel_rfl) (by kernel_rfl) ?_
  refine AMx.celln 0 0 rfl rfl (fun hl => ?_)
  simp only [maxLen] at hl
  refine AMx.seq ?_
  refine AMx.region (ces := []) (ks := [1]) (hs := [1]) (cs := []) (s' := AS.lst 8 [(1, vp 1 0)] [(1, AObj.row [.s (slT t)])]) (by kernel_rfl) ?_ ?_
  · exact trivial
  refine AMx.seq ?_
  refine AMx.region (ces := []) (ks := [2]) (hs := []) (cs := [InR .i64 ((List.length t : Int) - 1)]) (s' := AS.lst 8 [(2, vc (i6 (max 0 ((List.length t : Int) - 1))))] []) (by kernel_rfl) ?_ ?_
  · exact (show InR .i64 ((List.length t : Int) - 1) from (inR64 (by omega) (by omega)))
  refine AMx.ret ?_
  exact RetP.mk (r := vc (i6 (max 0 ((List.length t : Int) - 1)))) (by kernel_rfl) rfl

theorem f105_body : Try.f105.body = some (.seq (.region 0 (rg Try.f105 0) false) (.seq (.region 1 (rg Try.f105 1) false) (.ret))) := by kernel_rfl

set_option maxRecDepth 100000 in
set_option maxHeartbeats 8000000 in
theorem has_c (t : Tab) (k : Int) : Pure Try.prog 105 [TV.agg [.s (slT t)], tc (i6 k)] (vc (bo (hasS t k))) := by
  refine Pure.of_body Try.func105 f105_body (by kernel_rfl) Try.ntmps105 (by kernel_rfl) (by kernel_rfl) ?_
  refine AMx.seq ?_
  refine AMx.region (ces := []) (ks := [1, 2]) (hs := [2]) (cs := []) (s' := AS.lst 14 [(1, vc (i6 k)), (2, vp 2 0)] [(2, AObj.row [.s (slT t)])]) (by kernel_rfl) ?_ ?_
  · exact trivial
  refine AMx.seq ?_
  refine AMx.region (ces := []) (ks := [4]) (hs := []) (cs := [((decide (0 ≤ k)) = true) → allP [], ((decide (0 ≤ k)) = true) → allP [], ((decide (0 ≤ k)) = true) → allP [(decide (0 ≤ k)) = true], ((decide (0 ≤ k)) = true) → allP [(decide (0 ≤ k)) = true], ((decide (0 ≤ k)) = true) → allP [(decide (0 ≤ k)) = true, (decide (0 ≤ k)) = true], (decide (0 ≤ k)) = true → allP [(decide (0 ≤ k)) = true]]) (s' := AS.lst 14 [(4, vc (bo ((decide (0 ≤ k)) && (decide (k < (List.length t : Int))))))] []) (by kernel_rfl) ?_ ?_
  · exact ⟨(fun _ => trivial), (fun _ => trivial), (fun hp => hp), (fun hp => hp), (fun hp => ⟨hp, hp⟩), (fun hp2 => (by first | exact hp2 | exact ⟨hp, hp2⟩))⟩
  refine AMx.ret ?_
  exact RetP.mk (r := vc (bo ((decide (0 ≤ k)) && (decide (k < (List.length t : Int)))))) (by kernel_rfl) rfl

theorem f106_body : Try.f106.body = some (.seq (.region 0 (rg Try.f106 0) false) (.seq (.region 1 (rg Try.f106 1) false) (.seq (.region 2 (rg Try.f106 2) false) (.seq (.region 3 (rg Try.f106 3) false) (.seq (.region 4 (rg Try.f106 4) false) (.ret)))))) := by kernel_rfl

set_option maxRecDepth 100000 in
set_option maxHeartbeats 8000000 in
theorem with_c (t : Tab) (k : Int) (g : Gt) (hk : 0 ≤ k ∧ k < (List.length t : Int)) (hb : t.length ≤ 100) : Pure Try.prog 106 [TV.agg [.s (slT t)], tc (i6 k), TV.agg [.s (slO g.1), .s (slO g.2)]] (AV.t (TV.agg [.s (slT (withS t k g))])) := by
  refine Pure.of_body Try.func106 f106_body (by kernel_rfl) Try.ntmps106 (by kernel_rfl) (by kernel_rfl) ?_
  refine AMx.seq ?_
  refine AMx.region (ces := []) (ks := [1, 3, 5, 6]) (hs := [3, 5, 6]) (cs := []) (s' := AS.lst 22 [(1, vc (i6 k)), (3, vp 3 0), (5, vp 5 0), (6, vp 6 0)] [(3, AObj.row [.s (slT t)]), (5, AObj.row [.s (slO g.1), .s (slO g.2)]), (6, AObj.row [.s (SC.nilsl)])]) (by kernel_rfl) ?_ ?_
  · exact trivial
  refine AMx.seq ?_
  refine AMx.region (ces := [(3, CE.obj (AObj.grow 44 2 Unit () rowNil (List.replicate (List.length t) ())))]) (ks := [1, 3, 5, 6, 7]) (hs := [3, 5, 6, 11]) (cs := [0 ≤ (List.length t : Int), (List.length t : Int) ≤ (List.length t : Int), (48 : Int) * (List.length t : Int) ≤ 281474976710656, (List.length t : Int) ≤ 9223372036854775807, MakeC (List.length t) [.s (SC.nilsl), .s (SC.nilsl)] (AObj.grow 44 2 Unit () rowNil (List.replicate (List.length t) ()))]) (s' := AS.lst 22 [(1, vc (i6 k)), (3, vp 3 0), (5, vp 5 0), (6, vp 6 0), (7, vo 11)] [(3, AObj.row [.s (slT t)]), (5, AObj.row [.s (slO g.1), .s (slO g.2)]), (6, AObj.row [.s (SC.nilsl)]), (11, AObj.grow 44 2 Unit () rowNil (List.replicate (List.length t) ()))]) (by kernel_rfl) ?_ ?_
  · exact ⟨(show 0 ≤ (List.length t : Int) from (by omega)), (show (List.length t : Int) ≤ (List.length t : Int) from (by omega)), (show (48 : Int) * (List.length t : Int) ≤ 281474976710656 from (by omega)), (show (List.length t : Int) ≤ 9223372036854775807 from (by omega)), (⟨_, rfl, rfl⟩)⟩
  refine AMx.seq ?_
  refine AMx.region (ces := [(3, CE.obj (AObj.grow 44 2 Gt ([], []) rowT t))]) (ks := [1, 5, 6, 7]) (hs := [5, 6, 11]) (cs := [flat 2 rowT t = flat 2 rowT t, List.length t = List.length t, List.length (List.replicate (List.length t) () : List Unit) = List.length t]) (s' := AS.lst 22 [(1, vc (i6 k)), (5, vp 5 0), (6, vp 6 0), (7, vo 11)] [(5, AObj.row [.s (slO g.1), .s (slO g.2)]), (6, AObj.row [.s (SC.nilsl)]), (11, AObj.grow 44 2 Gt ([], []) rowT t)]) (by kernel_rfl) ?_ ?_
  · exact ⟨rfl, rfl, (show List.length (List.replicate (List.length t) () : List Unit) = List.length t from by simp)⟩
  refine AMx.seq ?_
  refine AMx.region (ces := [(4, CE.obj (AObj.grow 44 2 Gt ([], []) rowT (List.set t (k).toNat g)))]) (ks := [6, 7]) (hs := [6, 11]) (cs := [(0 : Int) ≤ k, k < List.length t, StoreC ((k).toNat) 0 [.s (slO g.1), .s (slO g.2)] (AObj.grow 44 2 Gt ([], []) rowT t) (AObj.grow 44 2 Gt ([], []) rowT (List.set t (k).toNat g))]) (s' := AS.lst 22 [(6, vp 6 0), (7, vo 11)] [(6, AObj.row [.s (SC.nilsl)]), (11, AObj.grow 44 2 Gt ([], []) rowT (List.set t (k).toNat g))]) (by kernel_rfl) ?_ ?_
  · exact ⟨(show (0 : Int) ≤ k from (by omega)), (show k < List.length t from (by omega)), (⟨g, rfl, by omega, rfl⟩)⟩
  refine AMx.seq ?_
  refine AMx.region (ces := []) (ks := [6]) (hs := [6, 11]) (cs := []) (s' := AS.lst 22 [(6, vp 6 0)] [(6, AObj.row [.own 11]), (11, AObj.grow 44 2 Gt ([], []) rowT (List.set t (k).toNat g))]) (by kernel_rfl) ?_ ?_
  · exact trivial
  refine AMx.ent (s' := AS.lst 22 [(6, vp 6 0)] [(6, AObj.row [.s (slT (List.set t (k).toNat g))])]) (ent_freeze (id := 11) (T := 44) (by kernel_rfl)) ?_
  refine AMx.ret ?_
  exact RetP.mk (r := AV.t (TV.agg [.s (slT (List.set t (k).toNat g))])) (by kernel_rfl) rfl

theorem f63_body : Try.f63.body = some (.seq (.region 0 (rg Try.f63 0) false) (.seq (.seq (.region 1 (rg Try.f63 1) false) (.block 0 (.loop (.seq (.region 2 (rg Try.f63 2) false) (.seq (.cond (.tmp 12) (.skip) (.exit 0)) (.seq (.block 1 (.seq (.region 3 (rg Try.f63 3) false) (.seq (.region 4 (rg Try.f63 4) false) (.cond (.tmp 18) (.seq (.region 5 (rg Try.f63 5) false) (.ret)) (.skip))))) (.region 6 (rg Try.f63 6) false))))))) (.seq (.region 7 (rg Try.f63 7) false) (.ret)))) := by kernel_rfl

set_option maxRecDepth 100000 in
set_option maxHeartbeats 8000000 in
theorem TWaits_c (t : Tab) (w : Int) : Pure Try.prog 63 [TV.agg [.s (slT t)], tc (i6 w)] (AV.tup [tc (i6 (max 0 (waitIx t w))), tc (bo (decide (0 ≤ waitIx t w)))]) := by
  refine Pure.of_body Try.func63 f63_body (by kernel_rfl) Try.ntmps63 (by kernel_rfl) (by kernel_rfl) ?_
  refine AMx.celln 0 0 rfl rfl (fun hl => ?_)
  simp only [maxLen] at hl
  refine AMx.seq ?_
  refine AMx.region (ces := []) (ks := [1, 2]) (hs := [2]) (cs := []) (s' := AS.lst 21 [(1, vc (i6 w)), (2, vp 2 0)] [(2, AObj.row [.s (slT t)])]) (by kernel_rfl) ?_ ?_
  · exact trivial
  refine AMx.seq ?_
  refine AMx.seq ?_
  refine AMx.region (ces := []) (ks := [1, 9, 10, 11]) (hs := []) (cs := []) (s' := AS.lst 21 [(1, vc (i6 w)), (9, vc (slT t)), (10, vc (i6 (List.length t : Int))), (11, vc (i6 0))] []) (by kernel_rfl) ?_ ?_
  · exact trivial
  refine AMx.block ?_
  refine AMx.ent (s' := AS.lst 21 [(1, vc (i6 w)), (9, vc (slT t)), (10, vc (i6 (List.length t : Int))), (11, vc (i6 0))] []) (ent_proj [1, 9, 10, 11] []) ?_
  refine AMx.loop (fun mm ss => ∃ (k : Nat), (k ≤ t.length ∧ ∀ x ∈ List.take k t, (fun g : Gt => decide (0 ≤ findS g.2 w)) x = false) ∧ mm = t.length - k ∧ ss = AS.lst 21 [(1, vc (i6 w)), (9, vc (slT t)), (10, vc (i6 (List.length t : Int))), (11, vc (i6 (k : Int)))] []) ⟨0, ?_, rfl, ?_⟩ ?_
  · exact ⟨by omega, fun x hx => by simp at hx⟩
  · rfl
  rintro mm ss ⟨k, ⟨hI, hN⟩, rfl, rfl⟩
  refine AMx.seq ?_
  refine AMx.region (ces := []) (ks := [1, 9, 10, 11, 12]) (hs := []) (cs := []) (s' := AS.lst 21 [(1, vc (i6 w)), (9, vc (slT t)), (10, vc (i6 (List.length t : Int))), (11, vc (i6 (k : Int))), (12, vc (bo (decide ((k : Int) < (List.length t : Int)))))] []) (by kernel_rfl) ?_ ?_
  · exact trivial
  refine AMx.seq ?_
  refine AMx.cond (b := decide ((k : Int) < (List.length t : Int))) (by kernel_rfl) (fun hc1 => ?_) (fun hc1 => ?_)
  · try simp only [decide_eq_true_eq, decide_eq_false_iff_not] at hc1
    refine AMx.skip ?_
    refine AMx.seq ?_
    refine AMx.block ?_
    refine AMx.seq ?_
    refine AMx.region (ces := []) (ks := [1, 6, 7, 9, 10, 11]) (hs := [7]) (cs := [(0 : Int) ≤ (k : Int), (k : Int) < List.length t]) (s' := AS.lst 21 [(1, vc (i6 w)), (6, vc (i6 (k : Int))), (7, vp 7 0), (9, vc (slT t)), (10, vc (i6 (List.length t : Int))), (11, vc (i6 (k : Int)))] [(7, AObj.row [.s (slO ((List.getD t k ([], [])).1)), .s (slO ((List.getD t k ([], [])).2))])]) (by kernel_rfl) ?_ ?_
    · exact ⟨(show (0 : Int) ≤ (k : Int) from (by omega)), (show (k : Int) < List.length t from (by omega))⟩
    refine AMx.seq ?_
    refine AMx.region (ces := [(2, CE.call [] [] (vc (bo (decide (0 ≤ findS (List.getD t k ([], [])).2 w)))) [])]) (ks := [1, 6, 9, 10, 11, 18]) (hs := []) (cs := [Spec Try.prog 39 [TV.agg [.s (slO ((List.getD t k ([], [])).1)), .s (slO ((List.getD t k ([], [])).2))], tc (i6 w)] (ofH []) (vc (bo (decide (0 ≤ findS (List.getD t k ([], [])).2 w)))) (ofH [])]) (s' := AS.lst 21 [(1, vc (i6 w)), (6, vc (i6 (k : Int))), (9, vc (slT t)), (10, vc (i6 (List.length t : Int))), (11, vc (i6 (k : Int))), (18, vc (bo (decide (0 ≤ findS (List.getD t k ([], [])).2 w))))] []) (by kernel_rfl) ?_ ?_
    · exact (Waits_c (List.getD t k ([], [])) w)
    refine AMx.cond (b := decide (0 ≤ findS (List.getD t k ([], [])).2 w)) (by kernel_rfl) (fun hc2 => ?_) (fun hc2 => ?_)
    · try simp only [decide_eq_true_eq, decide_eq_false_iff_not] at hc2
      refine AMx.seq ?_
      refine AMx.region (ces := []) (ks := [4, 5]) (hs := []) (cs := []) (s' := AS.lst 21 [(4, vc (i6 (k : Int))), (5, vc (bo true))] []) (by kernel_rfl) ?_ ?_
      · exact trivial
      refine AMx.ret ?_
      exact RetP.mk (r := AV.tup [tc (i6 (k : Int)), tc (bo true)]) (by kernel_rfl) (by unfold waitIx; rw [AL.Lib.idx_hit (p := (fun g : Gt => decide (0 ≤ findS g.2 w))) ([], []) t k (by omega) hN (decide_eq_true (by assumption)), Int.max_eq_right (by omega), decide_eq_true (by omega)])
    · try simp only [decide_eq_true_eq, decide_eq_false_iff_not] at hc2
      refine AMx.skip ?_
      refine AMx.blk ?_
      refine AMx.region (ces := []) (ks := [1, 9, 10, 11]) (hs := []) (cs := [InR .i64 ((k : Int) + 1)]) (s' := AS.lst 21 [(1, vc (i6 w)), (9, vc (slT t)), (10, vc (i6 (List.length t : Int))), (11, vc (i6 ((k : Int) + 1)))] []) (by kernel_rfl) ?_ ?_
      · exact (show InR .i64 ((k : Int) + 1) from (inR64 (by omega) (by omega)))
      refine AMx.ent_inv (s' := AS.lst 21 [(1, vc (i6 w)), (9, vc (slT t)), (10, vc (i6 (List.length t : Int))), (11, vc (i6 ((k : Int) + 1)))] []) (ent_proj [1, 9, 10, 11] []) ?_
      refine AMx.inv ⟨_, ?_, k + 1, ?_, rfl, ?_⟩
      rotate_left
      · exact ⟨by omega, AL.Lib.all_step (p := (fun g : Gt => decide (0 ≤ findS g.2 w))) ([], []) t k (by omega) hN (decide_eq_false (by assumption))⟩
      · rfl
      · omega
  · try simp only [decide_eq_true_eq, decide_eq_false_iff_not] at hc1
    refine AMx.exit ?_
    refine AMx.code_exit ?_
    refine AMx.inv_exit ?_
    refine AMx.blk_exit ?_
    refine AMx.seq ?_
    refine AMx.region (ces := []) (ks := [4, 5]) (hs := []) (cs := []) (s' := AS.lst 21 [(4, vc (i6 0)), (5, vc (bo false))] []) (by kernel_rfl) ?_ ?_
    · exact trivial
    refine AMx.ret ?_
    exact RetP.mk (r := AV.tup [tc (i6 0), tc (bo false)]) (by kernel_rfl) (by unfold waitIx; rw [AL.Lib.idx_none (p := (fun g : Gt => decide (0 ≤ findS g.2 w))) (fun x hx => hN x (by rwa [List.take_of_length_le (by omega)]))]; rfl)

theorem f108_body : Try.f108.body = some (.seq (.region 0 (rg Try.f108 0) false) (.seq (.seq (.region 1 (rg Try.f108 1) false) (.block 0 (.loop (.seq (.region 2 (rg Try.f108 2) false) (.seq (.cond (.tmp 13) (.skip) (.exit 0)) (.seq (.block 1 (.seq (.region 3 (rg Try.f108 3) false) (.seq (.region 4 (rg Try.f108 4) false) (.cond (.tmp 30) (.seq (.region 5 (rg Try.f108 5) false) (.ret)) (.skip))))) (.region 6 (rg Try.f108 6) false))))))) (.seq (.region 7 (rg Try.f108 7) false) (.ret)))) := by kernel_rfl

set_option maxRecDepth 100000 in
set_option maxHeartbeats 8000000 in
theorem late_c (t : Tab) (w lock : Int) : Pure Try.prog 108 [TV.agg [.s (slT t)], tc (i6 w), tc (i6 lock)] (vc (bo (lateS t w lock))) := by
  refine Pure.of_body Try.func108 f108_body (by kernel_rfl) Try.ntmps108 (by kernel_rfl) (by kernel_rfl) ?_
  refine AMx.celln 0 0 rfl rfl (fun hl => ?_)
  simp only [maxLen] at hl
  refine AMx.seq ?_
  refine AMx.region (ces := []) (ks := [1, 2, 3]) (hs := [3]) (cs := []) (s' := AS.lst 32 [(1, vc (i6 w)), (2, vc (i6 lock)), (3, vp 3 0)] [(3, AObj.row [.s (slT t)])]) (by kernel_rfl) ?_ ?_
  · exact trivial
  refine AMx.seq ?_
  refine AMx.seq ?_
  refine AMx.region (ces := []) (ks := [1, 2, 10, 11, 12]) (hs := []) (cs := []) (s' := AS.lst 32 [(1, vc (i6 w)), (2, vc (i6 lock)), (10, vc (slT t)), (11, vc (i6 (List.length t : Int))), (12, vc (i6 0))] []) (by kernel_rfl) ?_ ?_
  · exact trivial
  refine AMx.block ?_
  refine AMx.ent (s' := AS.lst 32 [(1, vc (i6 w)), (2, vc (i6 lock)), (10, vc (slT t)), (11, vc (i6 (List.length t : Int))), (12, vc (i6 0))] []) (ent_proj [1, 2, 10, 11, 12] []) ?_
  refine AMx.loop (fun mm ss => ∃ (k : Nat), (k ≤ t.length ∧ ∀ i, i < k → late1 t w lock i = false) ∧ mm = t.length - k ∧ ss = AS.lst 32 [(1, vc (i6 w)), (2, vc (i6 lock)), (10, vc (slT t)), (11, vc (i6 (List.length t : Int))), (12, vc (i6 (k : Int)))] []) ⟨0, ?_, rfl, ?_⟩ ?_
  · exact ⟨by omega, fun i hi => by omega⟩
  · rfl
  rintro mm ss ⟨k, ⟨hI, hN⟩, rfl, rfl⟩
  refine AMx.seq ?_
  refine AMx.region (ces := []) (ks := [1, 2, 10, 11, 12, 13]) (hs := []) (cs := []) (s' := AS.lst 32 [(1, vc (i6 w)), (2, vc (i6 lock)), (10, vc (slT t)), (11, vc (i6 (List.length t : Int))), (12, vc (i6 (k : Int))), (13, vc (bo (decide ((k : Int) < (List.length t : Int)))))] []) (by kernel_rfl) ?_ ?_
  · exact trivial
  refine AMx.seq ?_
  refine AMx.cond (b := decide ((k : Int) < (List.length t : Int))) (by kernel_rfl) (fun hc1 => ?_) (fun hc1 => ?_)
  · try simp only [decide_eq_true_eq, decide_eq_false_iff_not] at hc1
    refine AMx.skip ?_
    refine AMx.seq ?_
    refine AMx.block ?_
    refine AMx.seq ?_
    refine AMx.region (ces := []) (ks := [1, 2, 7, 8, 10, 11, 12]) (hs := [8]) (cs := [(0 : Int) ≤ (k : Int), (k : Int) < List.length t]) (s' := AS.lst 32 [(1, vc (i6 w)), (2, vc (i6 lock)), (7, vc (i6 (k : Int))), (8, vp 8 0), (10, vc (slT t)), (11, vc (i6 (List.length t : Int))), (12, vc (i6 (k : Int)))] [(8, AObj.row [.s (slO ((List.getD t k ([], [])).1)), .s (slO ((List.getD t k ([], [])).2))])]) (by kernel_rfl) ?_ ?_
    · exact ⟨(show (0 : Int) ≤ (k : Int) from (by omega)), (show (k : Int) < List.length t from (by omega))⟩
    refine AMx.seq ?_
    refine AMx.region (ces := [(2, CE.call [] [] (vc (bo (decide (0 ≤ findS (List.getD t k ([], [])).2 w)))) []), (10, CE.call [] [] (vc (u8 (modeS (List.getD t k ([], [])).1 w))) [])]) (ks := [1, 2, 10, 11, 12, 30]) (hs := []) (cs := [Spec Try.prog 39 [TV.agg [.s (slO ((List.getD t k ([], [])).1)), .s (slO ((List.getD t k ([], [])).2))], tc (i6 w)] (ofH []) (vc (bo (decide (0 ≤ findS (List.getD t k ([], [])).2 w)))) (ofH []), ((decide (0 ≤ findS (List.getD t k ([], [])).2 w)) = false) → allP [], ((decide (0 ≤ findS (List.getD t k ([], [])).2 w)) = false) → allP [], ((decide (0 ≤ findS (List.getD t k ([], [])).2 w)) = false) → allP [(decide (0 ≤ findS (List.getD t k ([], [])).2 w)) = false, (decide (0 ≤ findS (List.getD t k ([], [])).2 w)) = false], ((decide (0 ≤ findS (List.getD t k ([], [])).2 w)) = false) → allP [(decide (0 ≤ findS (List.getD t k ([], [])).2 w)) = false], (((decide (0 ≤ findS (List.getD t k ([], [])).2 w)) = false) ∧ (decide (lock ≤ (k : Int))) = true) → allP [], (((decide (0 ≤ findS (List.getD t k ([], [])).2 w)) = false) ∧ (decide (lock ≤ (k : Int))) = true) → allP [], (((decide (0 ≤ findS (List.getD t k ([], [])).2 w)) = false) ∧ (decide (lock ≤ (k : Int))) = true) → allP [((decide (0 ≤ findS (List.getD t k ([], [])).2 w)) = false) ∧ (decide (lock ≤ (k : Int))) = true, ((decide (0 ≤ findS (List.getD t k ([], [])).2 w)) = false) ∧ (decide (lock ≤ (k : Int))) = true, Spec Try.prog 38 [TV.agg [.s (slO ((List.getD t k ([], [])).1)), .s (slO ((List.getD t k ([], [])).2))], tc (i6 w)] (ofH []) (vc (u8 (modeS (List.getD t k ([], [])).1 w))) (ofH [])], (((decide (0 ≤ findS (List.getD t k ([], [])).2 w)) = false) ∧ (decide (lock ≤ (k : Int))) = true) → allP [((decide (0 ≤ findS (List.getD t k ([], [])).2 w)) = false) ∧ (decide (lock ≤ (k : Int))) = true], ((decide (0 ≤ findS (List.getD t k ([], [])).2 w)) = false) → allP [(decide (0 ≤ findS (List.getD t k ([], [])).2 w)) = false, (decide (lock ≤ (k : Int))) = true → allP [((decide (0 ≤ findS (List.getD t k ([], [])).2 w)) = false) ∧ (decide (lock ≤ (k : Int))) = true]], (decide (0 ≤ findS (List.getD t k ([], [])).2 w)) = false → allP [(decide (0 ≤ findS (List.getD t k ([], [])).2 w)) = false]]) (s' := AS.lst 32 [(1, vc (i6 w)), (2, vc (i6 lock)), (10, vc (slT t)), (11, vc (i6 (List.length t : Int))), (12, vc (i6 (k : Int))), (30, vc (bo ((decide (0 ≤ findS (List.getD t k ([], [])).2 w)) || ((decide (lock ≤ (k : Int))) && (!decide (modeS (List.getD t k ([], [])).1 w = 0))))))] []) (by kernel_rfl) ?_ ?_
    · exact ⟨(Waits_c (List.getD t k ([], [])) w), (fun _ => trivial), (fun _ => trivial), (fun hp => ⟨hp, hp⟩), (fun hp => hp), (fun _ => trivial), (fun _ => trivial), (fun hp => by have hq := hp; (try simp only [decide_eq_true_eq, decide_eq_false_iff_not, Bool.and_eq_true, Bool.or_eq_true, Bool.and_eq_false_iff, Bool.or_eq_false_iff, Bool.not_eq_true', Bool.not_eq_false', Bool.not_eq_true, Bool.not_eq_false] at hq); exact ⟨hp, hp, (Holds_c (List.getD t k ([], [])) w)⟩), (fun hp => hp), (fun hp => by have hq := hp; (try simp only [decide_eq_true_eq, decide_eq_false_iff_not, Bool.and_eq_true, Bool.or_eq_true, Bool.and_eq_false_iff, Bool.or_eq_false_iff, Bool.not_eq_true', Bool.not_eq_false', Bool.not_eq_true, Bool.not_eq_false] at hq); exact ⟨hp, (fun hp2 => (by first | exact hp2 | exact ⟨hp, hp2⟩))⟩), (fun hp2 => (by first | exact hp2 | exact ⟨hp, hp2⟩))⟩
    refine AMx.cond (b := ((decide (0 ≤ findS (List.getD t k ([], [])).2 w)) || ((decide (lock ≤ (k : Int))) && (!decide (modeS (List.getD t k ([], [])).1 w = 0))))) (by kernel_rfl) (fun hc2 => ?_) (fun hc2 => ?_)
    · try simp only [decide_eq_true_eq, decide_eq_false_iff_not, Bool.and_eq_true, Bool.and_eq_false_iff, Bool.or_eq_true, Bool.or_eq_false_iff, Bool.not_eq_true', Bool.not_eq_false'] at hc2
      refine AMx.seq ?_
      refine AMx.region (ces := []) (ks := [6]) (hs := []) (cs := []) (s' := AS.lst 32 [(6, vc (bo true))] []) (by kernel_rfl) ?_ ?_
      · exact trivial
      refine AMx.ret ?_
      exact RetP.mk (r := vc (bo true)) (by kernel_rfl) (by rw [late_t (i := k) (by omega) (by unfold late1; simp only [Bool.or_eq_true, Bool.and_eq_true, decide_eq_true_eq, Bool.not_eq_true', decide_eq_false_iff_not]; exact hc2)])
    · try simp only [decide_eq_true_eq, decide_eq_false_iff_not, Bool.and_eq_true, Bool.and_eq_false_iff, Bool.or_eq_true, Bool.or_eq_false_iff, Bool.not_eq_true', Bool.not_eq_false'] at hc2
      refine AMx.skip ?_
      refine AMx.blk ?_
      refine AMx.region (ces := []) (ks := [1, 2, 10, 11, 12]) (hs := []) (cs := [InR .i64 ((k : Int) + 1)]) (s' := AS.lst 32 [(1, vc (i6 w)), (2, vc (i6 lock)), (10, vc (slT t)), (11, vc (i6 (List.length t : Int))), (12, vc (i6 ((k : Int) + 1)))] []) (by kernel_rfl) ?_ ?_
      · exact (show InR .i64 ((k : Int) + 1) from (inR64 (by omega) (by omega)))
      refine AMx.ent_inv (s' := AS.lst 32 [(1, vc (i6 w)), (2, vc (i6 lock)), (10, vc (slT t)), (11, vc (i6 (List.length t : Int))), (12, vc (i6 ((k : Int) + 1)))] []) (ent_proj [1, 2, 10, 11, 12] []) ?_
      refine AMx.inv ⟨_, ?_, k + 1, ?_, rfl, ?_⟩
      rotate_left
      · refine ⟨by omega, late_step hN ?_⟩; unfold late1; simp only [Bool.or_eq_false_iff, Bool.and_eq_false_iff, decide_eq_false_iff_not, Bool.not_eq_false', decide_eq_true_eq]; exact hc2
      · rfl
      · omega
  · try simp only [decide_eq_true_eq, decide_eq_false_iff_not] at hc1
    refine AMx.exit ?_
    refine AMx.code_exit ?_
    refine AMx.inv_exit ?_
    refine AMx.blk_exit ?_
    refine AMx.seq ?_
    refine AMx.region (ces := []) (ks := [6]) (hs := []) (cs := []) (s' := AS.lst 32 [(6, vc (bo false))] []) (by kernel_rfl) ?_ ?_
    · exact trivial
    refine AMx.ret ?_
    exact RetP.mk (r := vc (bo false)) (by kernel_rfl) (by rw [late_f (fun i hi => hN i (by omega))])

theorem f64_body : Try.f64.body = some (.seq (.region 0 (rg Try.f64 0) false) (.seq (.region 1 (rg Try.f64 1) false) (.seq (.seq (.region 2 (rg Try.f64 2) false) (.block 0 (.loop (.seq (.region 3 (rg Try.f64 3) false) (.seq (.cond (.tmp 12) (.skip) (.exit 0)) (.seq (.block 1 (.seq (.region 4 (rg Try.f64 4) false) (.seq (.region 5 (rg Try.f64 5) false) (.cond (.tmp 19) (.region 6 (rg Try.f64 6) false) (.skip))))) (.region 7 (rg Try.f64 7) false))))))) (.seq (.region 8 (rg Try.f64 8) false) (.ret))))) := by kernel_rfl

set_option maxRecDepth 100000 in
set_option maxHeartbeats 8000000 in
theorem THeld_c (t : Tab) (w : Int) (hb : t.length ≤ 100) : Pure Try.prog 64 [TV.agg [.s (slT t)], tc (i6 w)] (vc (slI (heldS t w t.length))) := by
  refine Pure.of_body Try.func64 f64_body (by kernel_rfl) Try.ntmps64 (by kernel_rfl) (by kernel_rfl) ?_
  refine AMx.seq ?_
  refine AMx.region (ces := []) (ks := [1, 2]) (hs := [2]) (cs := []) (s' := AS.lst 26 [(1, vc (i6 w)), (2, vp 2 0)] [(2, AObj.row [.s (slT t)])]) (by kernel_rfl) ?_ ?_
  · exact trivial
  refine AMx.seq ?_
  refine AMx.region (ces := []) (ks := [1, 2, 5]) (hs := [2]) (cs := []) (s' := AS.lst 26 [(1, vc (i6 w)), (2, vp 2 0), (5, vc (SC.nilsl))] [(2, AObj.row [.s (slT t)])]) (by kernel_rfl) ?_ ?_
  · exact trivial
  refine AMx.seq ?_
  refine AMx.seq ?_
  refine AMx.region (ces := []) (ks := [1, 5, 9, 10, 11]) (hs := []) (cs := []) (s' := AS.lst 26 [(1, vc (i6 w)), (5, vc (SC.nilsl)), (9, vc (slT t)), (10, vc (i6 (List.length t : Int))), (11, vc (i6 0))] []) (by kernel_rfl) ?_ ?_
  · exact trivial
  refine AMx.block ?_
  refine AMx.ent (s' := AS.lst 26 [(1, vc (i6 w)), (5, vo 5), (9, vc (slT t)), (10, vc (i6 (List.length t : Int))), (11, vc (i6 0))] [(5, AObj.grow 3 1 Int 0 rowI [])]) (ent_adopt (t := 5) (d := 5) 3 1 Int 0 rowI (by kernel_rfl) (by kernel_rfl) (by kernel_rfl) (by kernel_rfl)) ?_
  refine AMx.ent (s' := AS.lst 26 [(1, vc (i6 w)), (5, vo 5), (9, vc (slT t)), (10, vc (i6 (List.length t : Int))), (11, vc (i6 0))] [(5, AObj.grow 3 1 Int 0 rowI [])]) (ent_proj [1, 5, 9, 10, 11] [5]) ?_
  refine AMx.loop (fun mm ss => ∃ (k : Nat), (k ≤ t.length) ∧ mm = t.length - k ∧ ss = AS.lst 26 [(1, vc (i6 w)), (5, vo 5), (9, vc (slT t)), (10, vc (i6 (List.length t : Int))), (11, vc (i6 (k : Int)))] [(5, AObj.grow 3 1 Int 0 rowI (heldS t w k))]) ⟨0, ?_, rfl, ?_⟩ ?_
  · omega
  · rfl
  rintro mm ss ⟨k, hI, rfl, rfl⟩
  refine AMx.seq ?_
  refine AMx.region (ces := []) (ks := [1, 5, 9, 10, 11, 12]) (hs := [5]) (cs := []) (s' := AS.lst 26 [(1, vc (i6 w)), (5, vo 5), (9, vc (slT t)), (10, vc (i6 (List.length t : Int))), (11, vc (i6 (k : Int))), (12, vc (bo (decide ((k : Int) < (List.length t : Int)))))] [(5, AObj.grow 3 1 Int 0 rowI (heldS t w k))]) (by kernel_rfl) ?_ ?_
  · exact trivial
  refine AMx.seq ?_
  refine AMx.cond (b := decide ((k : Int) < (List.length t : Int))) (by kernel_rfl) (fun hc1 => ?_) (fun hc1 => ?_)
  · try simp only [decide_eq_true_eq, decide_eq_false_iff_not] at hc1
    refine AMx.skip ?_
    refine AMx.seq ?_
    refine AMx.block ?_
    refine AMx.seq ?_
    refine AMx.region (ces := []) (ks := [1, 5, 6, 7, 9, 10, 11]) (hs := [5, 7]) (cs := [(0 : Int) ≤ (k : Int), (k : Int) < List.length t]) (s' := AS.lst 26 [(1, vc (i6 w)), (5, vo 5), (6, vc (i6 (k : Int))), (7, vp 7 0), (9, vc (slT t)), (10, vc (i6 (List.length t : Int))), (11, vc (i6 (k : Int)))] [(5, AObj.grow 3 1 Int 0 rowI (heldS t w k)), (7, AObj.row [.s (slO ((List.getD t k ([], [])).1)), .s (slO ((List.getD t k ([], [])).2))])]) (by kernel_rfl) ?_ ?_
    · exact ⟨(show (0 : Int) ≤ (k : Int) from (by first | omega | (have hh := held_len t w k; omega))), (show (k : Int) < List.length t from (by first | omega | (have hh := held_len t w k; omega)))⟩
    refine AMx.seq ?_
    refine AMx.region (ces := [(2, CE.call [] [] (vc (u8 (modeS (List.getD t k ([], [])).1 w))) [])]) (ks := [1, 5, 6, 9, 10, 11, 19]) (hs := [5]) (cs := [Spec Try.prog 38 [TV.agg [.s (slO ((List.getD t k ([], [])).1)), .s (slO ((List.getD t k ([], [])).2))], tc (i6 w)] (ofH []) (vc (u8 (modeS (List.getD t k ([], [])).1 w))) (ofH [])]) (s' := AS.lst 26 [(1, vc (i6 w)), (5, vo 5), (6, vc (i6 (k : Int))), (9, vc (slT t)), (10, vc (i6 (List.length t : Int))), (11, vc (i6 (k : Int))), (19, vc (bo (!decide (modeS (List.getD t k ([], [])).1 w = 0))))] [(5, AObj.grow 3 1 Int 0 rowI (heldS t w k))]) (by kernel_rfl) ?_ ?_
    · exact (Holds_c (List.getD t k ([], [])) w)
    refine AMx.cond (b := !decide (modeS (List.getD t k ([], [])).1 w = 0)) (by kernel_rfl) (fun hc2 => ?_) (fun hc2 => ?_)
    · try simp only [decide_eq_true_eq, decide_eq_false_iff_not, Bool.not_eq_true', Bool.not_eq_false'] at hc2
      refine AMx.region (ces := [(2, CE.obj (AObj.grow 3 1 Int 0 rowI [(k : Int)])), (3, CE.obj (AObj.grow 3 1 Int 0 rowI ((heldS t w k) ++ [(k : Int)])))]) (ks := [1, 5, 9, 10, 11]) (hs := [23]) (cs := [flat 1 rowI [(k : Int)] = [.s (i6 (k : Int))], List.length ([(k : Int)] : List Int) = 1, AppC (flat 1 rowI [(k : Int)]) (List.length ([(k : Int)] : List Int)) 8 (AObj.grow 3 1 Int 0 rowI (heldS t w k)) (AObj.grow 3 1 Int 0 rowI ((heldS t w k) ++ [(k : Int)]))]) (s' := AS.lst 26 [(1, vc (i6 w)), (5, vo 23), (9, vc (slT t)), (10, vc (i6 (List.length t : Int))), (11, vc (i6 (k : Int)))] [(23, AObj.grow 3 1 Int 0 rowI ((heldS t w k) ++ [(k : Int)]))]) (by kernel_rfl) ?_ ?_
      · exact ⟨rfl, rfl, (⟨_, rfl, rfl, rfl, by have hh := held_len t w k; simp only [List.length_cons, List.length_nil]; omega, by have hh := held_len t w k; simp only [maxLen, List.length_cons, List.length_nil]; omega⟩)⟩
      refine AMx.blk ?_
      refine AMx.region (ces := []) (ks := [1, 5, 9, 10, 11]) (hs := [23]) (cs := [InR .i64 ((k : Int) + 1)]) (s' := AS.lst 26 [(1, vc (i6 w)), (5, vo 23), (9, vc (slT t)), (10, vc (i6 (List.length t : Int))), (11, vc (i6 ((k : Int) + 1)))] [(23, AObj.grow 3 1 Int 0 rowI ((heldS t w k) ++ [(k : Int)]))]) (by kernel_rfl) ?_ ?_
      · exact (show InR .i64 ((k : Int) + 1) from (inR64 (by first | omega | (have hh := held_len t w k; omega)) (by first | omega | (have hh := held_len t w k; omega))))
      refine AMx.ent_inv (s' := AS.lst 26 [(1, vc (i6 w)), (5, vo 5), (9, vc (slT t)), (10, vc (i6 (List.length t : Int))), (11, vc (i6 ((k : Int) + 1)))] [(5, AObj.grow 3 1 Int 0 rowI ((heldS t w k) ++ [(k : Int)]))]) (ent_swap 23 5 (by kernel_rfl) (by kernel_rfl)) ?_
      refine AMx.ent_inv (s' := AS.lst 26 [(1, vc (i6 w)), (5, vo 5), (9, vc (slT t)), (10, vc (i6 (List.length t : Int))), (11, vc (i6 ((k : Int) + 1)))] [(5, AObj.grow 3 1 Int 0 rowI ((heldS t w k) ++ [(k : Int)]))]) (ent_proj [1, 5, 9, 10, 11] [5]) ?_
      refine AMx.inv ⟨_, ?_, k + 1, ?_, rfl, ?_⟩
      rotate_left
      · omega
      · rw [held_t t w k (by assumption)]; rfl
      · omega
    · try simp only [decide_eq_true_eq, decide_eq_false_iff_not, Bool.not_eq_true', Bool.not_eq_false'] at hc2
      refine AMx.skip ?_
      refine AMx.blk ?_
      refine AMx.region (ces := []) (ks := [1, 5, 9, 10, 11]) (hs := [5]) (cs := [InR .i64 ((k : Int) + 1)]) (s' := AS.lst 26 [(1, vc (i6 w)), (5, vo 5), (9, vc (slT t)), (10, vc (i6 (List.length t : Int))), (11, vc (i6 ((k : Int) + 1)))] [(5, AObj.grow 3 1 Int 0 rowI (heldS t w k))]) (by kernel_rfl) ?_ ?_
      · exact (show InR .i64 ((k : Int) + 1) from (inR64 (by first | omega | (have hh := held_len t w k; omega)) (by first | omega | (have hh := held_len t w k; omega))))
      refine AMx.ent_inv (s' := AS.lst 26 [(1, vc (i6 w)), (5, vo 5), (9, vc (slT t)), (10, vc (i6 (List.length t : Int))), (11, vc (i6 ((k : Int) + 1)))] [(5, AObj.grow 3 1 Int 0 rowI (heldS t w k))]) (ent_proj [1, 5, 9, 10, 11] [5]) ?_
      refine AMx.inv ⟨_, ?_, k + 1, ?_, rfl, ?_⟩
      rotate_left
      · omega
      · rw [held_f t w k (by assumption)]; rfl
      · omega
  · try simp only [decide_eq_true_eq, decide_eq_false_iff_not] at hc1
    refine AMx.exit ?_
    refine AMx.code_exit ?_
    refine AMx.inv_exit ?_
    refine AMx.blk_exit ?_
    refine AMx.seq ?_
    refine AMx.region (ces := []) (ks := [4]) (hs := [5]) (cs := []) (s' := AS.lst 26 [(4, vo 5)] [(5, AObj.grow 3 1 Int 0 rowI (heldS t w k))]) (by kernel_rfl) ?_ ?_
    · exact trivial
    refine AMx.ent (s' := AS.lst 26 [(4, vc (slI (heldS t w k)))] []) (ent_freeze (id := 5) (T := 3) (by kernel_rfl)) ?_
    refine AMx.ret ?_
    exact RetP.mk (r := vc (slI (heldS t w k))) (by kernel_rfl) (by rw [show k = t.length by omega])

end AL.Locks
