/- secret: the contracts of its functions, by their walks. No condition. -/
import Derived.Test.YtfdappjogpngiaaDoorSecretD
import Derived.Test.YtfdappjogpngiaaDoorFnvD
namespace AL.Secret
open Go Go.Proofs AL AL.Fnv
set_option linter.unusedVariables false
set_option linter.unusedSimpArgs false

theorem f46_body : Tryd.f46.body = some (.seq (.region 0 (rg Tryd.f46 0) false) (.seq (.region 1 (rg Tryd.f46 1) false) (.ret))) := by kernel_rfl

set_option maxRecDepth 100000 in
set_option maxHeartbeats 8000000 in
theorem within_c (n lo hi : Int) : Pure Tryd.prog 46 [tc (i6 n), tc (i6 lo), tc (i6 hi)] (vc (bo (decide (lo ≤ n) && decide (n ≤ hi)))) := by
  refine Pure.of_body Tryd.func46 f46_body (by kernel_rfl) Tryd.ntmps46 (by kernel_rfl) (by kernel_rfl) ?_
  refine AMx.seq ?_
  refine AMx.region (ces := []) (ks := [0, 1, 2]) (hs := []) (cs := []) (s' := AS.lst 15 [(0, vc (i6 n)), (1, vc (i6 lo)), (2, vc (i6 hi))] []) (by kernel_rfl) ?_ ?_
  · exact trivial
  refine AMx.seq ?_
  refine AMx.region (ces := []) (ks := [6]) (hs := []) (cs := [((decide (lo ≤ n)) = true) → allP [], ((decide (lo ≤ n)) = true) → allP [], ((decide (lo ≤ n)) = true) → allP [(decide (lo ≤ n)) = true, (decide (lo ≤ n)) = true], (decide (lo ≤ n)) = true → allP [(decide (lo ≤ n)) = true]]) (s' := AS.lst 15 [(6, vc (bo ((decide (lo ≤ n)) && (decide (n ≤ hi)))))] []) (by kernel_rfl) ?_ ?_
  · exact ⟨(fun _ => trivial), (fun _ => trivial), (fun hp => ⟨hp, hp⟩), (fun hp2 => (by first | exact hp2 | exact ⟨hp, hp2⟩))⟩
  refine AMx.ret ?_
  exact RetP.mk (r := vc (bo ((decide (lo ≤ n)) && (decide (n ≤ hi))))) (by kernel_rfl) rfl

theorem f47_body : Tryd.f47.body = some (.seq (.region 0 (rg Tryd.f47 0) false) (.seq (.seq (.region 1 (rg Tryd.f47 1) false) (.cond (.tmp 7) (.seq (.region 2 (rg Tryd.f47 2) false) (.ret)) (.skip))) (.seq (.region 3 (rg Tryd.f47 3) false) (.ret)))) := by kernel_rfl

set_option maxRecDepth 100000 in
set_option maxHeartbeats 8000000 in
theorem keeps_c (s : Sec) (r : Rul) : Pure Tryd.prog 47 [TV.agg [.s (i6 s.1), .s (bo s.2.1), .s (i6 s.2.2.1), .s (slR s.2.2.2)], TV.agg [.s (i6 r.1), .s (bo r.2)]] (vc (i6 (keepS s r))) := by
  refine Pure.of_body Tryd.func47 f47_body (by kernel_rfl) Tryd.ntmps47 (by kernel_rfl) (by kernel_rfl) ?_
  refine AMx.seq ?_
  refine AMx.region (ces := []) (ks := [2, 3]) (hs := [2, 3]) (cs := []) (s' := AS.lst 12 [(2, vp 2 0), (3, vp 3 0)] [(2, AObj.row [.s (i6 s.1), .s (bo s.2.1), .s (i6 s.2.2.1), .s (slR s.2.2.2)]), (3, AObj.row [.s (i6 r.1), .s (bo r.2)])]) (by kernel_rfl) ?_ ?_
  · exact trivial
  refine AMx.seq ?_
  refine AMx.seq ?_
  refine AMx.region (ces := []) (ks := [2, 3, 7]) (hs := [2, 3]) (cs := []) (s' := AS.lst 12 [(2, vp 2 0), (3, vp 3 0), (7, vc (bo (decide (s.1 = 0))))] [(2, AObj.row [.s (i6 s.1), .s (bo s.2.1), .s (i6 s.2.2.1), .s (slR s.2.2.2)]), (3, AObj.row [.s (i6 r.1), .s (bo r.2)])]) (by kernel_rfl) ?_ ?_
  · exact trivial
  refine AMx.cond (b := decide (s.1 = 0)) (by kernel_rfl) (fun hc1 => ?_) (fun hc1 => ?_)
  · try simp only [decide_eq_true_eq, decide_eq_false_iff_not] at hc1
    refine AMx.seq ?_
    refine AMx.region (ces := []) (ks := [4]) (hs := []) (cs := []) (s' := AS.lst 12 [(4, vc (i6 r.1))] []) (by kernel_rfl) ?_ ?_
    · exact trivial
    refine AMx.ret ?_
    exact RetP.mk (r := vc (i6 r.1)) (by kernel_rfl) (by rw [show keepS s r = r.1 from by unfold keepS; first | rw [if_pos (by assumption)] | rw [if_neg (by assumption)]])
  · try simp only [decide_eq_true_eq, decide_eq_false_iff_not] at hc1
    refine AMx.skip ?_
    refine AMx.seq ?_
    refine AMx.region (ces := []) (ks := [4]) (hs := []) (cs := []) (s' := AS.lst 12 [(4, vc (i6 s.1))] []) (by kernel_rfl) ?_ ?_
    · exact trivial
    refine AMx.ret ?_
    exact RetP.mk (r := vc (i6 s.1)) (by kernel_rfl) (by rw [show keepS s r = s.1 from by unfold keepS; first | rw [if_pos (by assumption)] | rw [if_neg (by assumption)]])

theorem f50_body : Tryd.f50.body = some (.seq (.region 0 (rg Tryd.f50 0) false) (.seq (.seq (.region 1 (rg Tryd.f50 1) false) (.cond (.tmp 7) (.seq (.region 2 (rg Tryd.f50 2) false) (.ret)) (.skip))) (.seq (.region 3 (rg Tryd.f50 3) false) (.ret)))) := by kernel_rfl

set_option maxRecDepth 100000 in
set_option maxHeartbeats 8000000 in
theorem RKeeps_c (s : Sec) (r : Rul) : Pure Tryd.prog 50 [TV.agg [.s (i6 s.1), .s (bo s.2.1), .s (i6 s.2.2.1), .s (slR s.2.2.2)], TV.agg [.s (i6 r.1), .s (bo r.2)]] (vc (i6 (keepS s r))) := by
  refine Pure.of_body Tryd.func50 f50_body (by kernel_rfl) Tryd.ntmps50 (by kernel_rfl) (by kernel_rfl) ?_
  refine AMx.seq ?_
  refine AMx.region (ces := []) (ks := [2, 3]) (hs := [2, 3]) (cs := []) (s' := AS.lst 12 [(2, vp 2 0), (3, vp 3 0)] [(2, AObj.row [.s (i6 s.1), .s (bo s.2.1), .s (i6 s.2.2.1), .s (slR s.2.2.2)]), (3, AObj.row [.s (i6 r.1), .s (bo r.2)])]) (by kernel_rfl) ?_ ?_
  · exact trivial
  refine AMx.seq ?_
  refine AMx.seq ?_
  refine AMx.region (ces := []) (ks := [2, 3, 7]) (hs := [2, 3]) (cs := []) (s' := AS.lst 12 [(2, vp 2 0), (3, vp 3 0), (7, vc (bo (decide (s.1 = 0))))] [(2, AObj.row [.s (i6 s.1), .s (bo s.2.1), .s (i6 s.2.2.1), .s (slR s.2.2.2)]), (3, AObj.row [.s (i6 r.1), .s (bo r.2)])]) (by kernel_rfl) ?_ ?_
  · exact trivial
  refine AMx.cond (b := decide (s.1 = 0)) (by kernel_rfl) (fun hc1 => ?_) (fun hc1 => ?_)
  · try simp only [decide_eq_true_eq, decide_eq_false_iff_not] at hc1
    refine AMx.seq ?_
    refine AMx.region (ces := []) (ks := [4]) (hs := []) (cs := []) (s' := AS.lst 12 [(4, vc (i6 r.1))] []) (by kernel_rfl) ?_ ?_
    · exact trivial
    refine AMx.ret ?_
    exact RetP.mk (r := vc (i6 r.1)) (by kernel_rfl) (by rw [show keepS s r = r.1 from by unfold keepS; first | rw [if_pos (by assumption)] | rw [if_neg (by assumption)]])
  · try simp only [decide_eq_true_eq, decide_eq_false_iff_not] at hc1
    refine AMx.skip ?_
    refine AMx.seq ?_
    refine AMx.region (ces := []) (ks := [4]) (hs := []) (cs := []) (s' := AS.lst 12 [(4, vc (i6 s.1))] []) (by kernel_rfl) ?_ ?_
    · exact trivial
    refine AMx.ret ?_
    exact RetP.mk (r := vc (i6 s.1)) (by kernel_rfl) (by rw [show keepS s r = s.1 from by unfold keepS; first | rw [if_pos (by assumption)] | rw [if_neg (by assumption)]])

theorem f49_body : Tryd.f49.body = some (.seq (.region 0 (rg Tryd.f49 0) false) (.seq (.region 1 (rg Tryd.f49 1) false) (.ret))) := by kernel_rfl

set_option maxRecDepth 100000 in
set_option maxHeartbeats 8000000 in
theorem number_c (x : RowV) : Pure Tryd.prog 49 [TV.agg [.s (i6 x.1), .s (bo x.2.1), .s (bo x.2.2)]] (vc (i6 x.1)) := by
  refine Pure.of_body Tryd.func49 f49_body (by kernel_rfl) Tryd.ntmps49 (by kernel_rfl) (by kernel_rfl) ?_
  refine AMx.seq ?_
  refine AMx.region (ces := []) (ks := [1]) (hs := [1]) (cs := []) (s' := AS.lst 5 [(1, vp 1 0)] [(1, AObj.row [.s (i6 x.1), .s (bo x.2.1), .s (bo x.2.2)])]) (by kernel_rfl) ?_ ?_
  · exact trivial
  refine AMx.seq ?_
  refine AMx.region (ces := []) (ks := [2]) (hs := []) (cs := []) (s' := AS.lst 5 [(2, vc (i6 x.1))] []) (by kernel_rfl) ?_ ?_
  · exact trivial
  refine AMx.ret ?_
  exact RetP.mk (r := vc (i6 x.1)) (by kernel_rfl) rfl

theorem f48_body : Tryd.f48.body = some (.seq (.region 0 (rg Tryd.f48 0) false) (.seq (.region 1 (rg Tryd.f48 1) false) (.seq (.seq (.region 2 (rg Tryd.f48 2) false) (.block 0 (.loop (.seq (.region 3 (rg Tryd.f48 3) false) (.seq (.cond (.tmp 11) (.skip) (.exit 0)) (.seq (.block 1 (.seq (.region 4 (rg Tryd.f48 4) false) (.seq (.seq (.region 5 (rg Tryd.f48 5) false) (.cond (.tmp 18) (.seq (.region 6 (rg Tryd.f48 6) false) (.ret)) (.skip))) (.region 7 (rg Tryd.f48 7) false)))) (.region 8 (rg Tryd.f48 8) false))))))) (.seq (.region 9 (rg Tryd.f48 9) false) (.ret))))) := by kernel_rfl

set_option maxRecDepth 100000 in
set_option maxHeartbeats 8000000 in
theorem rising_c (l : List RowV) : Pure Tryd.prog 48 [tc (slR l), TV.c (.fn 49 [])] (vc (bo (riseS 0 l))) := by
  refine Pure.of_body Tryd.func48 f48_body (by kernel_rfl) Tryd.ntmps48 (by kernel_rfl) (by kernel_rfl) ?_
  refine AMx.sl 0 (l := l) rfl (fun hl => ?_)
  simp only [maxLen] at hl
  refine AMx.seq ?_
  refine AMx.region (ces := []) (ks := [0, 1]) (hs := []) (cs := []) (s' := AS.lst 23 [(0, vc (slR l)), (1, AV.t (TV.c (.fn 49 [])))] []) (by kernel_rfl) ?_ ?_
  · exact trivial
  refine AMx.seq ?_
  refine AMx.region (ces := []) (ks := [0, 1, 5]) (hs := []) (cs := []) (s' := AS.lst 23 [(0, vc (slR l)), (1, AV.t (TV.c (.fn 49 []))), (5, vc (i6 0))] []) (by kernel_rfl) ?_ ?_
  · exact trivial
  refine AMx.seq ?_
  refine AMx.seq ?_
  refine AMx.region (ces := []) (ks := [1, 5, 8, 9, 10]) (hs := []) (cs := []) (s' := AS.lst 23 [(1, AV.t (TV.c (.fn 49 []))), (5, vc (i6 0)), (8, vc (slR l)), (9, vc (i6 (List.length l : Int))), (10, vc (i6 0))] []) (by kernel_rfl) ?_ ?_
  · exact trivial
  refine AMx.block ?_
  refine AMx.ent (s' := AS.lst 23 [(1, AV.t (TV.c (.fn 49 []))), (5, vc (i6 0)), (8, vc (slR l)), (9, vc (i6 (List.length l : Int))), (10, vc (i6 0))] []) (ent_proj [1, 5, 8, 9, 10] []) ?_
  refine AMx.loop (fun mm ss => ∃ (k : Nat) (a : Int), (k ≤ l.length ∧ riseS 0 l = riseS a (List.drop k l)) ∧ mm = l.length - k ∧ ss = AS.lst 23 [(1, AV.t (TV.c (.fn 49 []))), (5, vc (i6 a)), (8, vc (slR l)), (9, vc (i6 (List.length l : Int))), (10, vc (i6 (k : Int)))] []) ⟨0, 0, ?_, rfl, ?_⟩ ?_
  · exact ⟨by omega, rfl⟩
  · rfl
  rintro mm ss ⟨k, a, ⟨hI, hR⟩, rfl, rfl⟩
  refine AMx.seq ?_
  refine AMx.region (ces := []) (ks := [1, 5, 8, 9, 10, 11]) (hs := []) (cs := []) (s' := AS.lst 23 [(1, AV.t (TV.c (.fn 49 []))), (5, vc (i6 a)), (8, vc (slR l)), (9, vc (i6 (List.length l : Int))), (10, vc (i6 (k : Int))), (11, vc (bo (decide ((k : Int) < (List.length l : Int)))))] []) (by kernel_rfl) ?_ ?_
  · exact trivial
  refine AMx.seq ?_
  refine AMx.cond (b := decide ((k : Int) < (List.length l : Int))) (by kernel_rfl) (fun hc1 => ?_) (fun hc1 => ?_)
  · try simp only [decide_eq_true_eq, decide_eq_false_iff_not] at hc1
    refine AMx.skip ?_
    refine AMx.seq ?_
    refine AMx.block ?_
    refine AMx.seq ?_
    refine AMx.region (ces := []) (ks := [1, 5, 7, 8, 9, 10]) (hs := [7]) (cs := [(0 : Int) ≤ (k : Int), (k : Int) < List.length l]) (s' := AS.lst 23 [(1, AV.t (TV.c (.fn 49 []))), (5, vc (i6 a)), (7, vp 7 0), (8, vc (slR l)), (9, vc (i6 (List.length l : Int))), (10, vc (i6 (k : Int)))] [(7, AObj.row [.s (i6 ((List.getD l k (0, false, false)).1)), .s (bo ((List.getD l k (0, false, false)).2.1)), .s (bo ((List.getD l k (0, false, false)).2.2))])]) (by kernel_rfl) ?_ ?_
    · exact ⟨(show (0 : Int) ≤ (k : Int) from (by omega)), (show (k : Int) < List.length l from (by omega))⟩
    refine AMx.seq ?_
    refine AMx.seq ?_
    refine AMx.region (ces := [(2, CE.call [] [] (vc (i6 ((List.getD l k (0, false, false)).1))) [])]) (ks := [1, 7, 8, 9, 10, 18]) (hs := [7]) (cs := [Spec Tryd.prog 49 [TV.agg [.s (i6 ((List.getD l k (0, false, false)).1)), .s (bo ((List.getD l k (0, false, false)).2.1)), .s (bo ((List.getD l k (0, false, false)).2.2))]] (ofH []) (vc (i6 ((List.getD l k (0, false, false)).1))) (ofH [])]) (s' := AS.lst 23 [(1, AV.t (TV.c (.fn 49 []))), (7, vp 7 0), (8, vc (slR l)), (9, vc (i6 (List.length l : Int))), (10, vc (i6 (k : Int))), (18, vc (bo (decide ((List.getD l k (0, false, false)).1 ≤ a))))] [(7, AObj.row [.s (i6 ((List.getD l k (0, false, false)).1)), .s (bo ((List.getD l k (0, false, false)).2.1)), .s (bo ((List.getD l k (0, false, false)).2.2))])]) (by kernel_rfl) ?_ ?_
    · exact (number_c (List.getD l k (0, false, false)))
    refine AMx.cond (b := decide ((List.getD l k (0, false, false)).1 ≤ a)) (by kernel_rfl) (fun hc2 => ?_) (fun hc2 => ?_)
    · try simp only [decide_eq_true_eq, decide_eq_false_iff_not] at hc2
      refine AMx.seq ?_
      refine AMx.region (ces := []) (ks := [4]) (hs := []) (cs := []) (s' := AS.lst 23 [(4, vc (bo false))] []) (by kernel_rfl) ?_ ?_
      · exact trivial
      refine AMx.ret ?_
      exact RetP.mk (r := vc (bo false)) (by kernel_rfl) (by rw [hR, rise_go (by omega), decide_eq_false (by omega), Bool.false_and])
    · try simp only [decide_eq_true_eq, decide_eq_false_iff_not] at hc2
      refine AMx.skip ?_
      refine AMx.region (ces := [(2, CE.call [] [] (vc (i6 ((List.getD l k (0, false, false)).1))) [])]) (ks := [1, 5, 8, 9, 10]) (hs := []) (cs := [Spec Tryd.prog 49 [TV.agg [.s (i6 ((List.getD l k (0, false, false)).1)), .s (bo ((List.getD l k (0, false, false)).2.1)), .s (bo ((List.getD l k (0, false, false)).2.2))]] (ofH []) (vc (i6 ((List.getD l k (0, false, false)).1))) (ofH [])]) (s' := AS.lst 23 [(1, AV.t (TV.c (.fn 49 []))), (5, vc (i6 ((List.getD l k (0, false, false)).1))), (8, vc (slR l)), (9, vc (i6 (List.length l : Int))), (10, vc (i6 (k : Int)))] []) (by kernel_rfl) ?_ ?_
      · exact (number_c (List.getD l k (0, false, false)))
      refine AMx.blk ?_
      refine AMx.region (ces := []) (ks := [1, 5, 8, 9, 10]) (hs := []) (cs := [InR .i64 ((k : Int) + 1)]) (s' := AS.lst 23 [(1, AV.t (TV.c (.fn 49 []))), (5, vc (i6 ((List.getD l k (0, false, false)).1))), (8, vc (slR l)), (9, vc (i6 (List.length l : Int))), (10, vc (i6 ((k : Int) + 1)))] []) (by kernel_rfl) ?_ ?_
      · exact (show InR .i64 ((k : Int) + 1) from (inR64 (by omega) (by omega)))
      refine AMx.ent_inv (s' := AS.lst 23 [(1, AV.t (TV.c (.fn 49 []))), (5, vc (i6 ((List.getD l k (0, false, false)).1))), (8, vc (slR l)), (9, vc (i6 (List.length l : Int))), (10, vc (i6 ((k : Int) + 1)))] []) (ent_proj [1, 5, 8, 9, 10] []) ?_
      refine AMx.inv ⟨_, ?_, k + 1, (List.getD l k (0, false, false)).1, ?_, rfl, ?_⟩
      rotate_left
      · exact ⟨by omega, by rw [hR, rise_go (by omega), decide_eq_true (by omega), Bool.true_and]⟩
      · rfl
      · omega
  · try simp only [decide_eq_true_eq, decide_eq_false_iff_not] at hc1
    refine AMx.exit ?_
    refine AMx.code_exit ?_
    refine AMx.inv_exit ?_
    refine AMx.blk_exit ?_
    refine AMx.seq ?_
    refine AMx.region (ces := []) (ks := [4]) (hs := []) (cs := []) (s' := AS.lst 23 [(4, vc (bo true))] []) (by kernel_rfl) ?_ ?_
    · exact trivial
    refine AMx.ret ?_
    exact RetP.mk (r := vc (bo true)) (by kernel_rfl) (by rw [hR, rise_end (by omega)])

theorem f33_body : Tryd.f33.body = some (.seq (.region 0 (rg Tryd.f33 0) false) (.seq (.seq (.region 1 (rg Tryd.f33 1) false) (.cond (.tmp 22) (.seq (.region 2 (rg Tryd.f33 2) false) (.ret)) (.skip))) (.seq (.seq (.region 3 (rg Tryd.f33 3) true) (.cond (.tmp 35) (.seq (.region 4 (rg Tryd.f33 4) false) (.ret)) (.skip))) (.seq (.region 5 (rg Tryd.f33 5) false) (.seq (.seq (.region 6 (rg Tryd.f33 6) false) (.seq (.region 7 (rg Tryd.f33 7) false) (.cond (.tmp 40) (.region 8 (rg Tryd.f33 8) false) (.skip)))) (.seq (.seq (.region 9 (rg Tryd.f33 9) false) (.cond (.tmp 51) (.seq (.region 10 (rg Tryd.f33 10) false) (.ret)) (.skip))) (.seq (.region 11 (rg Tryd.f33 11) false) (.ret)))))))) := by kernel_rfl

set_option maxRecDepth 100000 in
set_option maxHeartbeats 8000000 in
theorem Check_c (s : Sec) (r : Rul) : Pure Tryd.prog 33 [TV.agg [.s (i6 s.1), .s (bo s.2.1), .s (i6 s.2.2.1), .s (slR s.2.2.2)], TV.agg [.s (i6 r.1), .s (bo r.2)]] (vc (i6 (checkS s r))) := by
  refine Pure.of_body Tryd.func33 f33_body (by kernel_rfl) Tryd.ntmps33 (by kernel_rfl) (by kernel_rfl) ?_
  refine AMx.celln 0 3 rfl rfl (fun hl => ?_)
  simp only [maxLen] at hl
  refine AMx.seq ?_
  refine AMx.region (ces := []) (ks := [2, 3]) (hs := [2, 3]) (cs := []) (s' := AS.lst 52 [(2, vp 2 0), (3, vp 3 0)] [(2, AObj.row [.s (i6 s.1), .s (bo s.2.1), .s (i6 s.2.2.1), .s (slR s.2.2.2)]), (3, AObj.row [.s (i6 r.1), .s (bo r.2)])]) (by kernel_rfl) ?_ ?_
  · exact trivial
  refine AMx.seq ?_
  refine AMx.seq ?_
  refine AMx.region (ces := [(2, CE.call [] [] (vc (bo (decide ((1 : Int) ≤ r.1) && decide (r.1 ≤ 6)))) []), (7, CE.call [] [] (vc (bo (decide ((0 : Int) ≤ s.1) && decide (s.1 ≤ 6)))) []), (13, CE.call [] [] (vc (bo (decide ((0 : Int) ≤ s.2.2.1) && decide (s.2.2.1 ≤ 30)))) [])]) (ks := [2, 3, 22]) (hs := [2, 3]) (cs := [Spec Tryd.prog 46 [tc (i6 r.1), tc (i6 1), tc (i6 6)] (ofH []) (vc (bo (decide ((1 : Int) ≤ r.1) && decide (r.1 ≤ 6)))) (ofH []), ((!(decide ((1 : Int) ≤ r.1) && decide (r.1 ≤ 6))) = false) → allP [], ((!(decide ((1 : Int) ≤ r.1) && decide (r.1 ≤ 6))) = false) → allP [(!(decide ((1 : Int) ≤ r.1) && decide (r.1 ≤ 6))) = false], ((!(decide ((1 : Int) ≤ r.1) && decide (r.1 ≤ 6))) = false) → allP [(!(decide ((1 : Int) ≤ r.1) && decide (r.1 ≤ 6))) = false, Spec Tryd.prog 46 [tc (i6 s.1), tc (i6 0), tc (i6 6)] (ofH []) (vc (bo (decide ((0 : Int) ≤ s.1) && decide (s.1 ≤ 6)))) (ofH [])], ((!(decide ((1 : Int) ≤ r.1) && decide (r.1 ≤ 6))) = false) → allP [(!(decide ((1 : Int) ≤ r.1) && decide (r.1 ≤ 6))) = false], (!(decide ((1 : Int) ≤ r.1) && decide (r.1 ≤ 6))) = false → allP [(!(decide ((1 : Int) ≤ r.1) && decide (r.1 ≤ 6))) = false], (((!(decide ((1 : Int) ≤ r.1) && decide (r.1 ≤ 6))) || (!(decide ((0 : Int) ≤ s.1) && decide (s.1 ≤ 6)))) = false) → allP [], (((!(decide ((1 : Int) ≤ r.1) && decide (r.1 ≤ 6))) || (!(decide ((0 : Int) ≤ s.1) && decide (s.1 ≤ 6)))) = false) → allP [((!(decide ((1 : Int) ≤ r.1) && decide (r.1 ≤ 6))) || (!(decide ((0 : Int) ≤ s.1) && decide (s.1 ≤ 6)))) = false], (((!(decide ((1 : Int) ≤ r.1) && decide (r.1 ≤ 6))) || (!(decide ((0 : Int) ≤ s.1) && decide (s.1 ≤ 6)))) = false) → allP [((!(decide ((1 : Int) ≤ r.1) && decide (r.1 ≤ 6))) || (!(decide ((0 : Int) ≤ s.1) && decide (s.1 ≤ 6)))) = false, Spec Tryd.prog 46 [tc (i6 s.2.2.1), tc (i6 0), tc (i6 30)] (ofH []) (vc (bo (decide ((0 : Int) ≤ s.2.2.1) && decide (s.2.2.1 ≤ 30)))) (ofH [])], (((!(decide ((1 : Int) ≤ r.1) && decide (r.1 ≤ 6))) || (!(decide ((0 : Int) ≤ s.1) && decide (s.1 ≤ 6)))) = false) → allP [((!(decide ((1 : Int) ≤ r.1) && decide (r.1 ≤ 6))) || (!(decide ((0 : Int) ≤ s.1) && decide (s.1 ≤ 6)))) = false], ((!(decide ((1 : Int) ≤ r.1) && decide (r.1 ≤ 6))) || (!(decide ((0 : Int) ≤ s.1) && decide (s.1 ≤ 6)))) = false → allP [((!(decide ((1 : Int) ≤ r.1) && decide (r.1 ≤ 6))) || (!(decide ((0 : Int) ≤ s.1) && decide (s.1 ≤ 6)))) = false]]) (s' := AS.lst 52 [(2, vp 2 0), (3, vp 3 0), (22, vc (bo (((!(decide ((1 : Int) ≤ r.1) && decide (r.1 ≤ 6))) || (!(decide ((0 : Int) ≤ s.1) && decide (s.1 ≤ 6)))) || (!(decide ((0 : Int) ≤ s.2.2.1) && decide (s.2.2.1 ≤ 30))))))] [(2, AObj.row [.s (i6 s.1), .s (bo s.2.1), .s (i6 s.2.2.1), .s (slR s.2.2.2)]), (3, AObj.row [.s (i6 r.1), .s (bo r.2)])]) (by kernel_rfl) ?_ ?_
  · exact ⟨(within_c r.1 1 6), (fun _ => trivial), (fun hp => hp), (fun hp => by have hq := hp; (try simp only [decide_eq_true_eq, decide_eq_false_iff_not, Bool.and_eq_true, Bool.or_eq_true, Bool.and_eq_false_iff, Bool.or_eq_false_iff, Bool.not_eq_true', Bool.not_eq_false', Bool.not_eq_true, Bool.not_eq_false] at hq); exact ⟨hp, (within_c s.1 0 6)⟩), (fun hp => hp), (fun hp2 => (by first | exact hp2 | exact ⟨hp, hp2⟩)), (fun _ => trivial), (fun hp => hp), (fun hp => by have hq := hp; (try simp only [decide_eq_true_eq, decide_eq_false_iff_not, Bool.and_eq_true, Bool.or_eq_true, Bool.and_eq_false_iff, Bool.or_eq_false_iff, Bool.not_eq_true', Bool.not_eq_false', Bool.not_eq_true, Bool.not_eq_false] at hq); exact ⟨hp, (within_c s.2.2.1 0 30)⟩), (fun hp => hp), (fun hp2 => (by first | exact hp2 | exact ⟨hp, hp2⟩))⟩
  refine AMx.cond (b := (((!(decide ((1 : Int) ≤ r.1) && decide (r.1 ≤ 6))) || (!(decide ((0 : Int) ≤ s.1) && decide (s.1 ≤ 6)))) || (!(decide ((0 : Int) ≤ s.2.2.1) && decide (s.2.2.1 ≤ 30))))) (by kernel_rfl) (fun hc1 => ?_) (fun hc1 => ?_)
  · try simp only [decide_eq_true_eq, decide_eq_false_iff_not, Bool.and_eq_true, Bool.and_eq_false_iff, Bool.or_eq_true, Bool.or_eq_false_iff, Bool.not_eq_true', Bool.not_eq_false'] at hc1
    refine AMx.seq ?_
    refine AMx.region (ces := []) (ks := [4]) (hs := []) (cs := []) (s' := AS.lst 52 [(4, vc (i6 2))] []) (by kernel_rfl) ?_ ?_
    · exact trivial
    refine AMx.ret ?_
    exact RetP.mk (r := vc (i6 2)) (by kernel_rfl) (by rw [show checkS s r = 2 from check_no (fun h => by have q := h.1; unfold RangeS at q; omega)])
  · try simp only [decide_eq_true_eq, decide_eq_false_iff_not, Bool.and_eq_true, Bool.and_eq_false_iff, Bool.or_eq_true, Bool.or_eq_false_iff, Bool.not_eq_true', Bool.not_eq_false'] at hc1
    refine AMx.skip ?_
    refine AMx.seq ?_
    refine AMx.seq ?_
    refine AMx.region_draw (ces := [(5, CE.call [] [] (vc (i6 (keepS s r))) []), (10, CE.call [] [] (vc (bo (riseS 0 s.2.2.2))) [])]) (ros := [(1, [2]), (3, [2]), (4, [3]), (9, [2])]) (ks := [2, 35]) (hs := [2]) (cs := [Spec Tryd.prog 47 [TV.agg [.s (i6 s.1), .s (bo s.2.1), .s (i6 s.2.2.1), .s (slR s.2.2.2)], TV.agg [.s (i6 r.1), .s (bo r.2)]] (ofH []) (vc (i6 (keepS s r))) (ofH []), ((decide (keepS s r < (List.length s.2.2.2 : Int))) = false) → allP [], ((decide (keepS s r < (List.length s.2.2.2 : Int))) = false) → allP [(decide (keepS s r < (List.length s.2.2.2 : Int))) = false], ((decide (keepS s r < (List.length s.2.2.2 : Int))) = false) → allP [(decide (keepS s r < (List.length s.2.2.2 : Int))) = false, Spec Tryd.prog 48 [tc (slR s.2.2.2), TV.c (.fn 49 [])] (ofH []) (vc (bo (riseS 0 s.2.2.2))) (ofH [])], ((decide (keepS s r < (List.length s.2.2.2 : Int))) = false) → allP [(decide (keepS s r < (List.length s.2.2.2 : Int))) = false], (decide (keepS s r < (List.length s.2.2.2 : Int))) = false → allP [(decide (keepS s r < (List.length s.2.2.2 : Int))) = false]]) (s' := AS.lst 52 [(2, vp 2 0), (35, vc (bo ((decide (keepS s r < (List.length s.2.2.2 : Int))) || (!(riseS 0 s.2.2.2)))))] [(2, AObj.row [.s (i6 s.1), .s (bo s.2.1), .s (i6 s.2.2.1), .s (slR s.2.2.2)])]) mixed (by kernel_rfl) ?_ ?_
    · exact ⟨(keeps_c s r), (fun _ => trivial), (fun hp => hp), (fun hp => by have hq := hp; (try simp only [decide_eq_true_eq, decide_eq_false_iff_not, Bool.and_eq_true, Bool.or_eq_true, Bool.and_eq_false_iff, Bool.or_eq_false_iff, Bool.not_eq_true', Bool.not_eq_false', Bool.not_eq_true, Bool.not_eq_false] at hq); exact ⟨hp, (rising_c s.2.2.2)⟩), (fun hp => hp), (fun hp2 => (by first | exact hp2 | exact ⟨hp, hp2⟩))⟩
    refine AMx.cond (b := ((decide (keepS s r < (List.length s.2.2.2 : Int))) || (!(riseS 0 s.2.2.2)))) (by kernel_rfl) (fun hc2 => ?_) (fun hc2 => ?_)
    · try simp only [decide_eq_true_eq, decide_eq_false_iff_not, Bool.or_eq_true, Bool.or_eq_false_iff, Bool.not_eq_true', Bool.not_eq_false'] at hc2
      refine AMx.seq ?_
      refine AMx.region (ces := []) (ks := [4]) (hs := []) (cs := []) (s' := AS.lst 52 [(4, vc (i6 2))] []) (by kernel_rfl) ?_ ?_
      · exact trivial
      refine AMx.ret ?_
      exact RetP.mk (r := vc (i6 2)) (by kernel_rfl) (by rw [show checkS s r = 2 from check_no (fun h => by have q1 := h.2.1; have q2 := h.2.2.1; rcases hc2 with q | q; omega; rw [q2] at q; cases q)])
    · try simp only [decide_eq_true_eq, decide_eq_false_iff_not, Bool.or_eq_true, Bool.or_eq_false_iff, Bool.not_eq_true', Bool.not_eq_false'] at hc2
      refine AMx.skip ?_
      refine AMx.seq ?_
      refine AMx.region (ces := []) (ks := [2, 5]) (hs := [2]) (cs := []) (s' := AS.lst 52 [(2, vp 2 0), (5, vc (i6 0))] [(2, AObj.row [.s (i6 s.1), .s (bo s.2.1), .s (i6 s.2.2.1), .s (slR s.2.2.2)])]) (by kernel_rfl) ?_ ?_
      · exact trivial
      refine AMx.seq ?_
      refine AMx.seq ?_
      refine AMx.region (ces := []) (ks := [2, 5, 6]) (hs := [2]) (cs := []) (s' := AS.lst 52 [(2, vp 2 0), (5, vc (i6 0)), (6, vc (i6 (List.length s.2.2.2 : Int)))] [(2, AObj.row [.s (i6 s.1), .s (bo s.2.1), .s (i6 s.2.2.1), .s (slR s.2.2.2)])]) (by kernel_rfl) ?_ ?_
      · exact trivial
      refine AMx.seq ?_
      refine AMx.region (ces := []) (ks := [2, 5, 6, 40]) (hs := [2]) (cs := []) (s' := AS.lst 52 [(2, vp 2 0), (5, vc (i6 0)), (6, vc (i6 (List.length s.2.2.2 : Int))), (40, vc (bo (decide (0 < (List.length s.2.2.2 : Int)))))] [(2, AObj.row [.s (i6 s.1), .s (bo s.2.1), .s (i6 s.2.2.1), .s (slR s.2.2.2)])]) (by kernel_rfl) ?_ ?_
      · exact trivial
      refine AMx.cond (b := decide (0 < (List.length s.2.2.2 : Int))) (by kernel_rfl) (fun hc3 => ?_) (fun hc3 => ?_)
      · try simp only [decide_eq_true_eq, decide_eq_false_iff_not] at hc3
        refine AMx.region (ces := []) (ks := [2, 5]) (hs := [2]) (cs := [InR .i64 ((List.length s.2.2.2 : Int) - 1), (0 : Int) ≤ (List.length s.2.2.2 : Int) - 1, (List.length s.2.2.2 : Int) - 1 < List.length s.2.2.2]) (s' := AS.lst 52 [(2, vp 2 0), (5, vc (i6 ((List.getD s.2.2.2 ((List.length s.2.2.2 : Int) - 1).toNat (0, false, false)).1)))] [(2, AObj.row [.s (i6 s.1), .s (bo s.2.1), .s (i6 s.2.2.1), .s (slR s.2.2.2)])]) (by kernel_rfl) ?_ ?_
        · exact ⟨(show InR .i64 ((List.length s.2.2.2 : Int) - 1) from (inR64 (by omega) (by omega))), (show (0 : Int) ≤ (List.length s.2.2.2 : Int) - 1 from (by omega)), (show (List.length s.2.2.2 : Int) - 1 < List.length s.2.2.2 from (by omega))⟩
        refine AMx.seq ?_
        refine AMx.seq ?_
        refine AMx.region (ces := []) (ks := [51]) (hs := []) (cs := []) (s' := AS.lst 52 [(51, vc (bo (!decide ((List.getD s.2.2.2 ((List.length s.2.2.2 : Int) - 1).toNat (0, false, false)).1 = s.2.2.1))))] []) (by kernel_rfl) ?_ ?_
        · exact trivial
        refine AMx.cond (b := !decide ((List.getD s.2.2.2 ((List.length s.2.2.2 : Int) - 1).toNat (0, false, false)).1 = s.2.2.1)) (by kernel_rfl) (fun hc4 => ?_) (fun hc4 => ?_)
        · try simp only [decide_eq_true_eq, decide_eq_false_iff_not, Bool.not_eq_true', Bool.not_eq_false'] at hc4
          refine AMx.seq ?_
          refine AMx.region (ces := []) (ks := [4]) (hs := []) (cs := []) (s' := AS.lst 52 [(4, vc (i6 2))] []) (by kernel_rfl) ?_ ?_
          · exact trivial
          refine AMx.ret ?_
          exact RetP.mk (r := vc (i6 2)) (by kernel_rfl) (by rw [show checkS s r = 2 from check_no (fun h => by have q := h.2.2.2; first | (rw [new_at] at q; omega) | (have e : s.2.2.2 = [] := List.eq_nil_of_length_eq_zero (by omega); rw [e, new_nil] at q; omega))])
        · try simp only [decide_eq_true_eq, decide_eq_false_iff_not, Bool.not_eq_true', Bool.not_eq_false'] at hc4
          refine AMx.skip ?_
          refine AMx.seq ?_
          refine AMx.region (ces := []) (ks := [4]) (hs := []) (cs := []) (s' := AS.lst 52 [(4, vc (i6 0))] []) (by kernel_rfl) ?_ ?_
          · exact trivial
          refine AMx.ret ?_
          exact RetP.mk (r := vc (i6 0)) (by kernel_rfl) (by rw [show checkS s r = 0 from check_yes ⟨(by unfold RangeS; omega), by omega, by simp_all, by first | (rw [new_at]; omega) | (have e : s.2.2.2 = [] := List.eq_nil_of_length_eq_zero (by omega); rw [e, new_nil]; omega)⟩])
      · try simp only [decide_eq_true_eq, decide_eq_false_iff_not] at hc3
        refine AMx.skip ?_
        refine AMx.seq ?_
        refine AMx.seq ?_
        refine AMx.region (ces := []) (ks := [51]) (hs := []) (cs := []) (s' := AS.lst 52 [(51, vc (bo (!decide ((0 : Int) = s.2.2.1))))] []) (by kernel_rfl) ?_ ?_
        · exact trivial
        refine AMx.cond (b := !decide ((0 : Int) = s.2.2.1)) (by kernel_rfl) (fun hc5 => ?_) (fun hc5 => ?_)
        · try simp only [decide_eq_true_eq, decide_eq_false_iff_not, Bool.not_eq_true', Bool.not_eq_false'] at hc5
          refine AMx.seq ?_
          refine AMx.region (ces := []) (ks := [4]) (hs := []) (cs := []) (s' := AS.lst 52 [(4, vc (i6 2))] []) (by kernel_rfl) ?_ ?_
          · exact trivial
          refine AMx.ret ?_
          exact RetP.mk (r := vc (i6 2)) (by kernel_rfl) (by rw [show checkS s r = 2 from check_no (fun h => by have q := h.2.2.2; first | (rw [new_at] at q; omega) | (have e : s.2.2.2 = [] := List.eq_nil_of_length_eq_zero (by omega); rw [e, new_nil] at q; omega))])
        · try simp only [decide_eq_true_eq, decide_eq_false_iff_not, Bool.not_eq_true', Bool.not_eq_false'] at hc5
          refine AMx.skip ?_
          refine AMx.seq ?_
          refine AMx.region (ces := []) (ks := [4]) (hs := []) (cs := []) (s' := AS.lst 52 [(4, vc (i6 0))] []) (by kernel_rfl) ?_ ?_
          · exact trivial
          refine AMx.ret ?_
          exact RetP.mk (r := vc (i6 0)) (by kernel_rfl) (by rw [show checkS s r = 0 from check_yes ⟨(by unfold RangeS; omega), by omega, by simp_all, by first | (rw [new_at]; omega) | (have e : s.2.2.2 = [] := List.eq_nil_of_length_eq_zero (by omega); rw [e, new_nil]; omega)⟩])

theorem f36_body : Tryd.f36.body = some (.seq (.region 0 (rg Tryd.f36 0) false) (.seq (.seq (.region 1 (rg Tryd.f36 1) true) (.cond (.tmp 43) (.seq (.region 2 (rg Tryd.f36 2) false) (.ret)) (.skip))) (.seq (.seq (.region 3 (rg Tryd.f36 3) false) (.block 0 (.loop (.seq (.seq (.region 4 (rg Tryd.f36 4) false) (.cond (.tmp 48) (.skip) (.exit 0))) (.seq (.block 1 (.seq (.region 6 (rg Tryd.f36 6) false) (.seq (.region 7 (rg Tryd.f36 7) false) (.cond (.tmp 79) (.seq (.region 8 (rg Tryd.f36 8) false) (.ret)) (.skip))))) (.region 5 (rg Tryd.f36 5) false)))))) (.seq (.seq (.region 9 (rg Tryd.f36 9) false) (.cond (.tmp 82) (.seq (.region 10 (rg Tryd.f36 10) true) (.ret)) (.skip))) (.seq (.region 11 (rg Tryd.f36 11) false) (.ret)))))) := by kernel_rfl

set_option maxRecDepth 100000 in
set_option maxHeartbeats 8000000 in
theorem May_c (s : Sec) (r : Rul) : Pure Tryd.prog 36 [TV.agg [.s (i6 s.1), .s (bo s.2.1), .s (i6 s.2.2.1), .s (slR s.2.2.2)], TV.agg [.s (i6 r.1), .s (bo r.2)]] (vc (bo (decide (checkS s r = 0)))) := by
  refine Pure.of_body Tryd.func36 f36_body (by kernel_rfl) Tryd.ntmps36 (by kernel_rfl) (by kernel_rfl) ?_
  refine AMx.celln 0 3 rfl rfl (fun hl => ?_)
  simp only [maxLen] at hl
  refine AMx.seq ?_
  refine AMx.region (ces := []) (ks := [2, 3]) (hs := [2, 3]) (cs := []) (s' := AS.lst 101 [(2, vp 2 0), (3, vp 3 0)] [(2, AObj.row [.s (i6 s.1), .s (bo s.2.1), .s (i6 s.2.2.1), .s (slR s.2.2.2)]), (3, AObj.row [.s (i6 r.1), .s (bo r.2)])]) (by kernel_rfl) ?_ ?_
  · exact trivial
  refine AMx.seq ?_
  refine AMx.seq ?_
  refine AMx.region_draw (ces := [(34, CE.call [] [] (vc (i6 (keepS s r))) [])]) (ros := [(1, [3]), (5, [3]), (10, [2]), (15, [2]), (20, [2]), (25, [2]), (30, [2]), (32, [2]), (33, [3])]) (ks := [2, 43]) (hs := [2]) (cs := [((decide (r.1 < 1)) = false) → allP [], ((decide (r.1 < 1)) = false) → allP [(decide (r.1 < 1)) = false], ((decide (r.1 < 1)) = false) → allP [(decide (r.1 < 1)) = false], (decide (r.1 < 1)) = false → allP [(decide (r.1 < 1)) = false], (((decide (r.1 < 1)) || (decide (6 < r.1))) = false) → allP [], (((decide (r.1 < 1)) || (decide (6 < r.1))) = false) → allP [((decide (r.1 < 1)) || (decide (6 < r.1))) = false], (((decide (r.1 < 1)) || (decide (6 < r.1))) = false) → allP [((decide (r.1 < 1)) || (decide (6 < r.1))) = false], ((decide (r.1 < 1)) || (decide (6 < r.1))) = false → allP [((decide (r.1 < 1)) || (decide (6 < r.1))) = false], ((((decide (r.1 < 1)) || (decide (6 < r.1))) || (decide (s.1 < 0))) = false) → allP [], ((((decide (r.1 < 1)) || (decide (6 < r.1))) || (decide (s.1 < 0))) = false) → allP [(((decide (r.1 < 1)) || (decide (6 < r.1))) || (decide (s.1 < 0))) = false], ((((decide (r.1 < 1)) || (decide (6 < r.1))) || (decide (s.1 < 0))) = false) → allP [(((decide (r.1 < 1)) || (decide (6 < r.1))) || (decide (s.1 < 0))) = false], (((decide (r.1 < 1)) || (decide (6 < r.1))) || (decide (s.1 < 0))) = false → allP [(((decide (r.1 < 1)) || (decide (6 < r.1))) || (decide (s.1 < 0))) = false], (((((decide (r.1 < 1)) || (decide (6 < r.1))) || (decide (s.1 < 0))) || (decide (6 < s.1))) = false) → allP [], (((((decide (r.1 < 1)) || (decide (6 < r.1))) || (decide (s.1 < 0))) || (decide (6 < s.1))) = false) → allP [((((decide (r.1 < 1)) || (decide (6 < r.1))) || (decide (s.1 < 0))) || (decide (6 < s.1))) = false], (((((decide (r.1 < 1)) || (decide (6 < r.1))) || (decide (s.1 < 0))) || (decide (6 < s.1))) = false) → allP [((((decide (r.1 < 1)) || (decide (6 < r.1))) || (decide (s.1 < 0))) || (decide (6 < s.1))) = false], ((((decide (r.1 < 1)) || (decide (6 < r.1))) || (decide (s.1 < 0))) || (decide (6 < s.1))) = false → allP [((((decide (r.1 < 1)) || (decide (6 < r.1))) || (decide (s.1 < 0))) || (decide (6 < s.1))) = false], ((((((decide (r.1 < 1)) || (decide (6 < r.1))) || (decide (s.1 < 0))) || (decide (6 < s.1))) || (decide (s.2.2.1 < 0))) = false) → allP [], ((((((decide (r.1 < 1)) || (decide (6 < r.1))) || (decide (s.1 < 0))) || (decide (6 < s.1))) || (decide (s.2.2.1 < 0))) = false) → allP [(((((decide (r.1 < 1)) || (decide (6 < r.1))) || (decide (s.1 < 0))) || (decide (6 < s.1))) || (decide (s.2.2.1 < 0))) = false], ((((((decide (r.1 < 1)) || (decide (6 < r.1))) || (decide (s.1 < 0))) || (decide (6 < s.1))) || (decide (s.2.2.1 < 0))) = false) → allP [(((((decide (r.1 < 1)) || (decide (6 < r.1))) || (decide (s.1 < 0))) || (decide (6 < s.1))) || (decide (s.2.2.1 < 0))) = false], (((((decide (r.1 < 1)) || (decide (6 < r.1))) || (decide (s.1 < 0))) || (decide (6 < s.1))) || (decide (s.2.2.1 < 0))) = false → allP [(((((decide (r.1 < 1)) || (decide (6 < r.1))) || (decide (s.1 < 0))) || (decide (6 < s.1))) || (decide (s.2.2.1 < 0))) = false], (((((((decide (r.1 < 1)) || (decide (6 < r.1))) || (decide (s.1 < 0))) || (decide (6 < s.1))) || (decide (s.2.2.1 < 0))) || (decide (30 < s.2.2.1))) = false) → allP [], (((((((decide (r.1 < 1)) || (decide (6 < r.1))) || (decide (s.1 < 0))) || (decide (6 < s.1))) || (decide (s.2.2.1 < 0))) || (decide (30 < s.2.2.1))) = false) → allP [((((((decide (r.1 < 1)) || (decide (6 < r.1))) || (decide (s.1 < 0))) || (decide (6 < s.1))) || (decide (s.2.2.1 < 0))) || (decide (30 < s.2.2.1))) = false], (((((((decide (r.1 < 1)) || (decide (6 < r.1))) || (decide (s.1 < 0))) || (decide (6 < s.1))) || (decide (s.2.2.1 < 0))) || (decide (30 < s.2.2.1))) = false) → allP [((((((decide (r.1 < 1)) || (decide (6 < r.1))) || (decide (s.1 < 0))) || (decide (6 < s.1))) || (decide (s.2.2.1 < 0))) || (decide (30 < s.2.2.1))) = false], (((((((decide (r.1 < 1)) || (decide (6 < r.1))) || (decide (s.1 < 0))) || (decide (6 < s.1))) || (decide (s.2.2.1 < 0))) || (decide (30 < s.2.2.1))) = false) → allP [], (((((((decide (r.1 < 1)) || (decide (6 < r.1))) || (decide (s.1 < 0))) || (decide (6 < s.1))) || (decide (s.2.2.1 < 0))) || (decide (30 < s.2.2.1))) = false) → allP [], (((((((decide (r.1 < 1)) || (decide (6 < r.1))) || (decide (s.1 < 0))) || (decide (6 < s.1))) || (decide (s.2.2.1 < 0))) || (decide (30 < s.2.2.1))) = false) → allP [((((((decide (r.1 < 1)) || (decide (6 < r.1))) || (decide (s.1 < 0))) || (decide (6 < s.1))) || (decide (s.2.2.1 < 0))) || (decide (30 < s.2.2.1))) = false, ((((((decide (r.1 < 1)) || (decide (6 < r.1))) || (decide (s.1 < 0))) || (decide (6 < s.1))) || (decide (s.2.2.1 < 0))) || (decide (30 < s.2.2.1))) = false, Spec Tryd.prog 50 [TV.agg [.s (i6 s.1), .s (bo s.2.1), .s (i6 s.2.2.1), .s (slR s.2.2.2)], TV.agg [.s (i6 r.1), .s (bo r.2)]] (ofH []) (vc (i6 (keepS s r))) (ofH [])], (((((((decide (r.1 < 1)) || (decide (6 < r.1))) || (decide (s.1 < 0))) || (decide (6 < s.1))) || (decide (s.2.2.1 < 0))) || (decide (30 < s.2.2.1))) = false) → allP [((((((decide (r.1 < 1)) || (decide (6 < r.1))) || (decide (s.1 < 0))) || (decide (6 < s.1))) || (decide (s.2.2.1 < 0))) || (decide (30 < s.2.2.1))) = false, ((((((decide (r.1 < 1)) || (decide (6 < r.1))) || (decide (s.1 < 0))) || (decide (6 < s.1))) || (decide (s.2.2.1 < 0))) || (decide (30 < s.2.2.1))) = false], ((((((decide (r.1 < 1)) || (decide (6 < r.1))) || (decide (s.1 < 0))) || (decide (6 < s.1))) || (decide (s.2.2.1 < 0))) || (decide (30 < s.2.2.1))) = false → allP [((((((decide (r.1 < 1)) || (decide (6 < r.1))) || (decide (s.1 < 0))) || (decide (6 < s.1))) || (decide (s.2.2.1 < 0))) || (decide (30 < s.2.2.1))) = false]]) (s' := AS.lst 101 [(2, vp 2 0), (43, vc (bo (((((((decide (r.1 < 1)) || (decide (6 < r.1))) || (decide (s.1 < 0))) || (decide (6 < s.1))) || (decide (s.2.2.1 < 0))) || (decide (30 < s.2.2.1))) || (decide (keepS s r < (List.length s.2.2.2 : Int))))))] [(2, AObj.row [.s (i6 s.1), .s (bo s.2.1), .s (i6 s.2.2.1), .s (slR s.2.2.2)])]) mixed (by kernel_rfl) ?_ ?_
  · exact ⟨(fun _ => trivial), (fun hp => hp), (fun hp => hp), (fun hp2 => (by first | exact hp2 | exact ⟨hp, hp2⟩)), (fun _ => trivial), (fun hp => hp), (fun hp => hp), (fun hp2 => (by first | exact hp2 | exact ⟨hp, hp2⟩)), (fun _ => trivial), (fun hp => hp), (fun hp => hp), (fun hp2 => (by first | exact hp2 | exact ⟨hp, hp2⟩)), (fun _ => trivial), (fun hp => hp), (fun hp => hp), (fun hp2 => (by first | exact hp2 | exact ⟨hp, hp2⟩)), (fun _ => trivial), (fun hp => hp), (fun hp => hp), (fun hp2 => (by first | exact hp2 | exact ⟨hp, hp2⟩)), (fun _ => trivial), (fun hp => hp), (fun hp => hp), (fun _ => trivial), (fun _ => trivial), (fun hp => by have hq := hp; (try simp only [decide_eq_true_eq, decide_eq_false_iff_not, Bool.and_eq_true, Bool.or_eq_true, Bool.and_eq_false_iff, Bool.or_eq_false_iff, Bool.not_eq_true', Bool.not_eq_false', Bool.not_eq_true, Bool.not_eq_false] at hq); exact ⟨hp, hp, (RKeeps_c s r)⟩), (fun hp => ⟨hp, hp⟩), (fun hp2 => (by first | exact hp2 | exact ⟨hp, hp2⟩))⟩
  refine AMx.cond (b := (((((((decide (r.1 < 1)) || (decide (6 < r.1))) || (decide (s.1 < 0))) || (decide (6 < s.1))) || (decide (s.2.2.1 < 0))) || (decide (30 < s.2.2.1))) || (decide (keepS s r < (List.length s.2.2.2 : Int))))) (by kernel_rfl) (fun hc1 => ?_) (fun hc1 => ?_)
  · try simp only [decide_eq_true_eq, decide_eq_false_iff_not, Bool.or_eq_true, Bool.or_eq_false_iff] at hc1
    refine AMx.seq ?_
    refine AMx.region (ces := []) (ks := [4]) (hs := []) (cs := []) (s' := AS.lst 101 [(4, vc (bo false))] []) (by kernel_rfl) ?_ ?_
    · exact trivial
    refine AMx.ret ?_
    exact RetP.mk (r := vc (bo false)) (by kernel_rfl) (by rw [show decide (checkS s r = 0) = false from decide_eq_false fun h => by obtain ⟨q1, q2, q3, q4⟩ := check_may.1 h; unfold RangeS at q1; omega])
  · try simp only [decide_eq_true_eq, decide_eq_false_iff_not, Bool.or_eq_true, Bool.or_eq_false_iff] at hc1
    refine AMx.skip ?_
    refine AMx.seq ?_
    refine AMx.seq ?_
    refine AMx.region (ces := []) (ks := [2, 5]) (hs := [2]) (cs := []) (s' := AS.lst 101 [(2, vp 2 0), (5, vc (i6 0))] [(2, AObj.row [.s (i6 s.1), .s (bo s.2.1), .s (i6 s.2.2.1), .s (slR s.2.2.2)])]) (by kernel_rfl) ?_ ?_
    · exact trivial
    refine AMx.block ?_
    refine AMx.ent (s' := AS.lst 101 [(2, vp 2 0), (5, vc (i6 0))] [(2, AObj.row [.s (i6 s.1), .s (bo s.2.1), .s (i6 s.2.2.1), .s (slR s.2.2.2)])]) (ent_proj [2, 5] [2]) ?_
    refine AMx.loop (fun mm ss => ∃ (i : Nat) (a : Int), (i ≤ s.2.2.2.length ∧ riseS 0 s.2.2.2 = riseS a (List.drop i s.2.2.2) ∧ 0 ≤ a ∧ (i = 0 ∧ a = 0 ∨ 0 < i ∧ a = (List.getD s.2.2.2 ((i : Int) - 1).toNat (0, false, false)).1) ∧ ∀ x ∈ List.take i s.2.2.2, 1 ≤ x.1 ∧ x.1 ≤ s.2.2.1) ∧ mm = s.2.2.2.length - i ∧ ss = AS.lst 101 [(2, vp 2 0), (5, vc (i6 (i : Int)))] [(2, AObj.row [.s (i6 s.1), .s (bo s.2.1), .s (i6 s.2.2.1), .s (slR s.2.2.2)])]) ⟨0, 0, ?_, rfl, ?_⟩ ?_
    · exact ⟨by omega, rfl, by omega, .inl ⟨rfl, rfl⟩, fun x hx => by simp at hx⟩
    · rfl
    rintro mm ss ⟨i, a, ⟨hI, hR, h0, hP, hA⟩, rfl, rfl⟩
    refine AMx.seq ?_
    refine AMx.seq ?_
    refine AMx.region (ces := []) (ks := [2, 5, 48]) (hs := [2]) (cs := []) (s' := AS.lst 101 [(2, vp 2 0), (5, vc (i6 (i : Int))), (48, vc (bo (decide ((i : Int) < (List.length s.2.2.2 : Int)))))] [(2, AObj.row [.s (i6 s.1), .s (bo s.2.1), .s (i6 s.2.2.1), .s (slR s.2.2.2)])]) (by kernel_rfl) ?_ ?_
    · exact trivial
    refine AMx.cond (b := decide ((i : Int) < (List.length s.2.2.2 : Int))) (by kernel_rfl) (fun hc2 => ?_) (fun hc2 => ?_)
    · try simp only [decide_eq_true_eq, decide_eq_false_iff_not] at hc2
      refine AMx.skip ?_
      refine AMx.seq ?_
      refine AMx.block ?_
      refine AMx.seq ?_
      refine AMx.region (ces := []) (ks := [2, 5, 6]) (hs := [2]) (cs := [(0 : Int) ≤ (i : Int), (i : Int) < List.length s.2.2.2]) (s' := AS.lst 101 [(2, vp 2 0), (5, vc (i6 (i : Int))), (6, vc (i6 ((List.getD s.2.2.2 i (0, false, false)).1)))] [(2, AObj.row [.s (i6 s.1), .s (bo s.2.1), .s (i6 s.2.2.1), .s (slR s.2.2.2)])]) (by kernel_rfl) ?_ ?_
      · exact ⟨(show (0 : Int) ≤ (i : Int) from (by omega)), (show (i : Int) < List.length s.2.2.2 from (by omega))⟩
      refine AMx.seq ?_
      refine AMx.region (ces := []) (ks := [2, 5, 79]) (hs := [2]) (cs := [((decide ((List.getD s.2.2.2 i (0, false, false)).1 < 1)) = false) → allP [], ((decide ((List.getD s.2.2.2 i (0, false, false)).1 < 1)) = false) → allP [], ((decide ((List.getD s.2.2.2 i (0, false, false)).1 < 1)) = false) → allP [(decide ((List.getD s.2.2.2 i (0, false, false)).1 < 1)) = false], ((decide ((List.getD s.2.2.2 i (0, false, false)).1 < 1)) = false) → allP [(decide ((List.getD s.2.2.2 i (0, false, false)).1 < 1)) = false, (decide ((List.getD s.2.2.2 i (0, false, false)).1 < 1)) = false], (decide ((List.getD s.2.2.2 i (0, false, false)).1 < 1)) = false → allP [(decide ((List.getD s.2.2.2 i (0, false, false)).1 < 1)) = false], (((decide ((List.getD s.2.2.2 i (0, false, false)).1 < 1)) || (decide (s.2.2.1 < (List.getD s.2.2.2 i (0, false, false)).1))) = false) → allP [], (((decide ((List.getD s.2.2.2 i (0, false, false)).1 < 1)) || (decide (s.2.2.1 < (List.getD s.2.2.2 i (0, false, false)).1))) = false) → allP [((decide ((List.getD s.2.2.2 i (0, false, false)).1 < 1)) || (decide (s.2.2.1 < (List.getD s.2.2.2 i (0, false, false)).1))) = false], (((decide ((List.getD s.2.2.2 i (0, false, false)).1 < 1)) || (decide (s.2.2.1 < (List.getD s.2.2.2 i (0, false, false)).1))) = false) → allP [((decide ((List.getD s.2.2.2 i (0, false, false)).1 < 1)) || (decide (s.2.2.1 < (List.getD s.2.2.2 i (0, false, false)).1))) = false], ((((decide ((List.getD s.2.2.2 i (0, false, false)).1 < 1)) || (decide (s.2.2.1 < (List.getD s.2.2.2 i (0, false, false)).1))) = false) ∧ (decide (0 < (i : Int))) = true) → allP [], ((((decide ((List.getD s.2.2.2 i (0, false, false)).1 < 1)) || (decide (s.2.2.1 < (List.getD s.2.2.2 i (0, false, false)).1))) = false) ∧ (decide (0 < (i : Int))) = true) → allP [(((decide ((List.getD s.2.2.2 i (0, false, false)).1 < 1)) || (decide (s.2.2.1 < (List.getD s.2.2.2 i (0, false, false)).1))) = false) ∧ (decide (0 < (i : Int))) = true], ((((decide ((List.getD s.2.2.2 i (0, false, false)).1 < 1)) || (decide (s.2.2.1 < (List.getD s.2.2.2 i (0, false, false)).1))) = false) ∧ (decide (0 < (i : Int))) = true) → allP [], ((((decide ((List.getD s.2.2.2 i (0, false, false)).1 < 1)) || (decide (s.2.2.1 < (List.getD s.2.2.2 i (0, false, false)).1))) = false) ∧ (decide (0 < (i : Int))) = true) → allP [(((decide ((List.getD s.2.2.2 i (0, false, false)).1 < 1)) || (decide (s.2.2.1 < (List.getD s.2.2.2 i (0, false, false)).1))) = false) ∧ (decide (0 < (i : Int))) = true, InR .i64 ((i : Int) - 1)], ((((decide ((List.getD s.2.2.2 i (0, false, false)).1 < 1)) || (decide (s.2.2.1 < (List.getD s.2.2.2 i (0, false, false)).1))) = false) ∧ (decide (0 < (i : Int))) = true) → allP [(((decide ((List.getD s.2.2.2 i (0, false, false)).1 < 1)) || (decide (s.2.2.1 < (List.getD s.2.2.2 i (0, false, false)).1))) = false) ∧ (decide (0 < (i : Int))) = true, (((decide ((List.getD s.2.2.2 i (0, false, false)).1 < 1)) || (decide (s.2.2.1 < (List.getD s.2.2.2 i (0, false, false)).1))) = false) ∧ (decide (0 < (i : Int))) = true, (0 : Int) ≤ (i : Int) - 1, (i : Int) - 1 < List.length s.2.2.2], ((((decide ((List.getD s.2.2.2 i (0, false, false)).1 < 1)) || (decide (s.2.2.1 < (List.getD s.2.2.2 i (0, false, false)).1))) = false) ∧ (decide (0 < (i : Int))) = true) → allP [(((decide ((List.getD s.2.2.2 i (0, false, false)).1 < 1)) || (decide (s.2.2.1 < (List.getD s.2.2.2 i (0, false, false)).1))) = false) ∧ (decide (0 < (i : Int))) = true], ((((decide ((List.getD s.2.2.2 i (0, false, false)).1 < 1)) || (decide (s.2.2.1 < (List.getD s.2.2.2 i (0, false, false)).1))) = false) ∧ (decide (0 < (i : Int))) = true) → allP [(((decide ((List.getD s.2.2.2 i (0, false, false)).1 < 1)) || (decide (s.2.2.1 < (List.getD s.2.2.2 i (0, false, false)).1))) = false) ∧ (decide (0 < (i : Int))) = true], ((((decide ((List.getD s.2.2.2 i (0, false, false)).1 < 1)) || (decide (s.2.2.1 < (List.getD s.2.2.2 i (0, false, false)).1))) = false) ∧ (decide (0 < (i : Int))) = true) → allP [], ((((decide ((List.getD s.2.2.2 i (0, false, false)).1 < 1)) || (decide (s.2.2.1 < (List.getD s.2.2.2 i (0, false, false)).1))) = false) ∧ (decide (0 < (i : Int))) = true) → allP [(((decide ((List.getD s.2.2.2 i (0, false, false)).1 < 1)) || (decide (s.2.2.1 < (List.getD s.2.2.2 i (0, false, false)).1))) = false) ∧ (decide (0 < (i : Int))) = true, (((decide ((List.getD s.2.2.2 i (0, false, false)).1 < 1)) || (decide (s.2.2.1 < (List.getD s.2.2.2 i (0, false, false)).1))) = false) ∧ (decide (0 < (i : Int))) = true], (((decide ((List.getD s.2.2.2 i (0, false, false)).1 < 1)) || (decide (s.2.2.1 < (List.getD s.2.2.2 i (0, false, false)).1))) = false) → allP [((decide ((List.getD s.2.2.2 i (0, false, false)).1 < 1)) || (decide (s.2.2.1 < (List.getD s.2.2.2 i (0, false, false)).1))) = false, (decide (0 < (i : Int))) = true → allP [(((decide ((List.getD s.2.2.2 i (0, false, false)).1 < 1)) || (decide (s.2.2.1 < (List.getD s.2.2.2 i (0, false, false)).1))) = false) ∧ (decide (0 < (i : Int))) = true]], ((decide ((List.getD s.2.2.2 i (0, false, false)).1 < 1)) || (decide (s.2.2.1 < (List.getD s.2.2.2 i (0, false, false)).1))) = false → allP [((decide ((List.getD s.2.2.2 i (0, false, false)).1 < 1)) || (decide (s.2.2.1 < (List.getD s.2.2.2 i (0, false, false)).1))) = false]]) (s' := AS.lst 101 [(2, vp 2 0), (5, vc (i6 (i : Int))), (79, vc (bo (((decide ((List.getD s.2.2.2 i (0, false, false)).1 < 1)) || (decide (s.2.2.1 < (List.getD s.2.2.2 i (0, false, false)).1))) || ((decide (0 < (i : Int))) && (decide ((List.getD s.2.2.2 i (0, false, false)).1 ≤ (List.getD s.2.2.2 ((i : Int) - 1).toNat (0, false, false)).1))))))] [(2, AObj.row [.s (i6 s.1), .s (bo s.2.1), .s (i6 s.2.2.1), .s (slR s.2.2.2)])]) (by kernel_rfl) ?_ ?_
      · exact ⟨(fun _ => trivial), (fun _ => trivial), (fun hp => hp), (fun hp => ⟨hp, hp⟩), (fun hp2 => (by first | exact hp2 | exact ⟨hp, hp2⟩)), (fun _ => trivial), (fun hp => hp), (fun hp => hp), (fun _ => trivial), (fun hp => hp), (fun _ => trivial), (fun hp => by have hq := hp; (try simp only [decide_eq_true_eq, decide_eq_false_iff_not, Bool.and_eq_true, Bool.or_eq_true, Bool.and_eq_false_iff, Bool.or_eq_false_iff, Bool.not_eq_true', Bool.not_eq_false', Bool.not_eq_true, Bool.not_eq_false] at hq); exact ⟨hp, (show InR .i64 ((i : Int) - 1) from (inR64 (by omega) (by omega)))⟩), (fun hp => by have hq := hp; (try simp only [decide_eq_true_eq, decide_eq_false_iff_not, Bool.and_eq_true, Bool.or_eq_true, Bool.and_eq_false_iff, Bool.or_eq_false_iff, Bool.not_eq_true', Bool.not_eq_false', Bool.not_eq_true, Bool.not_eq_false] at hq); exact ⟨hp, hp, (show (0 : Int) ≤ (i : Int) - 1 from (by omega)), (show (i : Int) - 1 < List.length s.2.2.2 from (by omega))⟩), (fun hp => hp), (fun hp => hp), (fun _ => trivial), (fun hp => ⟨hp, hp⟩), (fun hp => by have hq := hp; (try simp only [decide_eq_true_eq, decide_eq_false_iff_not, Bool.and_eq_true, Bool.or_eq_true, Bool.and_eq_false_iff, Bool.or_eq_false_iff, Bool.not_eq_true', Bool.not_eq_false', Bool.not_eq_true, Bool.not_eq_false] at hq); exact ⟨hp, (fun hp2 => (by first | exact hp2 | exact ⟨hp, hp2⟩))⟩), (fun hp2 => (by first | exact hp2 | exact ⟨hp, hp2⟩))⟩
      refine AMx.cond (b := (((decide ((List.getD s.2.2.2 i (0, false, false)).1 < 1)) || (decide (s.2.2.1 < (List.getD s.2.2.2 i (0, false, false)).1))) || ((decide (0 < (i : Int))) && (decide ((List.getD s.2.2.2 i (0, false, false)).1 ≤ (List.getD s.2.2.2 ((i : Int) - 1).toNat (0, false, false)).1))))) (by kernel_rfl) (fun hc3 => ?_) (fun hc3 => ?_)
      · try simp only [decide_eq_true_eq, decide_eq_false_iff_not, Bool.and_eq_true, Bool.and_eq_false_iff, Bool.or_eq_true, Bool.or_eq_false_iff] at hc3
        refine AMx.seq ?_
        refine AMx.region (ces := []) (ks := [4]) (hs := []) (cs := []) (s' := AS.lst 101 [(4, vc (bo false))] []) (by kernel_rfl) ?_ ?_
        · exact trivial
        refine AMx.ret ?_
        exact RetP.mk (r := vc (bo false)) (by kernel_rfl) (by rw [show decide (checkS s r = 0) = false from decide_eq_false fun h => by obtain ⟨q1, q2, q3, q4⟩ := check_may.1 h; have q := rise_not hR (by omega) q3; omega])
      · try simp only [decide_eq_true_eq, decide_eq_false_iff_not, Bool.and_eq_true, Bool.and_eq_false_iff, Bool.or_eq_true, Bool.or_eq_false_iff] at hc3
        refine AMx.skip ?_
        refine AMx.blk ?_
        refine AMx.region (ces := []) (ks := [2, 5]) (hs := [2]) (cs := [InR .i64 ((i : Int) + 1)]) (s' := AS.lst 101 [(2, vp 2 0), (5, vc (i6 ((i : Int) + 1)))] [(2, AObj.row [.s (i6 s.1), .s (bo s.2.1), .s (i6 s.2.2.1), .s (slR s.2.2.2)])]) (by kernel_rfl) ?_ ?_
        · exact (show InR .i64 ((i : Int) + 1) from (inR64 (by omega) (by omega)))
        refine AMx.ent_inv (s' := AS.lst 101 [(2, vp 2 0), (5, vc (i6 ((i : Int) + 1)))] [(2, AObj.row [.s (i6 s.1), .s (bo s.2.1), .s (i6 s.2.2.1), .s (slR s.2.2.2)])]) (ent_proj [2, 5] [2]) ?_
        refine AMx.inv ⟨_, ?_, i + 1, (List.getD s.2.2.2 i (0, false, false)).1, ?_, rfl, ?_⟩
        rotate_left
        · exact ⟨by omega, by rw [hR, rise_go (by omega), decide_eq_true (by omega), Bool.true_and], by omega, .inr ⟨by omega, by rw [show (((i + 1 : Nat) : Int) - 1).toNat = i by omega]⟩, fun x hx => by rw [Lib.take_succ (0, false, false) _ i (by omega)] at hx; rcases List.mem_append.1 hx with hx | hx; exact hA x hx; rw [List.mem_singleton.1 hx]; omega⟩
        · rfl
        · omega
    · try simp only [decide_eq_true_eq, decide_eq_false_iff_not] at hc2
      refine AMx.exit ?_
      refine AMx.code_exit ?_
      refine AMx.inv_exit ?_
      refine AMx.blk_exit ?_
      refine AMx.seq ?_
      refine AMx.seq ?_
      refine AMx.region (ces := []) (ks := [2, 82]) (hs := [2]) (cs := []) (s' := AS.lst 101 [(2, vp 2 0), (82, vc (bo (decide (0 < s.2.2.1))))] [(2, AObj.row [.s (i6 s.1), .s (bo s.2.1), .s (i6 s.2.2.1), .s (slR s.2.2.2)])]) (by kernel_rfl) ?_ ?_
      · exact trivial
      refine AMx.cond (b := decide (0 < s.2.2.1)) (by kernel_rfl) (fun hc4 => ?_) (fun hc4 => ?_)
      · try simp only [decide_eq_true_eq, decide_eq_false_iff_not] at hc4
        refine AMx.seq ?_
        refine AMx.region_draw (ces := []) (ros := [(1, [2]), (6, [2]), (8, [2]), (15, [2])]) (ks := [4]) (hs := []) (cs := [((decide (0 < (List.length s.2.2.2 : Int))) = true) → allP [], ((decide (0 < (List.length s.2.2.2 : Int))) = true) → allP [(decide (0 < (List.length s.2.2.2 : Int))) = true], ((decide (0 < (List.length s.2.2.2 : Int))) = true) → allP [], ((decide (0 < (List.length s.2.2.2 : Int))) = true) → allP [(decide (0 < (List.length s.2.2.2 : Int))) = true], ((decide (0 < (List.length s.2.2.2 : Int))) = true) → allP [(decide (0 < (List.length s.2.2.2 : Int))) = true], ((decide (0 < (List.length s.2.2.2 : Int))) = true) → allP [(decide (0 < (List.length s.2.2.2 : Int))) = true, InR .i64 ((List.length s.2.2.2 : Int) - 1)], ((decide (0 < (List.length s.2.2.2 : Int))) = true) → allP [(decide (0 < (List.length s.2.2.2 : Int))) = true, (decide (0 < (List.length s.2.2.2 : Int))) = true, (0 : Int) ≤ (List.length s.2.2.2 : Int) - 1, (List.length s.2.2.2 : Int) - 1 < List.length s.2.2.2], ((decide (0 < (List.length s.2.2.2 : Int))) = true) → allP [(decide (0 < (List.length s.2.2.2 : Int))) = true], ((decide (0 < (List.length s.2.2.2 : Int))) = true) → allP [(decide (0 < (List.length s.2.2.2 : Int))) = true], ((decide (0 < (List.length s.2.2.2 : Int))) = true) → allP [], ((decide (0 < (List.length s.2.2.2 : Int))) = true) → allP [(decide (0 < (List.length s.2.2.2 : Int))) = true], ((decide (0 < (List.length s.2.2.2 : Int))) = true) → allP [(decide (0 < (List.length s.2.2.2 : Int))) = true, (decide (0 < (List.length s.2.2.2 : Int))) = true], (decide (0 < (List.length s.2.2.2 : Int))) = true → allP [(decide (0 < (List.length s.2.2.2 : Int))) = true]]) (s' := AS.lst 101 [(4, vc (bo ((decide (0 < (List.length s.2.2.2 : Int))) && (decide ((List.getD s.2.2.2 ((List.length s.2.2.2 : Int) - 1).toNat (0, false, false)).1 = s.2.2.1)))))] []) mixed (by kernel_rfl) ?_ ?_
        · exact ⟨(fun _ => trivial), (fun hp => hp), (fun _ => trivial), (fun hp => hp), (fun hp => hp), (fun hp => by have hq := hp; (try simp only [decide_eq_true_eq, decide_eq_false_iff_not, Bool.and_eq_true, Bool.or_eq_true, Bool.and_eq_false_iff, Bool.or_eq_false_iff, Bool.not_eq_true', Bool.not_eq_false', Bool.not_eq_true, Bool.not_eq_false] at hq); exact ⟨hp, (show InR .i64 ((List.length s.2.2.2 : Int) - 1) from (inR64 (by omega) (by omega)))⟩), (fun hp => by have hq := hp; (try simp only [decide_eq_true_eq, decide_eq_false_iff_not, Bool.and_eq_true, Bool.or_eq_true, Bool.and_eq_false_iff, Bool.or_eq_false_iff, Bool.not_eq_true', Bool.not_eq_false', Bool.not_eq_true, Bool.not_eq_false] at hq); exact ⟨hp, hp, (show (0 : Int) ≤ (List.length s.2.2.2 : Int) - 1 from (by omega)), (show (List.length s.2.2.2 : Int) - 1 < List.length s.2.2.2 from (by omega))⟩), (fun hp => hp), (fun hp => hp), (fun _ => trivial), (fun hp => hp), (fun hp => ⟨hp, hp⟩), (fun hp2 => (by first | exact hp2 | exact ⟨hp, hp2⟩))⟩
        refine AMx.ret ?_
        exact RetP.mk (r := vc (bo ((decide (0 < (List.length s.2.2.2 : Int))) && (decide ((List.getD s.2.2.2 ((List.length s.2.2.2 : Int) - 1).toNat (0, false, false)).1 = s.2.2.1))))) (by kernel_rfl) (by rw [show decide (checkS s r = 0) = ((decide (0 < (List.length s.2.2.2 : Int))) && (decide ((List.getD s.2.2.2 ((List.length s.2.2.2 : Int) - 1).toNat (0, false, false)).1 = s.2.2.1))) from may_last (by unfold RangeS; omega) (by omega) (hR.trans (rise_end (by omega))) (by omega)])
      · try simp only [decide_eq_true_eq, decide_eq_false_iff_not] at hc4
        refine AMx.skip ?_
        refine AMx.seq ?_
        refine AMx.region (ces := []) (ks := [4]) (hs := []) (cs := []) (s' := AS.lst 101 [(4, vc (bo true))] []) (by kernel_rfl) ?_ ?_
        · exact trivial
        refine AMx.ret ?_
        exact RetP.mk (r := vc (bo true)) (by kernel_rfl) (by rw [show decide (checkS s r = 0) = true from decide_eq_true (may_zero (by unfold RangeS; omega) (by omega) (hR.trans (rise_end (by omega))) (by omega) (by rw [List.take_of_length_le (by omega)] at hA; exact hA))])

end AL.Secret
