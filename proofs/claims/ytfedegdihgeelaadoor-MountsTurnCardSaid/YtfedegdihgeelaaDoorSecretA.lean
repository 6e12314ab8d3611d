/- secret: the contracts of its functions, by their walks. No condition. -/
import Derived.Test.YtfedegdihgeelaaDoorSecretD
import Derived.Test.YtfedegdihgeelaaDoorFnvD
namespace AL.Secret
open Go Go.Proofs AL AL.Fnv
set_option linter.unusedVariables false
set_option linter.unusedSimpArgs false

theorem f43_body : Tryd.f43.body = some (.seq (.region 0 (rg Tryd.f43 0) false) (.seq (.region 1 (rg Tryd.f43 1) false) (.ret))) := by kernel_rfl

set_option maxRecDepth 100000 in
set_option maxHeartbeats 8000000 in
theorem within_c (n lo hi : Int) : Pure Tryd.prog 43 [tc (i6 n), tc (i6 lo), tc (i6 hi)] (vc (bo (decide (lo ≤ n) && decide (n ≤ hi)))) := by
 refine Pure.of_body Tryd.func43 f43_body (by kernel_rfl) Tryd.ntmps43 (by kernel_rfl) (by kernel_rfl) ?_
 refine gS [] [] 15 [(0, vc (i6 n)), (1, vc (i6 lo)), (2, vc (i6 hi))] [] trivial ?_
 refine gS [] [((decide (lo ≤ n)) = true) → allP [], ((decide (lo ≤ n)) = true) → allP [], ((decide (lo ≤ n)) = true) → allP [(decide (lo ≤ n)) = true, (decide (lo ≤ n)) = true], (decide (lo ≤ n)) = true → allP [(decide (lo ≤ n)) = true]] 15 [(6, vc (bo ((decide (lo ≤ n)) && (decide (n ≤ hi)))))] [] ⟨(fun _ => trivial), (fun _ => trivial), (fun hp => ⟨hp, hp⟩), (fun hp2 => (by first | exact hp2 | exact ⟨hp, hp2⟩))⟩ ?_
 exact gT (vc (bo ((decide (lo ≤ n)) && (decide (n ≤ hi))))) rfl

theorem f44_body : Tryd.f44.body = some (.seq (.region 0 (rg Tryd.f44 0) false) (.seq (.seq (.region 1 (rg Tryd.f44 1) false) (.cond (.tmp 7) (.seq (.region 2 (rg Tryd.f44 2) false) (.ret)) (.skip))) (.seq (.region 3 (rg Tryd.f44 3) false) (.ret)))) := by kernel_rfl

set_option maxRecDepth 100000 in
set_option maxHeartbeats 8000000 in
theorem keeps_c (s : Sec) (r : Rul) : Pure Tryd.prog 44 [TV.agg [.s (i6 s.1), .s (bo s.2.1), .s (i6 s.2.2.1), .s (slR s.2.2.2)], TV.agg [.s (i6 r.1), .s (bo r.2)]] (vc (i6 (keepS s r))) := by
 refine Pure.of_body Tryd.func44 f44_body (by kernel_rfl) Tryd.ntmps44 (by kernel_rfl) (by kernel_rfl) ?_
 refine gS [] [] 12 [(2, vp 2 0), (3, vp 3 0)] [(2, AObj.row [.s (i6 s.1), .s (bo s.2.1), .s (i6 s.2.2.1), .s (slR s.2.2.2)]), (3, AObj.row [.s (i6 r.1), .s (bo r.2)])] trivial ?_
 refine gQ ?_
 refine gS [] [] 12 [(2, vp 2 0), (3, vp 3 0), (7, vc (bo (decide (s.1 = 0))))] [(2, AObj.row [.s (i6 s.1), .s (bo s.2.1), .s (i6 s.2.2.1), .s (slR s.2.2.2)]), (3, AObj.row [.s (i6 r.1), .s (bo r.2)])] trivial ?_
 refine gC (s.1 = 0) (fun hc1 => ?_) fun hc1 => ?_
 ·
  refine gS [] [] 12 [(4, vc (i6 r.1))] [] trivial ?_
  exact gT (vc (i6 r.1)) (by rw [show keepS s r = r.1 from by unfold keepS; first | rw [if_pos (by assumption)] | rw [if_neg (by assumption)]])
 ·
  refine AMx.skip ?_
  refine gS [] [] 12 [(4, vc (i6 s.1))] [] trivial ?_
  exact gT (vc (i6 s.1)) (by rw [show keepS s r = s.1 from by unfold keepS; first | rw [if_pos (by assumption)] | rw [if_neg (by assumption)]])

theorem f46_body : Tryd.f46.body = some (.seq (.region 0 (rg Tryd.f46 0) false) (.seq (.region 1 (rg Tryd.f46 1) false) (.ret))) := by kernel_rfl

set_option maxRecDepth 100000 in
set_option maxHeartbeats 8000000 in
theorem number_c (x : RowV) : Pure Tryd.prog 46 [TV.agg [.s (i6 x.1), .s (bo x.2.1), .s (bo x.2.2)]] (vc (i6 x.1)) := by
 refine Pure.of_body Tryd.func46 f46_body (by kernel_rfl) Tryd.ntmps46 (by kernel_rfl) (by kernel_rfl) ?_
 refine gS [] [] 5 [(1, vp 1 0)] [(1, AObj.row [.s (i6 x.1), .s (bo x.2.1), .s (bo x.2.2)])] trivial ?_
 refine gS [] [] 5 [(2, vc (i6 x.1))] [] trivial ?_
 exact gT (vc (i6 x.1)) rfl

theorem f45_body : Tryd.f45.body = some (.seq (.region 0 (rg Tryd.f45 0) false) (.seq (.region 1 (rg Tryd.f45 1) false) (.seq (.seq (.region 2 (rg Tryd.f45 2) false) (.block 0 (.loop (.seq (.region 3 (rg Tryd.f45 3) false) (.seq (.cond (.tmp 11) (.skip) (.exit 0)) (.seq (.block 1 (.seq (.region 4 (rg Tryd.f45 4) false) (.seq (.seq (.region 5 (rg Tryd.f45 5) false) (.cond (.tmp 18) (.seq (.region 6 (rg Tryd.f45 6) false) (.ret)) (.skip))) (.region 7 (rg Tryd.f45 7) false)))) (.region 8 (rg Tryd.f45 8) false))))))) (.seq (.region 9 (rg Tryd.f45 9) false) (.ret))))) := by kernel_rfl

set_option maxRecDepth 100000 in
set_option maxHeartbeats 8000000 in
theorem rising_c (l : List RowV) : Pure Tryd.prog 45 [tc (slR l), TV.c (.fn 46 [])] (vc (bo (riseS 0 l))) := by
 refine Pure.of_body Tryd.func45 f45_body (by kernel_rfl) Tryd.ntmps45 (by kernel_rfl) (by kernel_rfl) ?_
 refine AMx.sl 0 (l := l) rfl (fun hl => ?_)
 simp only [maxLen] at hl
 refine gS [] [] 23 [(0, vc (slR l)), (1, AV.t (TV.c (.fn 46 [])))] [] trivial ?_
 refine gS [] [] 23 [(0, vc (slR l)), (1, AV.t (TV.c (.fn 46 []))), (5, vc (i6 0))] [] trivial ?_
 refine gQ ?_
 refine gS [] [] 23 [(1, AV.t (TV.c (.fn 46 []))), (5, vc (i6 0)), (8, vc (slR l)), (9, vc (i6 (List.length l : Int))), (10, vc (i6 0))] [] trivial ?_
 refine AMx.block ?_
 refine AMx.ent (s' := AS.lst 23 [(1, AV.t (TV.c (.fn 46 []))), (5, vc (i6 0)), (8, vc (slR l)), (9, vc (i6 (List.length l : Int))), (10, vc (i6 0))] []) (ent_proj [1, 5, 8, 9, 10] []) ?_
 refine AMx.loop (fun mm ss => ∃ (k : Nat) (a : Int), (k ≤ l.length ∧ riseS 0 l = riseS a (List.drop k l)) ∧ mm = l.length - k ∧ ss = AS.lst 23 [(1, AV.t (TV.c (.fn 46 []))), (5, vc (i6 a)), (8, vc (slR l)), (9, vc (i6 (List.length l : Int))), (10, vc (i6 (k : Int)))] []) ⟨0, 0, ?_, rfl, ?_⟩ ?_
 · exact ⟨by omega, rfl⟩
 · rfl
 rintro mm ss ⟨k, a, ⟨hI, hR⟩, rfl, rfl⟩
 refine gS [] [] 23 [(1, AV.t (TV.c (.fn 46 []))), (5, vc (i6 a)), (8, vc (slR l)), (9, vc (i6 (List.length l : Int))), (10, vc (i6 (k : Int))), (11, vc (bo (decide ((k : Int) < (List.length l : Int)))))] [] trivial ?_
 refine gQ ?_
 refine gC ((k : Int) < (List.length l : Int)) (fun hc1 => ?_) fun hc1 => ?_
 ·
  refine AMx.skip ?_
  refine gQ ?_
  refine AMx.block ?_
  refine gS [] [(0 : Int) ≤ (k : Int), (k : Int) < List.length l] 23 [(1, AV.t (TV.c (.fn 46 []))), (5, vc (i6 a)), (7, vp 7 0), (8, vc (slR l)), (9, vc (i6 (List.length l : Int))), (10, vc (i6 (k : Int)))] [(7, AObj.row [.s (i6 ((List.getD l k (0, false, false)).1)), .s (bo ((List.getD l k (0, false, false)).2.1)), .s (bo ((List.getD l k (0, false, false)).2.2))])] ⟨(show (0 : Int) ≤ (k : Int) from (by omega)), (show (k : Int) < List.length l from (by omega))⟩ ?_
  refine gQ ?_
  refine gS [(2, CE.call [] [] (vc (i6 ((List.getD l k (0, false, false)).1))) [])] [Spec Tryd.prog 46 [TV.agg [.s (i6 ((List.getD l k (0, false, false)).1)), .s (bo ((List.getD l k (0, false, false)).2.1)), .s (bo ((List.getD l k (0, false, false)).2.2))]] (ofH []) (vc (i6 ((List.getD l k (0, false, false)).1))) (ofH [])] 23 [(1, AV.t (TV.c (.fn 46 []))), (7, vp 7 0), (8, vc (slR l)), (9, vc (i6 (List.length l : Int))), (10, vc (i6 (k : Int))), (18, vc (bo (decide ((List.getD l k (0, false, false)).1 ≤ a))))] [(7, AObj.row [.s (i6 ((List.getD l k (0, false, false)).1)), .s (bo ((List.getD l k (0, false, false)).2.1)), .s (bo ((List.getD l k (0, false, false)).2.2))])] (number_c (List.getD l k (0, false, false))) ?_
  refine gC ((List.getD l k (0, false, false)).1 ≤ a) (fun hc2 => ?_) fun hc2 => ?_
  ·
   refine gS [] [] 23 [(4, vc (bo false))] [] trivial ?_
   exact gT (vc (bo false)) (by rw [hR, rise_go (by omega), decide_eq_false (by omega), Bool.false_and])
  ·
   refine AMx.skip ?_
   refine gR [(2, CE.call [] [] (vc (i6 ((List.getD l k (0, false, false)).1))) [])] [Spec Tryd.prog 46 [TV.agg [.s (i6 ((List.getD l k (0, false, false)).1)), .s (bo ((List.getD l k (0, false, false)).2.1)), .s (bo ((List.getD l k (0, false, false)).2.2))]] (ofH []) (vc (i6 ((List.getD l k (0, false, false)).1))) (ofH [])] 23 [(1, AV.t (TV.c (.fn 46 []))), (5, vc (i6 ((List.getD l k (0, false, false)).1))), (8, vc (slR l)), (9, vc (i6 (List.length l : Int))), (10, vc (i6 (k : Int)))] [] (number_c (List.getD l k (0, false, false))) ?_
   refine AMx.blk ?_
   refine gR [] [InR .i64 ((k : Int) + 1)] 23 [(1, AV.t (TV.c (.fn 46 []))), (5, vc (i6 ((List.getD l k (0, false, false)).1))), (8, vc (slR l)), (9, vc (i6 (List.length l : Int))), (10, vc (i6 ((k : Int) + 1)))] [] (show InR .i64 ((k : Int) + 1) from (inR64 (by omega) (by omega))) ?_
   refine AMx.ent_inv (s' := AS.lst 23 [(1, AV.t (TV.c (.fn 46 []))), (5, vc (i6 ((List.getD l k (0, false, false)).1))), (8, vc (slR l)), (9, vc (i6 (List.length l : Int))), (10, vc (i6 ((k : Int) + 1)))] []) (ent_proj [1, 5, 8, 9, 10] []) ?_
   refine AMx.inv ⟨_, ?_, k + 1, (List.getD l k (0, false, false)).1, ?_, rfl, ?_⟩
   rotate_left
   · exact ⟨by omega, by rw [hR, rise_go (by omega), decide_eq_true (by omega), Bool.true_and]⟩
   · rfl
   · omega
 ·
  refine AMx.exit ?_
  refine AMx.code_exit ?_
  refine AMx.inv_exit ?_
  refine AMx.blk_exit ?_
  refine gS [] [] 23 [(4, vc (bo true))] [] trivial ?_
  exact gT (vc (bo true)) (by rw [hR, rise_end (by omega)])

theorem f29_body : Tryd.f29.body = some (.seq (.region 0 (rg Tryd.f29 0) false) (.seq (.seq (.region 1 (rg Tryd.f29 1) false) (.cond (.tmp 22) (.seq (.region 2 (rg Tryd.f29 2) false) (.ret)) (.skip))) (.seq (.seq (.region 3 (rg Tryd.f29 3) true) (.cond (.tmp 35) (.seq (.region 4 (rg Tryd.f29 4) false) (.ret)) (.skip))) (.seq (.region 5 (rg Tryd.f29 5) false) (.seq (.seq (.region 6 (rg Tryd.f29 6) false) (.seq (.region 7 (rg Tryd.f29 7) false) (.cond (.tmp 40) (.region 8 (rg Tryd.f29 8) false) (.skip)))) (.seq (.seq (.region 9 (rg Tryd.f29 9) false) (.cond (.tmp 51) (.seq (.region 10 (rg Tryd.f29 10) false) (.ret)) (.skip))) (.seq (.region 11 (rg Tryd.f29 11) false) (.ret)))))))) := by kernel_rfl

set_option maxRecDepth 100000 in
set_option maxHeartbeats 8000000 in
theorem Check_c (s : Sec) (r : Rul) : Pure Tryd.prog 29 [TV.agg [.s (i6 s.1), .s (bo s.2.1), .s (i6 s.2.2.1), .s (slR s.2.2.2)], TV.agg [.s (i6 r.1), .s (bo r.2)]] (vc (i6 (checkS s r))) := by
 refine Pure.of_body Tryd.func29 f29_body (by kernel_rfl) Tryd.ntmps29 (by kernel_rfl) (by kernel_rfl) ?_
 refine AMx.celln 0 3 rfl rfl (fun hl => ?_)
 simp only [maxLen] at hl
 refine gS [] [] 52 [(2, vp 2 0), (3, vp 3 0)] [(2, AObj.row [.s (i6 s.1), .s (bo s.2.1), .s (i6 s.2.2.1), .s (slR s.2.2.2)]), (3, AObj.row [.s (i6 r.1), .s (bo r.2)])] trivial ?_
 refine gQ ?_
 refine gS [(2, CE.call [] [] (vc (bo (decide ((1 : Int) ≤ r.1) && decide (r.1 ≤ 6)))) []), (7, CE.call [] [] (vc (bo (decide ((0 : Int) ≤ s.1) && decide (s.1 ≤ 6)))) []), (13, CE.call [] [] (vc (bo (decide ((0 : Int) ≤ s.2.2.1) && decide (s.2.2.1 ≤ 30)))) [])] [Spec Tryd.prog 43 [tc (i6 r.1), tc (i6 1), tc (i6 6)] (ofH []) (vc (bo (decide ((1 : Int) ≤ r.1) && decide (r.1 ≤ 6)))) (ofH []), ((!(decide ((1 : Int) ≤ r.1) && decide (r.1 ≤ 6))) = false) → allP [], ((!(decide ((1 : Int) ≤ r.1) && decide (r.1 ≤ 6))) = false) → allP [(!(decide ((1 : Int) ≤ r.1) && decide (r.1 ≤ 6))) = false], ((!(decide ((1 : Int) ≤ r.1) && decide (r.1 ≤ 6))) = false) → allP [(!(decide ((1 : Int) ≤ r.1) && decide (r.1 ≤ 6))) = false, Spec Tryd.prog 43 [tc (i6 s.1), tc (i6 0), tc (i6 6)] (ofH []) (vc (bo (decide ((0 : Int) ≤ s.1) && decide (s.1 ≤ 6)))) (ofH [])], ((!(decide ((1 : Int) ≤ r.1) && decide (r.1 ≤ 6))) = false) → allP [(!(decide ((1 : Int) ≤ r.1) && decide (r.1 ≤ 6))) = false], (!(decide ((1 : Int) ≤ r.1) && decide (r.1 ≤ 6))) = false → allP [(!(decide ((1 : Int) ≤ r.1) && decide (r.1 ≤ 6))) = false], (((!(decide ((1 : Int) ≤ r.1) && decide (r.1 ≤ 6))) || (!(decide ((0 : Int) ≤ s.1) && decide (s.1 ≤ 6)))) = false) → allP [], (((!(decide ((1 : Int) ≤ r.1) && decide (r.1 ≤ 6))) || (!(decide ((0 : Int) ≤ s.1) && decide (s.1 ≤ 6)))) = false) → allP [((!(decide ((1 : Int) ≤ r.1) && decide (r.1 ≤ 6))) || (!(decide ((0 : Int) ≤ s.1) && decide (s.1 ≤ 6)))) = false], (((!(decide ((1 : Int) ≤ r.1) && decide (r.1 ≤ 6))) || (!(decide ((0 : Int) ≤ s.1) && decide (s.1 ≤ 6)))) = false) → allP [((!(decide ((1 : Int) ≤ r.1) && decide (r.1 ≤ 6))) || (!(decide ((0 : Int) ≤ s.1) && decide (s.1 ≤ 6)))) = false, Spec Tryd.prog 43 [tc (i6 s.2.2.1), tc (i6 0), tc (i6 30)] (ofH []) (vc (bo (decide ((0 : Int) ≤ s.2.2.1) && decide (s.2.2.1 ≤ 30)))) (ofH [])], (((!(decide ((1 : Int) ≤ r.1) && decide (r.1 ≤ 6))) || (!(decide ((0 : Int) ≤ s.1) && decide (s.1 ≤ 6)))) = false) → allP [((!(decide ((1 : Int) ≤ r.1) && decide (r.1 ≤ 6))) || (!(decide ((0 : Int) ≤ s.1) && decide (s.1 ≤ 6)))) = false], ((!(decide ((1 : Int) ≤ r.1) && decide (r.1 ≤ 6))) || (!(decide ((0 : Int) ≤ s.1) && decide (s.1 ≤ 6)))) = false → allP [((!(decide ((1 : Int) ≤ r.1) && decide (r.1 ≤ 6))) || (!(decide ((0 : Int) ≤ s.1) && decide (s.1 ≤ 6)))) = false]] 52 [(2, vp 2 0), (3, vp 3 0), (22, vc (bo (((!(decide ((1 : Int) ≤ r.1) && decide (r.1 ≤ 6))) || (!(decide ((0 : Int) ≤ s.1) && decide (s.1 ≤ 6)))) || (!(decide ((0 : Int) ≤ s.2.2.1) && decide (s.2.2.1 ≤ 30))))))] [(2, AObj.row [.s (i6 s.1), .s (bo s.2.1), .s (i6 s.2.2.1), .s (slR s.2.2.2)]), (3, AObj.row [.s (i6 r.1), .s (bo r.2)])] ⟨(within_c r.1 1 6), (fun _ => trivial), (fun hp => hp), (fun hp => by have hq := hp; (try simp only [decide_eq_true_eq, decide_eq_false_iff_not, Bool.and_eq_true, Bool.or_eq_true, Bool.and_eq_false_iff, Bool.or_eq_false_iff, Bool.not_eq_true', Bool.not_eq_false', Bool.not_eq_true, Bool.not_eq_false] at hq); exact ⟨hp, (within_c s.1 0 6)⟩), (fun hp => hp), (fun hp2 => (by first | exact hp2 | exact ⟨hp, hp2⟩)), (fun _ => trivial), (fun hp => hp), (fun hp => by have hq := hp; (try simp only [decide_eq_true_eq, decide_eq_false_iff_not, Bool.and_eq_true, Bool.or_eq_true, Bool.and_eq_false_iff, Bool.or_eq_false_iff, Bool.not_eq_true', Bool.not_eq_false', Bool.not_eq_true, Bool.not_eq_false] at hq); exact ⟨hp, (within_c s.2.2.1 0 30)⟩), (fun hp => hp), (fun hp2 => (by first | exact hp2 | exact ⟨hp, hp2⟩))⟩ ?_
 refine gB ((((!(decide ((1 : Int) ≤ r.1) && decide (r.1 ≤ 6))) || (!(decide ((0 : Int) ≤ s.1) && decide (s.1 ≤ 6)))) || (!(decide ((0 : Int) ≤ s.2.2.1) && decide (s.2.2.1 ≤ 30))))) (fun hc1 => ?_) fun hc1 => ?_
 ·
  try simp only [xT, xF, xA, xB, xO, xP, xN, xM] at hc1
  refine gS [] [] 52 [(4, vc (i6 2))] [] trivial ?_
  exact gT (vc (i6 2)) (by rw [show checkS s r = 2 from check_no (fun h => by have q := h.1; unfold RangeS at q; omega)])
 ·
  try simp only [xT, xF, xA, xB, xO, xP, xN, xM] at hc1
  refine AMx.skip ?_
  refine gQ ?_
  refine gY [(5, CE.call [] [] (vc (i6 (keepS s r))) []), (10, CE.call [] [] (vc (bo (riseS 0 s.2.2.2))) [])] [(1, [2]), (3, [2]), (4, [3]), (9, [2])] [Spec Tryd.prog 44 [TV.agg [.s (i6 s.1), .s (bo s.2.1), .s (i6 s.2.2.1), .s (slR s.2.2.2)], TV.agg [.s (i6 r.1), .s (bo r.2)]] (ofH []) (vc (i6 (keepS s r))) (ofH []), ((decide (keepS s r < (List.length s.2.2.2 : Int))) = false) → allP [], ((decide (keepS s r < (List.length s.2.2.2 : Int))) = false) → allP [(decide (keepS s r < (List.length s.2.2.2 : Int))) = false], ((decide (keepS s r < (List.length s.2.2.2 : Int))) = false) → allP [(decide (keepS s r < (List.length s.2.2.2 : Int))) = false, Spec Tryd.prog 45 [tc (slR s.2.2.2), TV.c (.fn 46 [])] (ofH []) (vc (bo (riseS 0 s.2.2.2))) (ofH [])], ((decide (keepS s r < (List.length s.2.2.2 : Int))) = false) → allP [(decide (keepS s r < (List.length s.2.2.2 : Int))) = false], (decide (keepS s r < (List.length s.2.2.2 : Int))) = false → allP [(decide (keepS s r < (List.length s.2.2.2 : Int))) = false]] 52 [(2, vp 2 0), (35, vc (bo ((decide (keepS s r < (List.length s.2.2.2 : Int))) || (!(riseS 0 s.2.2.2)))))] [(2, AObj.row [.s (i6 s.1), .s (bo s.2.1), .s (i6 s.2.2.1), .s (slR s.2.2.2)])] mixed ⟨(keeps_c s r), (fun _ => trivial), (fun hp => hp), (fun hp => by have hq := hp; (try simp only [decide_eq_true_eq, decide_eq_false_iff_not, Bool.and_eq_true, Bool.or_eq_true, Bool.and_eq_false_iff, Bool.or_eq_false_iff, Bool.not_eq_true', Bool.not_eq_false', Bool.not_eq_true, Bool.not_eq_false] at hq); exact ⟨hp, (rising_c s.2.2.2)⟩), (fun hp => hp), (fun hp2 => (by first | exact hp2 | exact ⟨hp, hp2⟩))⟩ ?_
  refine gB (((decide (keepS s r < (List.length s.2.2.2 : Int))) || (!(riseS 0 s.2.2.2)))) (fun hc2 => ?_) fun hc2 => ?_
  ·
   try simp only [xT, xF, xO, xP, xN, xM] at hc2
   refine gS [] [] 52 [(4, vc (i6 2))] [] trivial ?_
   exact gT (vc (i6 2)) (by rw [show checkS s r = 2 from check_no (fun h => by have q1 := h.2.1; have q2 := h.2.2.1; rcases hc2 with q | q; omega; rw [q2] at q; cases q)])
  ·
   try simp only [xT, xF, xO, xP, xN, xM] at hc2
   refine AMx.skip ?_
   refine gS [] [] 52 [(2, vp 2 0), (5, vc (i6 0))] [(2, AObj.row [.s (i6 s.1), .s (bo s.2.1), .s (i6 s.2.2.1), .s (slR s.2.2.2)])] trivial ?_
   refine gQ ?_
   refine gS [] [] 52 [(2, vp 2 0), (5, vc (i6 0)), (6, vc (i6 (List.length s.2.2.2 : Int)))] [(2, AObj.row [.s (i6 s.1), .s (bo s.2.1), .s (i6 s.2.2.1), .s (slR s.2.2.2)])] trivial ?_
   refine gS [] [] 52 [(2, vp 2 0), (5, vc (i6 0)), (6, vc (i6 (List.length s.2.2.2 : Int))), (40, vc (bo (decide (0 < (List.length s.2.2.2 : Int)))))] [(2, AObj.row [.s (i6 s.1), .s (bo s.2.1), .s (i6 s.2.2.1), .s (slR s.2.2.2)])] trivial ?_
   refine gC (0 < (List.length s.2.2.2 : Int)) (fun hc3 => ?_) fun hc3 => ?_
   ·
    refine gR [] [InR .i64 ((List.length s.2.2.2 : Int) - 1), (0 : Int) ≤ (List.length s.2.2.2 : Int) - 1, (List.length s.2.2.2 : Int) - 1 < List.length s.2.2.2] 52 [(2, vp 2 0), (5, vc (i6 ((List.getD s.2.2.2 ((List.length s.2.2.2 : Int) - 1).toNat (0, false, false)).1)))] [(2, AObj.row [.s (i6 s.1), .s (bo s.2.1), .s (i6 s.2.2.1), .s (slR s.2.2.2)])] ⟨(show InR .i64 ((List.length s.2.2.2 : Int) - 1) from (inR64 (by omega) (by omega))), (show (0 : Int) ≤ (List.length s.2.2.2 : Int) - 1 from (by omega)), (show (List.length s.2.2.2 : Int) - 1 < List.length s.2.2.2 from (by omega))⟩ ?_
    refine gQ ?_
    refine gS [] [] 52 [(51, vc (bo (!decide ((List.getD s.2.2.2 ((List.length s.2.2.2 : Int) - 1).toNat (0, false, false)).1 = s.2.2.1))))] [] trivial ?_
    refine gN ((List.getD s.2.2.2 ((List.length s.2.2.2 : Int) - 1).toNat (0, false, false)).1 = s.2.2.1) (fun hc4 => ?_) fun hc4 => ?_
    ·
     refine gS [] [] 52 [(4, vc (i6 2))] [] trivial ?_
     exact gT (vc (i6 2)) (by rw [show checkS s r = 2 from check_no (fun h => by have q := h.2.2.2; first | (rw [new_at] at q; omega) | (have e : s.2.2.2 = [] := List.eq_nil_of_length_eq_zero (by omega); rw [e, new_nil] at q; omega))])
    ·
     refine AMx.skip ?_
     refine gS [] [] 52 [(4, vc (i6 0))] [] trivial ?_
     exact gT (vc (i6 0)) (by rw [show checkS s r = 0 from check_yes ⟨(by unfold RangeS; omega), by omega, by simp_all, by first | (rw [new_at]; omega) | (have e : s.2.2.2 = [] := List.eq_nil_of_length_eq_zero (by omega); rw [e, new_nil]; omega)⟩])
   ·
    refine AMx.skip ?_
    refine gQ ?_
    refine gS [] [] 52 [(51, vc (bo (!decide ((0 : Int) = s.2.2.1))))] [] trivial ?_
    refine gN ((0 : Int) = s.2.2.1) (fun hc5 => ?_) fun hc5 => ?_
    ·
     refine gS [] [] 52 [(4, vc (i6 2))] [] trivial ?_
     exact gT (vc (i6 2)) (by rw [show checkS s r = 2 from check_no (fun h => by have q := h.2.2.2; first | (rw [new_at] at q; omega) | (have e : s.2.2.2 = [] := List.eq_nil_of_length_eq_zero (by omega); rw [e, new_nil] at q; omega))])
    ·
     refine AMx.skip ?_
     refine gS [] [] 52 [(4, vc (i6 0))] [] trivial ?_
     exact gT (vc (i6 0)) (by rw [show checkS s r = 0 from check_yes ⟨(by unfold RangeS; omega), by omega, by simp_all, by first | (rw [new_at]; omega) | (have e : s.2.2.2 = [] := List.eq_nil_of_length_eq_zero (by omega); rw [e, new_nil]; omega)⟩])

end AL.Secret
