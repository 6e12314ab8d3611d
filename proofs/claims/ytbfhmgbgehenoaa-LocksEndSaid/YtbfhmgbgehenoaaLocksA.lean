/- locks: the contracts of its functions, by their walks. No condition. -/
import Derived.Test.YtbfhmgbgehenoaaLocksD
import Derived.Test.YtbfhmgbgehenoaaGateA
namespace AL.Locks
open Go Go.Proofs AL AL.Fnv AL.Gate
set_option linter.unusedVariables false
set_option linter.unusedSimpArgs false

theorem f8_body : Try.f8.body = some (.seq (.region 0 (rg Try.f8 0) false) (.seq (.seq (.region 1 (rg Try.f8 1) false) (.cond (.tmp 9) (.seq (.region 2 (rg Try.f8 2) false) (.ret)) (.skip))) (.seq (.region 3 (rg Try.f8 3) false) (.ret)))) := by kernel_rfl

set_option maxRecDepth 100000 in
set_option maxHeartbeats 8000000 in
theorem New_c (n : Int) : Pure Try.prog 8 [tc (i6 n)] (AV.tup [TV.agg [.s (slT ((newS n).1))], tc (i6 ((newS n).2))]) := by
 refine Pure.of_body Try.func8 f8_body (by kernel_rfl) Try.ntmps8 (by kernel_rfl) (by kernel_rfl) ?_
 refine gS [] [] 15 [(0, vc (i6 n)), (2, vp 2 0)] [(2, AObj.row [.s (SC.nilsl)])] trivial ?_
 refine gQ ?_
 refine gS [] [((decide (n < 1)) = false) → allP [(decide (n < 1)) = false], (decide (n < 1)) = false → allP [(decide (n < 1)) = false]] 15 [(0, vc (i6 n)), (2, vp 2 0), (9, vc (bo ((decide (n < 1)) || (decide (8 < n)))))] [(2, AObj.row [.s (SC.nilsl)])] ⟨(fun hp => hp), (fun hp2 => (by first | exact hp2 | exact ⟨hp, hp2⟩))⟩ ?_
 refine gB (((decide (n < 1)) || (decide (8 < n)))) (fun hc1 => ?_) fun hc1 => ?_
 ·
  try simp only [xT, xF, xO, xP] at hc1
  refine gS [] [] 15 [(2, vp 2 0), (3, vc (i6 2))] [(2, AObj.row [.s (SC.nilsl)])] trivial ?_
  refine AMx.ent (ent_row 2 (l := [.s (SC.nilsl)]) (m := [.s (slT [])]) (by kernel_rfl) ⟨AC.le_nil, trivial⟩) ?_
  exact gT (AV.tup [TV.agg [.s (slT [])], tc (i6 2)]) (by rw [show newS n = ([], 2) from by unfold newS; first | rw [if_pos (by omega)] | rw [if_neg (by omega)]])
 ·
  try simp only [xT, xF, xO, xP] at hc1
  refine AMx.skip ?_
  refine gS [(2, CE.obj (AObj.grow 73 2 Unit () rowNil (List.replicate (n + 4).toNat ())))] [InR .i64 (n + 4), 0 ≤ n + 4, n + 4 ≤ n + 4, (48 : Int) * (n + 4) ≤ 281474976710656, n + 4 ≤ 9223372036854775807, MakeC (n + 4).toNat [.s (SC.nilsl), .s (SC.nilsl)] (AObj.grow 73 2 Unit () rowNil (List.replicate (n + 4).toNat ()))] 15 [(2, vp 2 0), (3, vc (i6 0))] [(2, AObj.row [.own 13]), (13, AObj.grow 73 2 Unit () rowNil (List.replicate (n + 4).toNat ()))] ⟨(inR64 (by omega) (by omega)), (by omega), (by omega), (by omega), (by omega), (⟨_, rfl, rfl⟩)⟩ ?_
  refine AMx.ent (ent_regrow (T := 73) (k := 2) 13 (d := ()) (d2 := ([], [])) (row := rowNil) (row2 := rowT) (l := List.replicate (n + 4).toNat ()) (l2 := List.replicate (n + 4).toNat ([], [])) (by kernel_rfl) (by simp) nil_le) ?_
  refine AMx.ent (s' := AS.lst 15 [(2, vp 2 0), (3, vc (i6 0))] [(2, AObj.row [.own 13]), (13, AObj.grow 73 2 Gt ([], []) rowT (List.replicate (n + 4).toNat ([], [])))]) (ent_proj [2, 3] [2, 13]) ?_
  refine AMx.ent (s' := AS.lst 15 [(2, vp 2 0), (3, vc (i6 0))] [(2, AObj.row [.s (slT (List.replicate (n + 4).toNat ([], [])))])]) (ent_freeze (id := 13) (T := 73) (by kernel_rfl)) ?_
  exact gT (AV.tup [TV.agg [.s (slT (List.replicate (n + 4).toNat ([], [])))], tc (i6 0)]) (by rw [show newS n = (List.replicate (n + 4).toNat ([], []), 0) from by unfold newS; first | rw [if_pos (by omega)] | rw [if_neg (by omega)]])

theorem f9_body : Try.f9.body = some (.seq (.region 0 (rg Try.f9 0) false) (.seq (.seq (.region 1 (rg Try.f9 1) false) (.cond (.tmp 9) (.seq (.region 2 (rg Try.f9 2) false) (.ret)) (.skip))) (.seq (.region 3 (rg Try.f9 3) false) (.ret)))) := by kernel_rfl

set_option maxRecDepth 100000 in
set_option maxHeartbeats 8000000 in
theorem RNew_c (n : Int) : Pure Try.prog 9 [tc (i6 n)] (AV.tup [TV.agg [.s (slT ((newS n).1))], tc (i6 ((newS n).2))]) := by
 refine Pure.of_body Try.func9 f9_body (by kernel_rfl) Try.ntmps9 (by kernel_rfl) (by kernel_rfl) ?_
 refine gS [] [] 15 [(0, vc (i6 n)), (2, vp 2 0)] [(2, AObj.row [.s (SC.nilsl)])] trivial ?_
 refine gQ ?_
 refine gS [] [((decide (n < 1)) = false) → allP [(decide (n < 1)) = false], (decide (n < 1)) = false → allP [(decide (n < 1)) = false]] 15 [(0, vc (i6 n)), (2, vp 2 0), (9, vc (bo ((decide (n < 1)) || (decide (8 < n)))))] [(2, AObj.row [.s (SC.nilsl)])] ⟨(fun hp => hp), (fun hp2 => (by first | exact hp2 | exact ⟨hp, hp2⟩))⟩ ?_
 refine gB (((decide (n < 1)) || (decide (8 < n)))) (fun hc1 => ?_) fun hc1 => ?_
 ·
  try simp only [xT, xF, xO, xP] at hc1
  refine gS [] [] 15 [(2, vp 2 0), (3, vc (i6 2))] [(2, AObj.row [.s (SC.nilsl)])] trivial ?_
  refine AMx.ent (ent_row 2 (l := [.s (SC.nilsl)]) (m := [.s (slT [])]) (by kernel_rfl) ⟨AC.le_nil, trivial⟩) ?_
  exact gT (AV.tup [TV.agg [.s (slT [])], tc (i6 2)]) (by rw [show newS n = ([], 2) from by unfold newS; first | rw [if_pos (by omega)] | rw [if_neg (by omega)]])
 ·
  try simp only [xT, xF, xO, xP] at hc1
  refine AMx.skip ?_
  refine gS [(2, CE.obj (AObj.grow 79 2 Unit () rowNil (List.replicate (n + 4).toNat ())))] [InR .i64 (n + 4), 0 ≤ n + 4, n + 4 ≤ n + 4, (48 : Int) * (n + 4) ≤ 281474976710656, n + 4 ≤ 9223372036854775807, MakeC (n + 4).toNat [.s (SC.nilsl), .s (SC.nilsl)] (AObj.grow 79 2 Unit () rowNil (List.replicate (n + 4).toNat ()))] 15 [(2, vp 2 0), (3, vc (i6 0))] [(2, AObj.row [.own 13]), (13, AObj.grow 79 2 Unit () rowNil (List.replicate (n + 4).toNat ()))] ⟨(inR64 (by omega) (by omega)), (by omega), (by omega), (by omega), (by omega), (⟨_, rfl, rfl⟩)⟩ ?_
  refine AMx.ent (ent_regrow (T := 79) (k := 2) 13 (d := ()) (d2 := ([], [])) (row := rowNil) (row2 := rowT) (l := List.replicate (n + 4).toNat ()) (l2 := List.replicate (n + 4).toNat ([], [])) (by kernel_rfl) (by simp) nil_le) ?_
  refine AMx.ent (s' := AS.lst 15 [(2, vp 2 0), (3, vc (i6 0))] [(2, AObj.row [.own 13]), (13, AObj.grow 79 2 Gt ([], []) rowT (List.replicate (n + 4).toNat ([], [])))]) (ent_proj [2, 3] [2, 13]) ?_
  refine AMx.ent (s' := AS.lst 15 [(2, vp 2 0), (3, vc (i6 0))] [(2, AObj.row [.s (slT (List.replicate (n + 4).toNat ([], [])))])]) (ent_freeze (id := 13) (T := 79) (by kernel_rfl)) ?_
  exact gT (AV.tup [TV.agg [.s (slT (List.replicate (n + 4).toNat ([], [])))], tc (i6 0)]) (by rw [show newS n = (List.replicate (n + 4).toNat ([], []), 0) from by unfold newS; first | rw [if_pos (by omega)] | rw [if_neg (by omega)]])

theorem f10_body : Try.f10.body = some (.seq (.region 0 (rg Try.f10 0) false) (.seq (.region 1 (rg Try.f10 1) false) (.ret))) := by kernel_rfl

set_option maxRecDepth 100000 in
set_option maxHeartbeats 8000000 in
theorem TShards_c (t : Tab) : Pure Try.prog 10 [TV.agg [.s (slT t)]] (vc (i6 (max 0 ((List.length t : Int) - 4)))) := by
 refine Pure.of_body Try.func10 f10_body (by kernel_rfl) Try.ntmps10 (by kernel_rfl) (by kernel_rfl) ?_
 refine AMx.celln 0 0 rfl rfl (fun hl => ?_)
 simp only [maxLen] at hl
 refine gS [] [] 8 [(1, vp 1 0)] [(1, AObj.row [.s (slT t)])] trivial ?_
 refine gS [] [InR .i64 ((List.length t : Int) - 4)] 8 [(2, vc (i6 (max 0 ((List.length t : Int) - 4))))] [] (show InR .i64 ((List.length t : Int) - 4) from (inR64 (by omega) (by omega))) ?_
 exact gT (vc (i6 (max 0 ((List.length t : Int) - 4)))) rfl

theorem f25_body : Try.f25.body = some (.seq (.region 0 (rg Try.f25 0) false) (.seq (.region 1 (rg Try.f25 1) false) (.ret))) := by kernel_rfl

set_option maxRecDepth 100000 in
set_option maxHeartbeats 8000000 in
theorem TStore_c (t : Tab) : Pure Try.prog 25 [TV.agg [.s (slT t)]] (vc (i6 (max 0 ((List.length t : Int) - 2)))) := by
 refine Pure.of_body Try.func25 f25_body (by kernel_rfl) Try.ntmps25 (by kernel_rfl) (by kernel_rfl) ?_
 refine AMx.celln 0 0 rfl rfl (fun hl => ?_)
 simp only [maxLen] at hl
 refine gS [] [] 8 [(1, vp 1 0)] [(1, AObj.row [.s (slT t)])] trivial ?_
 refine gS [] [InR .i64 ((List.length t : Int) - 2)] 8 [(2, vc (i6 (max 0 ((List.length t : Int) - 2))))] [] (show InR .i64 ((List.length t : Int) - 2) from (inR64 (by omega) (by omega))) ?_
 exact gT (vc (i6 (max 0 ((List.length t : Int) - 2)))) rfl

theorem f23_body : Try.f23.body = some (.seq (.region 0 (rg Try.f23 0) false) (.seq (.region 1 (rg Try.f23 1) false) (.ret))) := by kernel_rfl

set_option maxRecDepth 100000 in
set_option maxHeartbeats 8000000 in
theorem TCache_c (t : Tab) : Pure Try.prog 23 [TV.agg [.s (slT t)]] (vc (i6 (max 0 ((List.length t : Int) - 1)))) := by
 refine Pure.of_body Try.func23 f23_body (by kernel_rfl) Try.ntmps23 (by kernel_rfl) (by kernel_rfl) ?_
 refine AMx.celln 0 0 rfl rfl (fun hl => ?_)
 simp only [maxLen] at hl
 refine gS [] [] 8 [(1, vp 1 0)] [(1, AObj.row [.s (slT t)])] trivial ?_
 refine gS [] [InR .i64 ((List.length t : Int) - 1)] 8 [(2, vc (i6 (max 0 ((List.length t : Int) - 1))))] [] (show InR .i64 ((List.length t : Int) - 1) from (inR64 (by omega) (by omega))) ?_
 exact gT (vc (i6 (max 0 ((List.length t : Int) - 1)))) rfl

theorem f29_body : Try.f29.body = some (.seq (.region 0 (rg Try.f29 0) false) (.seq (.region 1 (rg Try.f29 1) false) (.ret))) := by kernel_rfl

set_option maxRecDepth 100000 in
set_option maxHeartbeats 8000000 in
theorem has_c (t : Tab) (k : Int) : Pure Try.prog 29 [TV.agg [.s (slT t)], tc (i6 k)] (vc (bo (hasS t k))) := by
 refine Pure.of_body Try.func29 f29_body (by kernel_rfl) Try.ntmps29 (by kernel_rfl) (by kernel_rfl) ?_
 refine gS [] [] 14 [(1, vc (i6 k)), (2, vp 2 0)] [(2, AObj.row [.s (slT t)])] trivial ?_
 refine gS [] [((decide (0 ≤ k)) = true) → allP [(decide (0 ≤ k)) = true], ((decide (0 ≤ k)) = true) → allP [(decide (0 ≤ k)) = true], ((decide (0 ≤ k)) = true) → allP [(decide (0 ≤ k)) = true, (decide (0 ≤ k)) = true], (decide (0 ≤ k)) = true → allP [(decide (0 ≤ k)) = true]] 14 [(4, vc (bo ((decide (0 ≤ k)) && (decide (k < (List.length t : Int))))))] [] ⟨(fun hp => hp), (fun hp => hp), (fun hp => ⟨hp, hp⟩), (fun hp2 => (by first | exact hp2 | exact ⟨hp, hp2⟩))⟩ ?_
 exact gT (vc (bo ((decide (0 ≤ k)) && (decide (k < (List.length t : Int)))))) rfl

theorem f31_body : Try.f31.body = some (.seq (.region 0 (rg Try.f31 0) false) (.seq (.region 1 (rg Try.f31 1) false) (.seq (.region 2 (rg Try.f31 2) false) (.seq (.region 3 (rg Try.f31 3) false) (.seq (.region 4 (rg Try.f31 4) false) (.ret)))))) := by kernel_rfl

set_option maxRecDepth 100000 in
set_option maxHeartbeats 8000000 in
theorem with_c (t : Tab) (k : Int) (g : Gt) (hk : 0 ≤ k ∧ k < (List.length t : Int)) (hb : t.length ≤ 100) : Pure Try.prog 31 [TV.agg [.s (slT t)], tc (i6 k), TV.agg [.s (slO g.1), .s (slO g.2)]] (AV.t (TV.agg [.s (slT (withS t k g))])) := by
 refine Pure.of_body Try.func31 f31_body (by kernel_rfl) Try.ntmps31 (by kernel_rfl) (by kernel_rfl) ?_
 refine gS [] [] 22 [(1, vc (i6 k)), (3, vp 3 0), (5, vp 5 0), (6, vp 6 0)] [(3, AObj.row [.s (slT t)]), (5, AObj.row [.s (slO g.1), .s (slO g.2)]), (6, AObj.row [.s (SC.nilsl)])] trivial ?_
 refine gS [(3, CE.obj (AObj.grow 73 2 Unit () rowNil (List.replicate (List.length t) ())))] [0 ≤ (List.length t : Int), (List.length t : Int) ≤ (List.length t : Int), (48 : Int) * (List.length t : Int) ≤ 281474976710656, (List.length t : Int) ≤ 9223372036854775807, MakeC (List.length t) [.s (SC.nilsl), .s (SC.nilsl)] (AObj.grow 73 2 Unit () rowNil (List.replicate (List.length t) ()))] 22 [(1, vc (i6 k)), (3, vp 3 0), (5, vp 5 0), (6, vp 6 0), (7, vo 11)] [(3, AObj.row [.s (slT t)]), (5, AObj.row [.s (slO g.1), .s (slO g.2)]), (6, AObj.row [.s (SC.nilsl)]), (11, AObj.grow 73 2 Unit () rowNil (List.replicate (List.length t) ()))] ⟨(by omega), (by omega), (by omega), (by omega), (⟨_, rfl, rfl⟩)⟩ ?_
 refine gS [(3, CE.obj (AObj.grow 73 2 Gt ([], []) rowT t))] [flat 2 rowT t = flat 2 rowT t, List.length t = List.length t, List.length (List.replicate (List.length t) () : List Unit) = List.length t] 22 [(1, vc (i6 k)), (5, vp 5 0), (6, vp 6 0), (7, vo 11)] [(5, AObj.row [.s (slO g.1), .s (slO g.2)]), (6, AObj.row [.s (SC.nilsl)]), (11, AObj.grow 73 2 Gt ([], []) rowT t)] ⟨rfl, rfl, (show List.length (List.replicate (List.length t) () : List Unit) = List.length t from by simp)⟩ ?_
 refine gS [(4, CE.obj (AObj.grow 73 2 Gt ([], []) rowT (List.set t (k).toNat g)))] [(0 : Int) ≤ k, k < List.length t, StoreC ((k).toNat) 0 [.s (slO g.1), .s (slO g.2)] (AObj.grow 73 2 Gt ([], []) rowT t) (AObj.grow 73 2 Gt ([], []) rowT (List.set t (k).toNat g))] 22 [(6, vp 6 0), (7, vo 11)] [(6, AObj.row [.s (SC.nilsl)]), (11, AObj.grow 73 2 Gt ([], []) rowT (List.set t (k).toNat g))] ⟨(by omega), (by omega), (⟨g, rfl, by omega, rfl⟩)⟩ ?_
 refine gS [] [] 22 [(6, vp 6 0)] [(6, AObj.row [.own 11]), (11, AObj.grow 73 2 Gt ([], []) rowT (List.set t (k).toNat g))] trivial ?_
 refine AMx.ent (s' := AS.lst 22 [(6, vp 6 0)] [(6, AObj.row [.s (slT (List.set t (k).toNat g))])]) (ent_freeze (id := 11) (T := 73) (by kernel_rfl)) ?_
 exact gT (AV.t (TV.agg [.s (slT (List.set t (k).toNat g))])) rfl

theorem f21_body : Try.f21.body = some (.seq (.region 0 (rg Try.f21 0) false) (.seq (.seq (.region 1 (rg Try.f21 1) false) (.block 0 (.loop (.seq (.region 2 (rg Try.f21 2) false) (.seq (.cond (.tmp 12) (.skip) (.exit 0)) (.seq (.block 1 (.seq (.region 3 (rg Try.f21 3) false) (.seq (.region 4 (rg Try.f21 4) false) (.cond (.tmp 18) (.seq (.region 5 (rg Try.f21 5) false) (.ret)) (.skip))))) (.region 6 (rg Try.f21 6) false))))))) (.seq (.region 7 (rg Try.f21 7) false) (.ret)))) := by kernel_rfl

set_option maxRecDepth 100000 in
set_option maxHeartbeats 8000000 in
theorem TWaits_c (t : Tab) (w : Int) : Pure Try.prog 21 [TV.agg [.s (slT t)], tc (i6 w)] (AV.tup [tc (i6 (max 0 (waitIx t w))), tc (bo (decide (0 ≤ waitIx t w)))]) := by
 refine Pure.of_body Try.func21 f21_body (by kernel_rfl) Try.ntmps21 (by kernel_rfl) (by kernel_rfl) ?_
 refine AMx.celln 0 0 rfl rfl (fun hl => ?_)
 simp only [maxLen] at hl
 refine gS [] [] 21 [(1, vc (i6 w)), (2, vp 2 0)] [(2, AObj.row [.s (slT t)])] trivial ?_
 refine gQ ?_
 refine gS [] [] 21 [(1, vc (i6 w)), (9, vc (slT t)), (10, vc (i6 (List.length t : Int))), (11, vc (i6 0))] [] trivial ?_
 refine AMx.block ?_
 refine AMx.ent (s' := AS.lst 21 [(1, vc (i6 w)), (9, vc (slT t)), (10, vc (i6 (List.length t : Int))), (11, vc (i6 0))] []) (ent_proj [1, 9, 10, 11] []) ?_
 refine AMx.loop (fun mm ss => ∃ (k : Nat), (k ≤ t.length ∧ ∀ x ∈ List.take k t, (fun g : Gt => decide (0 ≤ findS g.2 w)) x = false) ∧ mm = t.length - k ∧ ss = AS.lst 21 [(1, vc (i6 w)), (9, vc (slT t)), (10, vc (i6 (List.length t : Int))), (11, vc (i6 (k : Int)))] []) ⟨0, ?_, rfl, ?_⟩ ?_
 · exact ⟨by omega, fun x hx => by simp at hx⟩
 · rfl
 rintro mm ss ⟨k, ⟨hI, hN⟩, rfl, rfl⟩
 refine gS [] [] 21 [(1, vc (i6 w)), (9, vc (slT t)), (10, vc (i6 (List.length t : Int))), (11, vc (i6 (k : Int))), (12, vc (bo (decide ((k : Int) < (List.length t : Int)))))] [] trivial ?_
 refine gQ ?_
 refine gC ((k : Int) < (List.length t : Int)) (fun hc1 => ?_) fun hc1 => ?_
 ·
  refine AMx.skip ?_
  refine gQ ?_
  refine AMx.block ?_
  refine gS [] [(0 : Int) ≤ (k : Int), (k : Int) < List.length t] 21 [(1, vc (i6 w)), (6, vc (i6 (k : Int))), (7, vp 7 0), (9, vc (slT t)), (10, vc (i6 (List.length t : Int))), (11, vc (i6 (k : Int)))] [(7, AObj.row [.s (slO ((List.getD t k ([], [])).1)), .s (slO ((List.getD t k ([], [])).2))])] ⟨(by omega), (show (k : Int) < List.length t from (by omega))⟩ ?_
  refine gS [(2, CE.call [] [] (vc (bo (decide (0 ≤ findS (List.getD t k ([], [])).2 w)))) [])] [Spec Try.prog 42 [TV.agg [.s (slO ((List.getD t k ([], [])).1)), .s (slO ((List.getD t k ([], [])).2))], tc (i6 w)] (ofH []) (vc (bo (decide (0 ≤ findS (List.getD t k ([], [])).2 w)))) (ofH [])] 21 [(1, vc (i6 w)), (6, vc (i6 (k : Int))), (9, vc (slT t)), (10, vc (i6 (List.length t : Int))), (11, vc (i6 (k : Int))), (18, vc (bo (decide (0 ≤ findS (List.getD t k ([], [])).2 w))))] [] (Waits_c (List.getD t k ([], [])) w) ?_
  refine gC (0 ≤ findS (List.getD t k ([], [])).2 w) (fun hc2 => ?_) fun hc2 => ?_
  ·
   refine gS [] [] 21 [(4, vc (i6 (k : Int))), (5, vc (bo true))] [] trivial ?_
   exact gT (AV.tup [tc (i6 (k : Int)), tc (bo true)]) (by unfold waitIx; rw [AL.Lib.idx_hit (p := (fun g : Gt => decide (0 ≤ findS g.2 w))) ([], []) t k (by omega) hN (decide_eq_true (by assumption)), Int.max_eq_right (by omega), decide_eq_true (by omega)])
  ·
   refine AMx.skip ?_
   refine AMx.blk ?_
   refine gR [] [InR .i64 ((k : Int) + 1)] 21 [(1, vc (i6 w)), (9, vc (slT t)), (10, vc (i6 (List.length t : Int))), (11, vc (i6 ((k : Int) + 1)))] [] (show InR .i64 ((k : Int) + 1) from (inR64 (by omega) (by omega))) ?_
   refine AMx.ent_inv (s' := AS.lst 21 [(1, vc (i6 w)), (9, vc (slT t)), (10, vc (i6 (List.length t : Int))), (11, vc (i6 ((k : Int) + 1)))] []) (ent_proj [1, 9, 10, 11] []) ?_
   refine AMx.inv ⟨_, ?_, k + 1, ?_, rfl, ?_⟩
   rotate_left
   · exact ⟨by omega, AL.Lib.all_step (p := (fun g : Gt => decide (0 ≤ findS g.2 w))) ([], []) t k (by omega) hN (decide_eq_false (by assumption))⟩
   · rfl
   · omega
 ·
  refine AMx.exit ?_
  refine AMx.code_exit ?_
  refine AMx.inv_exit ?_
  refine AMx.blk_exit ?_
  refine gS [] [] 21 [(4, vc (i6 0)), (5, vc (bo false))] [] trivial ?_
  exact gT (AV.tup [tc (i6 0), tc (bo false)]) (by unfold waitIx; rw [AL.Lib.idx_none (p := (fun g : Gt => decide (0 ≤ findS g.2 w))) (fun x hx => hN x (by rwa [List.take_of_length_le (by omega)]))]; rfl)

theorem f34_body : Try.f34.body = some (.seq (.region 0 (rg Try.f34 0) false) (.seq (.seq (.region 1 (rg Try.f34 1) false) (.block 0 (.loop (.seq (.region 2 (rg Try.f34 2) false) (.seq (.cond (.tmp 13) (.skip) (.exit 0)) (.seq (.block 1 (.seq (.region 3 (rg Try.f34 3) false) (.seq (.region 4 (rg Try.f34 4) false) (.cond (.tmp 30) (.seq (.region 5 (rg Try.f34 5) false) (.ret)) (.skip))))) (.region 6 (rg Try.f34 6) false))))))) (.seq (.region 7 (rg Try.f34 7) false) (.ret)))) := by kernel_rfl

set_option maxRecDepth 100000 in
set_option maxHeartbeats 8000000 in
theorem late_c (t : Tab) (w lock : Int) : Pure Try.prog 34 [TV.agg [.s (slT t)], tc (i6 w), tc (i6 lock)] (vc (bo (lateS t w lock))) := by
 refine Pure.of_body Try.func34 f34_body (by kernel_rfl) Try.ntmps34 (by kernel_rfl) (by kernel_rfl) ?_
 refine AMx.celln 0 0 rfl rfl (fun hl => ?_)
 simp only [maxLen] at hl
 refine gS [] [] 32 [(1, vc (i6 w)), (2, vc (i6 lock)), (3, vp 3 0)] [(3, AObj.row [.s (slT t)])] trivial ?_
 refine gQ ?_
 refine gS [] [] 32 [(1, vc (i6 w)), (2, vc (i6 lock)), (10, vc (slT t)), (11, vc (i6 (List.length t : Int))), (12, vc (i6 0))] [] trivial ?_
 refine AMx.block ?_
 refine AMx.ent (s' := AS.lst 32 [(1, vc (i6 w)), (2, vc (i6 lock)), (10, vc (slT t)), (11, vc (i6 (List.length t : Int))), (12, vc (i6 0))] []) (ent_proj [1, 2, 10, 11, 12] []) ?_
 refine AMx.loop (fun mm ss => ∃ (k : Nat), (k ≤ t.length ∧ ∀ i, i < k → late1 t w lock i = false) ∧ mm = t.length - k ∧ ss = AS.lst 32 [(1, vc (i6 w)), (2, vc (i6 lock)), (10, vc (slT t)), (11, vc (i6 (List.length t : Int))), (12, vc (i6 (k : Int)))] []) ⟨0, ?_, rfl, ?_⟩ ?_
 · exact ⟨by omega, fun i hi => by omega⟩
 · rfl
 rintro mm ss ⟨k, ⟨hI, hN⟩, rfl, rfl⟩
 refine gS [] [] 32 [(1, vc (i6 w)), (2, vc (i6 lock)), (10, vc (slT t)), (11, vc (i6 (List.length t : Int))), (12, vc (i6 (k : Int))), (13, vc (bo (decide ((k : Int) < (List.length t : Int)))))] [] trivial ?_
 refine gQ ?_
 refine gC ((k : Int) < (List.length t : Int)) (fun hc1 => ?_) fun hc1 => ?_
 ·
  refine AMx.skip ?_
  refine gQ ?_
  refine AMx.block ?_
  refine gS [] [(0 : Int) ≤ (k : Int), (k : Int) < List.length t] 32 [(1, vc (i6 w)), (2, vc (i6 lock)), (7, vc (i6 (k : Int))), (8, vp 8 0), (10, vc (slT t)), (11, vc (i6 (List.length t : Int))), (12, vc (i6 (k : Int)))] [(8, AObj.row [.s (slO ((List.getD t k ([], [])).1)), .s (slO ((List.getD t k ([], [])).2))])] ⟨(by omega), (show (k : Int) < List.length t from (by omega))⟩ ?_
  refine gS [(2, CE.call [] [] (vc (bo (decide (0 ≤ findS (List.getD t k ([], [])).2 w)))) []), (10, CE.call [] [] (vc (u8 (modeS (List.getD t k ([], [])).1 w))) [])] [Spec Try.prog 42 [TV.agg [.s (slO ((List.getD t k ([], [])).1)), .s (slO ((List.getD t k ([], [])).2))], tc (i6 w)] (ofH []) (vc (bo (decide (0 ≤ findS (List.getD t k ([], [])).2 w)))) (ofH []), ((decide (0 ≤ findS (List.getD t k ([], [])).2 w)) = false) → allP [(decide (0 ≤ findS (List.getD t k ([], [])).2 w)) = false, (decide (0 ≤ findS (List.getD t k ([], [])).2 w)) = false], ((decide (0 ≤ findS (List.getD t k ([], [])).2 w)) = false) → allP [(decide (0 ≤ findS (List.getD t k ([], [])).2 w)) = false], (((decide (0 ≤ findS (List.getD t k ([], [])).2 w)) = false) ∧ (decide (lock ≤ (k : Int))) = true) → allP [((decide (0 ≤ findS (List.getD t k ([], [])).2 w)) = false) ∧ (decide (lock ≤ (k : Int))) = true, ((decide (0 ≤ findS (List.getD t k ([], [])).2 w)) = false) ∧ (decide (lock ≤ (k : Int))) = true, Spec Try.prog 43 [TV.agg [.s (slO ((List.getD t k ([], [])).1)), .s (slO ((List.getD t k ([], [])).2))], tc (i6 w)] (ofH []) (vc (u8 (modeS (List.getD t k ([], [])).1 w))) (ofH [])], (((decide (0 ≤ findS (List.getD t k ([], [])).2 w)) = false) ∧ (decide (lock ≤ (k : Int))) = true) → allP [((decide (0 ≤ findS (List.getD t k ([], [])).2 w)) = false) ∧ (decide (lock ≤ (k : Int))) = true], ((decide (0 ≤ findS (List.getD t k ([], [])).2 w)) = false) → allP [(decide (0 ≤ findS (List.getD t k ([], [])).2 w)) = false, (decide (lock ≤ (k : Int))) = true → allP [((decide (0 ≤ findS (List.getD t k ([], [])).2 w)) = false) ∧ (decide (lock ≤ (k : Int))) = true]], (decide (0 ≤ findS (List.getD t k ([], [])).2 w)) = false → allP [(decide (0 ≤ findS (List.getD t k ([], [])).2 w)) = false]] 32 [(1, vc (i6 w)), (2, vc (i6 lock)), (10, vc (slT t)), (11, vc (i6 (List.length t : Int))), (12, vc (i6 (k : Int))), (30, vc (bo ((decide (0 ≤ findS (List.getD t k ([], [])).2 w)) || ((decide (lock ≤ (k : Int))) && (!decide (modeS (List.getD t k ([], [])).1 w = 0))))))] [] ⟨(Waits_c (List.getD t k ([], [])) w), (fun hp => ⟨hp, hp⟩), (fun hp => hp), (fun hp => by have hq := hp; (try simp only [xT, xF, xA, xO, xB, xP, xN, xM, Bool.not_eq_true, Bool.not_eq_false] at hq); exact ⟨hp, hp, (Holds_c (List.getD t k ([], [])) w)⟩), (fun hp => hp), (fun hp => by have hq := hp; (try simp only [xT, xF, xA, xO, xB, xP, xN, xM, Bool.not_eq_true, Bool.not_eq_false] at hq); exact ⟨hp, (fun hp2 => (by first | exact hp2 | exact ⟨hp, hp2⟩))⟩), (fun hp2 => (by first | exact hp2 | exact ⟨hp, hp2⟩))⟩ ?_
  refine gB (((decide (0 ≤ findS (List.getD t k ([], [])).2 w)) || ((decide (lock ≤ (k : Int))) && (!decide (modeS (List.getD t k ([], [])).1 w = 0))))) (fun hc2 => ?_) fun hc2 => ?_
  ·
   try simp only [xT, xF, xA, xB, xO, xP, xN, xM] at hc2
   refine gS [] [] 32 [(6, vc (bo true))] [] trivial ?_
   exact gT (vc (bo true)) (by rw [late_t (i := k) (by omega) (by unfold late1; simp only [Bool.or_eq_true, Bool.and_eq_true, decide_eq_true_eq, Bool.not_eq_true', decide_eq_false_iff_not]; exact hc2)])
  ·
   try simp only [xT, xF, xA, xB, xO, xP, xN, xM] at hc2
   refine AMx.skip ?_
   refine AMx.blk ?_
   refine gR [] [InR .i64 ((k : Int) + 1)] 32 [(1, vc (i6 w)), (2, vc (i6 lock)), (10, vc (slT t)), (11, vc (i6 (List.length t : Int))), (12, vc (i6 ((k : Int) + 1)))] [] (show InR .i64 ((k : Int) + 1) from (inR64 (by omega) (by omega))) ?_
   refine AMx.ent_inv (s' := AS.lst 32 [(1, vc (i6 w)), (2, vc (i6 lock)), (10, vc (slT t)), (11, vc (i6 (List.length t : Int))), (12, vc (i6 ((k : Int) + 1)))] []) (ent_proj [1, 2, 10, 11, 12] []) ?_
   refine AMx.inv ⟨_, ?_, k + 1, ?_, rfl, ?_⟩
   rotate_left
   · refine ⟨by omega, late_step hN ?_⟩; unfold late1; simp only [Bool.or_eq_false_iff, Bool.and_eq_false_iff, decide_eq_false_iff_not, Bool.not_eq_false', decide_eq_true_eq]; exact hc2
   · rfl
   · omega
 ·
  refine AMx.exit ?_
  refine AMx.code_exit ?_
  refine AMx.inv_exit ?_
  refine AMx.blk_exit ?_
  refine gS [] [] 32 [(6, vc (bo false))] [] trivial ?_
  exact gT (vc (bo false)) (by rw [late_f (fun i hi => hN i (by omega))])

theorem f22_body : Try.f22.body = some (.seq (.region 0 (rg Try.f22 0) false) (.seq (.region 1 (rg Try.f22 1) false) (.seq (.seq (.region 2 (rg Try.f22 2) false) (.block 0 (.loop (.seq (.region 3 (rg Try.f22 3) false) (.seq (.cond (.tmp 12) (.skip) (.exit 0)) (.seq (.block 1 (.seq (.region 4 (rg Try.f22 4) false) (.seq (.region 5 (rg Try.f22 5) false) (.cond (.tmp 19) (.region 6 (rg Try.f22 6) false) (.skip))))) (.region 7 (rg Try.f22 7) false))))))) (.seq (.region 8 (rg Try.f22 8) false) (.ret))))) := by kernel_rfl

set_option maxRecDepth 100000 in
set_option maxHeartbeats 8000000 in
theorem THeld_c (t : Tab) (w : Int) (hb : t.length ≤ 100) : Pure Try.prog 22 [TV.agg [.s (slT t)], tc (i6 w)] (vc (slI (heldS t w t.length))) := by
 refine Pure.of_body Try.func22 f22_body (by kernel_rfl) Try.ntmps22 (by kernel_rfl) (by kernel_rfl) ?_
 refine gS [] [] 26 [(1, vc (i6 w)), (2, vp 2 0)] [(2, AObj.row [.s (slT t)])] trivial ?_
 refine gS [] [] 26 [(1, vc (i6 w)), (2, vp 2 0), (5, vc (SC.nilsl))] [(2, AObj.row [.s (slT t)])] trivial ?_
 refine gQ ?_
 refine gS [] [] 26 [(1, vc (i6 w)), (5, vc (SC.nilsl)), (9, vc (slT t)), (10, vc (i6 (List.length t : Int))), (11, vc (i6 0))] [] trivial ?_
 refine AMx.block ?_
 refine AMx.ent (s' := AS.lst 26 [(1, vc (i6 w)), (5, vo 5), (9, vc (slT t)), (10, vc (i6 (List.length t : Int))), (11, vc (i6 0))] [(5, AObj.grow 3 1 Int 0 rowI [])]) (ent_adopt (t := 5) (d := 5) 3 1 Int 0 rowI (by kernel_rfl) (by kernel_rfl) (by kernel_rfl) (by kernel_rfl)) ?_
 refine AMx.ent (s' := AS.lst 26 [(1, vc (i6 w)), (5, vo 5), (9, vc (slT t)), (10, vc (i6 (List.length t : Int))), (11, vc (i6 0))] [(5, AObj.grow 3 1 Int 0 rowI [])]) (ent_proj [1, 5, 9, 10, 11] [5]) ?_
 refine AMx.loop (fun mm ss => ∃ (k : Nat), (k ≤ t.length) ∧ mm = t.length - k ∧ ss = AS.lst 26 [(1, vc (i6 w)), (5, vo 5), (9, vc (slT t)), (10, vc (i6 (List.length t : Int))), (11, vc (i6 (k : Int)))] [(5, AObj.grow 3 1 Int 0 rowI (heldS t w k))]) ⟨0, ?_, rfl, ?_⟩ ?_
 · omega
 · rfl
 rintro mm ss ⟨k, hI, rfl, rfl⟩
 refine gS [] [] 26 [(1, vc (i6 w)), (5, vo 5), (9, vc (slT t)), (10, vc (i6 (List.length t : Int))), (11, vc (i6 (k : Int))), (12, vc (bo (decide ((k : Int) < (List.length t : Int)))))] [(5, AObj.grow 3 1 Int 0 rowI (heldS t w k))] trivial ?_
 refine gQ ?_
 refine gC ((k : Int) < (List.length t : Int)) (fun hc1 => ?_) fun hc1 => ?_
 ·
  refine AMx.skip ?_
  refine gQ ?_
  refine AMx.block ?_
  refine gS [] [(0 : Int) ≤ (k : Int), (k : Int) < List.length t] 26 [(1, vc (i6 w)), (5, vo 5), (6, vc (i6 (k : Int))), (7, vp 7 0), (9, vc (slT t)), (10, vc (i6 (List.length t : Int))), (11, vc (i6 (k : Int)))] [(5, AObj.grow 3 1 Int 0 rowI (heldS t w k)), (7, AObj.row [.s (slO ((List.getD t k ([], [])).1)), .s (slO ((List.getD t k ([], [])).2))])] ⟨(by first | omega | (have hh := held_len t w k; omega)), (show (k : Int) < List.length t from (by first | omega | (have hh := held_len t w k; omega)))⟩ ?_
  refine gS [(2, CE.call [] [] (vc (u8 (modeS (List.getD t k ([], [])).1 w))) [])] [Spec Try.prog 43 [TV.agg [.s (slO ((List.getD t k ([], [])).1)), .s (slO ((List.getD t k ([], [])).2))], tc (i6 w)] (ofH []) (vc (u8 (modeS (List.getD t k ([], [])).1 w))) (ofH [])] 26 [(1, vc (i6 w)), (5, vo 5), (6, vc (i6 (k : Int))), (9, vc (slT t)), (10, vc (i6 (List.length t : Int))), (11, vc (i6 (k : Int))), (19, vc (bo (!decide (modeS (List.getD t k ([], [])).1 w = 0))))] [(5, AObj.grow 3 1 Int 0 rowI (heldS t w k))] (Holds_c (List.getD t k ([], [])) w) ?_
  refine gN (modeS (List.getD t k ([], [])).1 w = 0) (fun hc2 => ?_) fun hc2 => ?_
  ·
   refine gR [(2, CE.obj (AObj.grow 3 1 Int 0 rowI [(k : Int)])), (3, CE.obj (AObj.grow 3 1 Int 0 rowI ((heldS t w k) ++ [(k : Int)])))] [flat 1 rowI [(k : Int)] = [.s (i6 (k : Int))], List.length ([(k : Int)] : List Int) = 1, AppC (flat 1 rowI [(k : Int)]) (List.length ([(k : Int)] : List Int)) 8 (AObj.grow 3 1 Int 0 rowI (heldS t w k)) (AObj.grow 3 1 Int 0 rowI ((heldS t w k) ++ [(k : Int)]))] 26 [(1, vc (i6 w)), (5, vo 23), (9, vc (slT t)), (10, vc (i6 (List.length t : Int))), (11, vc (i6 (k : Int)))] [(23, AObj.grow 3 1 Int 0 rowI ((heldS t w k) ++ [(k : Int)]))] ⟨rfl, rfl, (⟨_, rfl, rfl, rfl, by have hh := held_len t w k; simp only [List.length_cons, List.length_nil]; omega, by have hh := held_len t w k; simp only [maxLen, List.length_cons, List.length_nil]; omega⟩)⟩ ?_
   refine AMx.blk ?_
   refine gR [] [InR .i64 ((k : Int) + 1)] 26 [(1, vc (i6 w)), (5, vo 23), (9, vc (slT t)), (10, vc (i6 (List.length t : Int))), (11, vc (i6 ((k : Int) + 1)))] [(23, AObj.grow 3 1 Int 0 rowI ((heldS t w k) ++ [(k : Int)]))] (show InR .i64 ((k : Int) + 1) from (inR64 (by first | omega | (have hh := held_len t w k; omega)) (by first | omega | (have hh := held_len t w k; omega)))) ?_
   refine AMx.ent_inv (s' := AS.lst 26 [(1, vc (i6 w)), (5, vo 5), (9, vc (slT t)), (10, vc (i6 (List.length t : Int))), (11, vc (i6 ((k : Int) + 1)))] [(5, AObj.grow 3 1 Int 0 rowI ((heldS t w k) ++ [(k : Int)]))]) (ent_swap 23 5 (by kernel_rfl) (by kernel_rfl)) ?_
   refine AMx.ent_inv (s' := AS.lst 26 [(1, vc (i6 w)), (5, vo 5), (9, vc (slT t)), (10, vc (i6 (List.length t : Int))), (11, vc (i6 ((k : Int) + 1)))] [(5, AObj.grow 3 1 Int 0 rowI ((heldS t w k) ++ [(k : Int)]))]) (ent_proj [1, 5, 9, 10, 11] [5]) ?_
   refine AMx.inv ⟨_, ?_, k + 1, ?_, rfl, ?_⟩
   rotate_left
   · omega
   · rw [held_t t w k (by assumption)]; rfl
   · omega
  ·
   refine AMx.skip ?_
   refine AMx.blk ?_
   refine gR [] [InR .i64 ((k : Int) + 1)] 26 [(1, vc (i6 w)), (5, vo 5), (9, vc (slT t)), (10, vc (i6 (List.length t : Int))), (11, vc (i6 ((k : Int) + 1)))] [(5, AObj.grow 3 1 Int 0 rowI (heldS t w k))] (show InR .i64 ((k : Int) + 1) from (inR64 (by first | omega | (have hh := held_len t w k; omega)) (by first | omega | (have hh := held_len t w k; omega)))) ?_
   refine AMx.ent_inv (s' := AS.lst 26 [(1, vc (i6 w)), (5, vo 5), (9, vc (slT t)), (10, vc (i6 (List.length t : Int))), (11, vc (i6 ((k : Int) + 1)))] [(5, AObj.grow 3 1 Int 0 rowI (heldS t w k))]) (ent_proj [1, 5, 9, 10, 11] [5]) ?_
   refine AMx.inv ⟨_, ?_, k + 1, ?_, rfl, ?_⟩
   rotate_left
   · omega
   · rw [held_f t w k (by assumption)]; rfl
   · omega
 ·
  refine AMx.exit ?_
  refine AMx.code_exit ?_
  refine AMx.inv_exit ?_
  refine AMx.blk_exit ?_
  refine gS [] [] 26 [(4, vo 5)] [(5, AObj.grow 3 1 Int 0 rowI (heldS t w k))] trivial ?_
  refine AMx.ent (s' := AS.lst 26 [(4, vc (slI (heldS t w k)))] []) (ent_freeze (id := 5) (T := 3) (by kernel_rfl)) ?_
  exact gT (vc (slI (heldS t w k))) (by rw [show k = t.length by omega])

end AL.Locks
