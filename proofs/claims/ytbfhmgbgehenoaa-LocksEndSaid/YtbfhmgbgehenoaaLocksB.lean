/- locks: the contracts of its functions, by their walks. No condition. -/
import Derived.Test.YtbfhmgbgehenoaaLocksA
namespace AL.Locks
open Go Go.Proofs AL AL.Fnv AL.Gate
set_option linter.unusedVariables false
set_option linter.unusedSimpArgs false

theorem f15_body : Try.f15.body = some (.seq (.region 0 (rg Try.f15 0) false) (.seq (.block 0 (.seq (.region 1 (rg Try.f15 1) false) (.cond (.tmp 14) (.seq (.region 2 (rg Try.f15 2) false) (.ret)) (.seq (.region 3 (rg Try.f15 3) false) (.cond (.tmp 20) (.seq (.region 4 (rg Try.f15 4) false) (.ret)) (.seq (.region 5 (rg Try.f15 5) false) (.cond (.tmp 32) (.seq (.region 6 (rg Try.f15 6) false) (.ret)) (.skip)))))))) (.seq (.region 7 (rg Try.f15 7) false) (.seq (.region 8 (rg Try.f15 8) false) (.ret))))) := by kernel_rfl

set_option maxRecDepth 100000 in
set_option maxHeartbeats 8000000 in
theorem TAsk_c (t : Tab) (w lock m : Int) (n : Nat) (hg : GoodT n t) (hn : n ≤ 80000) : Pure Try.prog 15 [TV.agg [.s (slT t)], tc (i6 w), tc (i6 lock), tc (u8 m)] (AV.tup [TV.agg [.s (slT ((askT t w lock m).1))], tc (bo ((askT t w lock m).2.1)), tc (i6 ((askT t w lock m).2.2))]) := by
 refine Pure.of_body Try.func15 f15_body (by kernel_rfl) Try.ntmps15 (by kernel_rfl) (by kernel_rfl) ?_
 refine gS [] [] 56 [(1, vc (i6 w)), (2, vc (i6 lock)), (3, vc (u8 m)), (4, vp 4 0), (8, vp 8 0)] [(4, AObj.row [.s (slT t)]), (8, AObj.row [.s (SC.nilsl)])] trivial ?_
 refine gQ ?_
 refine AMx.block ?_
 refine gS [(2, CE.call [] [] (vc (bo (hasS t lock))) [])] [Spec Try.prog 29 [TV.agg [.s (slT t)], tc (i6 lock)] (ofH []) (vc (bo (hasS t lock))) (ofH [])] 56 [(1, vc (i6 w)), (2, vc (i6 lock)), (3, vc (u8 m)), (4, vp 4 0), (8, vp 8 0), (14, vc (bo (!(hasS t lock))))] [(4, AObj.row [.s (slT t)]), (8, AObj.row [.s (SC.nilsl)])] (has_c t lock) ?_
 refine gB (!(hasS t lock)) (fun hc1 => ?_) fun hc1 => ?_
 ·
  try simp only [xT, xF, xN, xM] at hc1
  refine gS [] [] 56 [(8, vp 8 0), (9, vc (bo false)), (10, vc (i6 8))] [(8, AObj.row [.s (slT t)])] trivial ?_
  exact gT (AV.tup [TV.agg [.s (slT t)], tc (bo false), tc (i6 8)]) (by rw [show askT t w lock m = (t, false, 8) from ask_1 hc1])
 ·
  try simp only [xT, xF, xN, xM] at hc1
  refine gS [] [((decide (w < 0)) = false) → allP [(decide (w < 0)) = false], ((decide (w < 0)) = false) → allP [(decide (w < 0)) = false], (((decide (w < 0)) = false) ∧ (!decide (m = 1)) = true) → allP [((decide (w < 0)) = false) ∧ (!decide (m = 1)) = true], ((decide (w < 0)) = false) → allP [(decide (w < 0)) = false, (!decide (m = 1)) = true → allP [((decide (w < 0)) = false) ∧ (!decide (m = 1)) = true]], (decide (w < 0)) = false → allP [(decide (w < 0)) = false]] 56 [(1, vc (i6 w)), (2, vc (i6 lock)), (3, vc (u8 m)), (4, vp 4 0), (8, vp 8 0), (20, vc (bo ((decide (w < 0)) || ((!decide (m = 1)) && (!decide (m = 2))))))] [(4, AObj.row [.s (slT t)]), (8, AObj.row [.s (SC.nilsl)])] ⟨(fun hp => hp), (fun hp => hp), (fun hp => hp), (fun hp => by have hq := hp; (try simp only [xT, xF, xA, xO, xB, xP, xN, xM, Bool.not_eq_true, Bool.not_eq_false] at hq); exact ⟨hp, (fun hp2 => (by first | exact hp2 | exact ⟨hp, hp2⟩))⟩), (fun hp2 => (by first | exact hp2 | exact ⟨hp, hp2⟩))⟩ ?_
  refine gB (((decide (w < 0)) || ((!decide (m = 1)) && (!decide (m = 2))))) (fun hc2 => ?_) fun hc2 => ?_
  ·
   try simp only [xT, xF, xA, xB, xO, xP, xN, xM] at hc2
   refine gS [] [] 56 [(8, vp 8 0), (9, vc (bo false)), (10, vc (i6 2))] [(8, AObj.row [.s (slT t)])] trivial ?_
   exact gT (AV.tup [TV.agg [.s (slT t)], tc (bo false), tc (i6 2)]) (by rw [show askT t w lock m = (t, false, 2) from ask_2 hc1 (by omega)])
  ·
   try simp only [xT, xF, xA, xB, xO, xP, xN, xM] at hc2
   refine gS [(3, CE.call [] [] (vc (bo (lateS t w lock))) [])] [Spec Try.prog 34 [TV.agg [.s (slT t)], tc (i6 w), tc (i6 lock)] (ofH []) (vc (bo (lateS t w lock))) (ofH [])] 56 [(1, vc (i6 w)), (2, vc (i6 lock)), (3, vc (u8 m)), (4, vp 4 0), (8, vp 8 0), (32, vc (bo (lateS t w lock)))] [(4, AObj.row [.s (slT t)]), (8, AObj.row [.s (SC.nilsl)])] (late_c t w lock) ?_
   refine gB (lateS t w lock) (fun hc3 => ?_) fun hc3 => ?_
   ·
    try simp only [xT, xF] at hc3
    refine gS [] [] 56 [(8, vp 8 0), (9, vc (bo false)), (10, vc (i6 9))] [(8, AObj.row [.s (slT t)])] trivial ?_
    exact gT (AV.tup [TV.agg [.s (slT t)], tc (bo false), tc (i6 9)]) (by rw [show askT t w lock m = (t, false, 9) from ask_3 hc1 (by omega) hc3])
   ·
    try simp only [xT, xF] at hc3
    refine AMx.skip ?_
    refine AMx.blk ?_
    refine gS [(7, CE.call [] [] (AV.tup [TV.agg [.s (slO (((askS (List.getD t (lock).toNat ([], [])) w m).1).1)), .s (slO (((askS (List.getD t (lock).toNat ([], [])) w m).1).2))], tc (bo ((askS (List.getD t (lock).toNat ([], [])) w m).2.1)), tc (i6 ((askS (List.getD t (lock).toNat ([], [])) w m).2.2))]) [])] [(0 : Int) ≤ lock, lock < List.length t, Spec Try.prog 35 [TV.agg [.s (slO ((List.getD t (lock).toNat ([], [])).1)), .s (slO ((List.getD t (lock).toNat ([], [])).2))], tc (i6 w), tc (u8 m)] (ofH []) (AV.tup [TV.agg [.s (slO (((askS (List.getD t (lock).toNat ([], [])) w m).1).1)), .s (slO (((askS (List.getD t (lock).toNat ([], [])) w m).1).2))], tc (bo ((askS (List.getD t (lock).toNat ([], [])) w m).2.1)), tc (i6 ((askS (List.getD t (lock).toNat ([], [])) w m).2.2))]) (ofH [])] 56 [(2, vc (i6 lock)), (4, vp 4 0), (8, vp 8 0), (11, vp 11 0), (12, vc (bo ((askS (List.getD t (lock).toNat ([], [])) w m).2.1))), (13, vc (i6 ((askS (List.getD t (lock).toNat ([], [])) w m).2.2)))] [(4, AObj.row [.s (slT t)]), (8, AObj.row [.s (SC.nilsl)]), (11, AObj.row [.s (slO (((askS (List.getD t (lock).toNat ([], [])) w m).1).1)), .s (slO (((askS (List.getD t (lock).toNat ([], [])) w m).1).2))])] ⟨(by first | omega | (have hl := hg.1; have hh := has_iff.1 hc1; omega)), (by first | omega | (have hl := hg.1; have hh := has_iff.1 hc1; omega)), (Ask_c (List.getD t (lock).toNat ([], [])) w m (by exact (good_at hg (by first | exact has_iff.1 hc1 | omega)).1) (by have hz := (good_at hg (k := lock) (by first | exact has_iff.1 hc1 | omega)).2; unfold sizeS at hz; omega))⟩ ?_
    refine gS [(3, CE.call [] [] (AV.t (TV.agg [.s (slT (withS t lock ((askS (List.getD t (lock).toNat ([], [])) w m).1)))])) [])] [Spec Try.prog 31 [TV.agg [.s (slT t)], tc (i6 lock), TV.agg [.s (slO (((askS (List.getD t (lock).toNat ([], [])) w m).1).1)), .s (slO (((askS (List.getD t (lock).toNat ([], [])) w m).1).2))]] (ofH []) (AV.t (TV.agg [.s (slT (withS t lock ((askS (List.getD t (lock).toNat ([], [])) w m).1)))])) (ofH [])] 56 [(8, vp 8 0), (9, vc (bo ((askS (List.getD t (lock).toNat ([], [])) w m).2.1))), (10, vc (i6 ((askS (List.getD t (lock).toNat ([], [])) w m).2.2)))] [(8, AObj.row [.s (slT (withS t lock ((askS (List.getD t (lock).toNat ([], [])) w m).1)))])] (with_c t lock ((askS (List.getD t (lock).toNat ([], [])) w m).1) (by first | omega | (have hl := hg.1; have hh := has_iff.1 hc1; omega)) (by first | omega | (have hl := hg.1; have hh := has_iff.1 hc1; omega))) ?_
    exact gT (AV.tup [TV.agg [.s (slT (withS t lock ((askS (List.getD t (lock).toNat ([], [])) w m).1)))], tc (bo ((askS (List.getD t (lock).toNat ([], [])) w m).2.1)), tc (i6 ((askS (List.getD t (lock).toNat ([], [])) w m).2.2))]) (by rw [show askT t w lock m = (withS t lock ((askS (List.getD t (lock).toNat ([], [])) w m).1), (askS (List.getD t (lock).toNat ([], [])) w m).2.1, (askS (List.getD t (lock).toNat ([], [])) w m).2.2) from ask_4 hc1 (by omega) hc3])

theorem f11_body : Try.f11.body = some (.seq (.region 0 (rg Try.f11 0) false) (.seq (.seq (.region 1 (rg Try.f11 1) false) (.cond (.tmp 14) (.seq (.region 2 (rg Try.f11 2) false) (.ret)) (.skip))) (.seq (.region 3 (rg Try.f11 3) false) (.seq (.seq (.region 4 (rg Try.f11 4) false) (.cond (.tmp 28) (.seq (.region 5 (rg Try.f11 5) false) (.ret)) (.skip))) (.seq (.region 6 (rg Try.f11 6) false) (.ret)))))) := by kernel_rfl

set_option maxRecDepth 100000 in
set_option maxHeartbeats 8000000 in
theorem TLeave_c (t : Tab) (w lock : Int) (n : Nat) (hg : GoodT n t) (hn : n ≤ 80000) : Pure Try.prog 11 [TV.agg [.s (slT t)], tc (i6 w), tc (i6 lock)] (AV.tup [TV.agg [.s (slT ((leaveT t w lock).1))], tc (i6 ((leaveT t w lock).2))]) := by
 refine Pure.of_body Try.func11 f11_body (by kernel_rfl) Try.ntmps11 (by kernel_rfl) (by kernel_rfl) ?_
 refine gS [] [] 35 [(1, vc (i6 w)), (2, vc (i6 lock)), (3, vp 3 0), (6, vp 6 0)] [(3, AObj.row [.s (slT t)]), (6, AObj.row [.s (SC.nilsl)])] trivial ?_
 refine gQ ?_
 refine gS [(2, CE.call [] [] (vc (bo (hasS t lock))) [])] [Spec Try.prog 29 [TV.agg [.s (slT t)], tc (i6 lock)] (ofH []) (vc (bo (hasS t lock))) (ofH [])] 35 [(1, vc (i6 w)), (2, vc (i6 lock)), (3, vp 3 0), (6, vp 6 0), (14, vc (bo (!(hasS t lock))))] [(3, AObj.row [.s (slT t)]), (6, AObj.row [.s (SC.nilsl)])] (has_c t lock) ?_
 refine gB (!(hasS t lock)) (fun hc1 => ?_) fun hc1 => ?_
 ·
  try simp only [xT, xF, xN, xM] at hc1
  refine gS [] [] 35 [(6, vp 6 0), (7, vc (i6 8))] [(6, AObj.row [.s (slT t)])] trivial ?_
  exact gT (AV.tup [TV.agg [.s (slT t)], tc (i6 8)]) (by rw [show leaveT t w lock = (t, 8) from leave_1 hc1])
 ·
  try simp only [xT, xF, xN, xM] at hc1
  refine AMx.skip ?_
  refine gS [(6, CE.call [] [] (AV.tup [TV.agg [.s (slO (((leaveS (List.getD t (lock).toNat ([], [])) w).1).1)), .s (slO (((leaveS (List.getD t (lock).toNat ([], [])) w).1).2))], tc (slI ((leaveS (List.getD t (lock).toNat ([], [])) w).2.1)), tc (i6 ((leaveS (List.getD t (lock).toNat ([], [])) w).2.2))]) [])] [(0 : Int) ≤ lock, lock < List.length t, Spec Try.prog 30 [TV.agg [.s (slO ((List.getD t (lock).toNat ([], [])).1)), .s (slO ((List.getD t (lock).toNat ([], [])).2))], tc (i6 w)] (ofH []) (AV.tup [TV.agg [.s (slO (((leaveS (List.getD t (lock).toNat ([], [])) w).1).1)), .s (slO (((leaveS (List.getD t (lock).toNat ([], [])) w).1).2))], tc (slI ((leaveS (List.getD t (lock).toNat ([], [])) w).2.1)), tc (i6 ((leaveS (List.getD t (lock).toNat ([], [])) w).2.2))]) (ofH [])] 35 [(2, vc (i6 lock)), (3, vp 3 0), (6, vp 6 0), (8, vp 8 0), (10, vc (i6 ((leaveS (List.getD t (lock).toNat ([], [])) w).2.2)))] [(3, AObj.row [.s (slT t)]), (6, AObj.row [.s (SC.nilsl)]), (8, AObj.row [.s (slO (((leaveS (List.getD t (lock).toNat ([], [])) w).1).1)), .s (slO (((leaveS (List.getD t (lock).toNat ([], [])) w).1).2))])] ⟨(by first | omega | (have hl := hg.1; have hh := has_iff.1 hc1; omega)), (by first | omega | (have hl := hg.1; have hh := has_iff.1 hc1; omega)), (Leave_c (List.getD t (lock).toNat ([], [])) w (by exact (good_at hg (by first | exact has_iff.1 hc1 | omega)).1) (by have hz := (good_at hg (k := lock) (by first | exact has_iff.1 hc1 | omega)).2; unfold sizeS at hz; omega))⟩ ?_
  refine gQ ?_
  refine gS [] [] 35 [(2, vc (i6 lock)), (3, vp 3 0), (6, vp 6 0), (8, vp 8 0), (10, vc (i6 ((leaveS (List.getD t (lock).toNat ([], [])) w).2.2))), (28, vc (bo (!decide ((leaveS (List.getD t (lock).toNat ([], [])) w).2.2 = 0))))] [(3, AObj.row [.s (slT t)]), (6, AObj.row [.s (SC.nilsl)]), (8, AObj.row [.s (slO (((leaveS (List.getD t (lock).toNat ([], [])) w).1).1)), .s (slO (((leaveS (List.getD t (lock).toNat ([], [])) w).1).2))])] trivial ?_
  refine gN ((leaveS (List.getD t (lock).toNat ([], [])) w).2.2 = 0) (fun hc2 => ?_) fun hc2 => ?_
  ·
   refine gS [] [] 35 [(6, vp 6 0), (7, vc (i6 ((leaveS (List.getD t (lock).toNat ([], [])) w).2.2)))] [(6, AObj.row [.s (slT t)])] trivial ?_
   exact gT (AV.tup [TV.agg [.s (slT t)], tc (i6 ((leaveS (List.getD t (lock).toNat ([], [])) w).2.2))]) (by rw [show leaveT t w lock = (t, (leaveS (List.getD t (lock).toNat ([], [])) w).2.2) from leave_2 hc1 hc2])
  ·
   refine AMx.skip ?_
   refine gS [(3, CE.call [] [] (AV.t (TV.agg [.s (slT (withS t lock ((leaveS (List.getD t (lock).toNat ([], [])) w).1)))])) [])] [Spec Try.prog 31 [TV.agg [.s (slT t)], tc (i6 lock), TV.agg [.s (slO (((leaveS (List.getD t (lock).toNat ([], [])) w).1).1)), .s (slO (((leaveS (List.getD t (lock).toNat ([], [])) w).1).2))]] (ofH []) (AV.t (TV.agg [.s (slT (withS t lock ((leaveS (List.getD t (lock).toNat ([], [])) w).1)))])) (ofH [])] 35 [(6, vp 6 0), (7, vc (i6 0))] [(6, AObj.row [.s (slT (withS t lock ((leaveS (List.getD t (lock).toNat ([], [])) w).1)))])] (with_c t lock ((leaveS (List.getD t (lock).toNat ([], [])) w).1) (by first | omega | (have hl := hg.1; have hh := has_iff.1 hc1; omega)) (by first | omega | (have hl := hg.1; have hh := has_iff.1 hc1; omega))) ?_
   exact gT (AV.tup [TV.agg [.s (slT (withS t lock ((leaveS (List.getD t (lock).toNat ([], [])) w).1)))], tc (i6 0)]) (by rw [show leaveT t w lock = (withS t lock ((leaveS (List.getD t (lock).toNat ([], [])) w).1), 0) from leave_3 hc1 hc2])

theorem f13_body : Try.f13.body = some (.seq (.region 0 (rg Try.f13 0) false) (.seq (.seq (.region 1 (rg Try.f13 1) false) (.block 0 (.loop (.seq (.seq (.region 2 (rg Try.f13 2) false) (.cond (.tmp 13) (.skip) (.exit 0))) (.seq (.block 1 (.seq (.region 4 (rg Try.f13 4) false) (.seq (.region 5 (rg Try.f13 5) false) (.cond (.tmp 24) (.region 6 (rg Try.f13 6) false) (.skip))))) (.region 3 (rg Try.f13 3) false)))))) (.seq (.region 7 (rg Try.f13 7) false) (.ret)))) := by kernel_rfl

set_option maxRecDepth 100000 in
set_option maxHeartbeats 8000000 in
theorem TQuit_c (t : Tab) (w : Int) (n : Nat) (hg : GoodT n t) (hn : n ≤ 80000) : Pure Try.prog 13 [TV.agg [.s (slT t)], tc (i6 w)] (AV.t (TV.agg [.s (slT (quitT w t.length t))])) := by
 refine Pure.of_body Try.func13 f13_body (by kernel_rfl) Try.ntmps13 (by kernel_rfl) (by kernel_rfl) ?_
 refine gS [] [] 27 [(1, vc (i6 w)), (2, vp 2 0), (4, vp 4 0)] [(2, AObj.row [.s (slT t)]), (4, AObj.row [.s (SC.nilsl)])] trivial ?_
 refine gQ ?_
 refine gS [] [InR .i64 ((List.length t : Int) - 1)] 27 [(1, vc (i6 w)), (2, vp 2 0), (4, vp 4 0), (5, vc (i6 ((List.length t : Int) - 1)))] [(2, AObj.row [.s (slT t)]), (4, AObj.row [.s (SC.nilsl)])] (show InR .i64 ((List.length t : Int) - 1) from (inR64 (by first | omega | (have hl := hg.1; omega)) (by first | omega | (have hl := hg.1; omega)))) ?_
 refine AMx.block ?_
 refine AMx.ent (s' := AS.lst 27 [(1, vc (i6 w)), (2, vp 2 0), (4, vp 4 0), (5, vc (i6 ((List.length t : Int) - 1)))] [(2, AObj.row [.s (slT t)]), (4, AObj.row [.s (SC.nilsl)])]) (ent_proj [1, 2, 4, 5] [2, 4]) ?_
 refine AMx.loop (fun mm ss => ∃ (k : Nat) (tt : Tab), (k ≤ t.length ∧ tt.length = t.length ∧ GoodT n tt ∧ quitT w t.length t = quitT w k tt) ∧ mm = 1 + k ∧ ss = AS.lst 27 [(1, vc (i6 w)), (2, vp 2 0), (4, vp 4 0), (5, vc (i6 ((k : Int) - 1)))] [(2, AObj.row [.s (slT tt)]), (4, AObj.row [.s (SC.nilsl)])]) ⟨t.length, t, ?_, rfl, ?_⟩ ?_
 · exact ⟨Nat.le_refl _, rfl, hg, rfl⟩
 · rfl
 rintro mm ss ⟨k, tt, ⟨hI, hL, hG, hQ⟩, rfl, rfl⟩
 refine gQ ?_
 refine gS [] [] 27 [(1, vc (i6 w)), (2, vp 2 0), (4, vp 4 0), (5, vc (i6 ((k : Int) - 1))), (13, vc (bo (decide (0 ≤ (k : Int) - 1))))] [(2, AObj.row [.s (slT tt)]), (4, AObj.row [.s (SC.nilsl)])] trivial ?_
 refine gC (0 ≤ (k : Int) - 1) (fun hc1 => ?_) fun hc1 => ?_
 ·
  refine AMx.skip ?_
  refine gQ ?_
  refine AMx.block ?_
  refine gS [(3, CE.call [] [] (AV.tup [TV.agg [.s (slT ((leaveT tt w ((k : Int) - 1)).1))], tc (i6 ((leaveT tt w ((k : Int) - 1)).2))]) [])] [Spec Try.prog 11 [TV.agg [.s (slT tt)], tc (i6 w), tc (i6 ((k : Int) - 1))] (ofH []) (AV.tup [TV.agg [.s (slT ((leaveT tt w ((k : Int) - 1)).1))], tc (i6 ((leaveT tt w ((k : Int) - 1)).2))]) (ofH [])] 27 [(1, vc (i6 w)), (2, vp 2 0), (4, vp 4 0), (5, vc (i6 ((k : Int) - 1))), (6, vp 6 0), (7, vc (i6 ((leaveT tt w ((k : Int) - 1)).2)))] [(2, AObj.row [.s (slT tt)]), (4, AObj.row [.s (SC.nilsl)]), (6, AObj.row [.s (slT ((leaveT tt w ((k : Int) - 1)).1))])] (TLeave_c tt w ((k : Int) - 1) n hG hn) ?_
  refine gS [] [] 27 [(1, vc (i6 w)), (2, vp 2 0), (4, vp 4 0), (5, vc (i6 ((k : Int) - 1))), (6, vp 6 0), (24, vc (bo (decide ((leaveT tt w ((k : Int) - 1)).2 = 0))))] [(2, AObj.row [.s (slT tt)]), (4, AObj.row [.s (SC.nilsl)]), (6, AObj.row [.s (slT ((leaveT tt w ((k : Int) - 1)).1))])] trivial ?_
  refine gC ((leaveT tt w ((k : Int) - 1)).2 = 0) (fun hc2 => ?_) fun hc2 => ?_
  ·
   refine gR [] [] 27 [(1, vc (i6 w)), (2, vp 2 0), (4, vp 4 0), (5, vc (i6 ((k : Int) - 1)))] [(2, AObj.row [.s (slT ((leaveT tt w ((k : Int) - 1)).1))]), (4, AObj.row [.s (SC.nilsl)])] trivial ?_
   refine AMx.blk ?_
   refine gR [] [InR .i64 (((k : Int) - 1) - 1)] 27 [(1, vc (i6 w)), (2, vp 2 0), (4, vp 4 0), (5, vc (i6 (((k : Int) - 1) - 1)))] [(2, AObj.row [.s (slT ((leaveT tt w ((k : Int) - 1)).1))]), (4, AObj.row [.s (SC.nilsl)])] (show InR .i64 (((k : Int) - 1) - 1) from (inR64 (by first | omega | (have hl := hg.1; omega)) (by first | omega | (have hl := hg.1; omega)))) ?_
   refine AMx.ent_inv (s' := AS.lst 27 [(1, vc (i6 w)), (2, vp 2 0), (4, vp 4 0), (5, vc (i6 (((k : Int) - 1) - 1)))] [(2, AObj.row [.s (slT ((leaveT tt w ((k : Int) - 1)).1))]), (4, AObj.row [.s (SC.nilsl)])]) (ent_proj [1, 2, 4, 5] [2, 4]) ?_
   refine AMx.inv ⟨_, ?_, k - 1, (leaveT tt w ((k : Int) - 1)).1, ?_, rfl, ?_⟩
   rotate_left
   · exact ⟨by omega, by rw [leave_len]; exact hL, leave_good hG, by rw [hQ, quit_step (by omega)]⟩
   · rw [show ((k - 1 : Nat) : Int) - 1 = (k : Int) - 1 - 1 by omega] <;> rfl
   · omega
  ·
   refine AMx.skip ?_
   refine AMx.blk ?_
   refine gR [] [InR .i64 (((k : Int) - 1) - 1)] 27 [(1, vc (i6 w)), (2, vp 2 0), (4, vp 4 0), (5, vc (i6 (((k : Int) - 1) - 1)))] [(2, AObj.row [.s (slT tt)]), (4, AObj.row [.s (SC.nilsl)])] (show InR .i64 (((k : Int) - 1) - 1) from (inR64 (by first | omega | (have hl := hg.1; omega)) (by first | omega | (have hl := hg.1; omega)))) ?_
   refine AMx.ent_inv (s' := AS.lst 27 [(1, vc (i6 w)), (2, vp 2 0), (4, vp 4 0), (5, vc (i6 (((k : Int) - 1) - 1)))] [(2, AObj.row [.s (slT tt)]), (4, AObj.row [.s (SC.nilsl)])]) (ent_proj [1, 2, 4, 5] [2, 4]) ?_
   refine AMx.inv ⟨_, ?_, k - 1, tt, ?_, rfl, ?_⟩
   rotate_left
   · exact ⟨by omega, hL, hG, by rw [hQ, quit_step (by omega), leave_id hc2]⟩
   · rw [show ((k - 1 : Nat) : Int) - 1 = (k : Int) - 1 - 1 by omega] <;> rfl
   · omega
 ·
  refine AMx.exit ?_
  refine AMx.code_exit ?_
  refine AMx.inv_exit ?_
  refine AMx.blk_exit ?_
  refine gS [] [] 27 [(4, vp 4 0)] [(4, AObj.row [.s (slT tt)])] trivial ?_
  exact gT (AV.t (TV.agg [.s (slT tt)])) (by rw [hQ, show k = 0 by omega]; rfl)

theorem f33_body : Try.f33.body = some (.seq (.region 0 (rg Try.f33 0) false) (.seq (.region 1 (rg Try.f33 1) false) (.seq (.region 2 (rg Try.f33 2) false) (.seq (.region 3 (rg Try.f33 3) false) (.ret))))) := by kernel_rfl

set_option maxRecDepth 100000 in
set_option maxHeartbeats 8000000 in
theorem RWith_c (t : Tab) (k : Int) (g : Gt) (hk : 0 ≤ k ∧ k < (List.length t : Int)) (hb : t.length ≤ 100) : Pure Try.prog 33 [TV.agg [.s (slT t)], tc (i6 k), TV.agg [.s (slO g.1), .s (slO g.2)]] (AV.t (TV.agg [.s (slT (withS t k g))])) := by
 refine Pure.of_body Try.func33 f33_body (by kernel_rfl) Try.ntmps33 (by kernel_rfl) (by kernel_rfl) ?_
 refine gS [] [] 18 [(1, vc (i6 k)), (3, vp 3 0), (5, vp 5 0), (6, vp 6 0)] [(3, AObj.row [.s (slT t)]), (5, AObj.row [.s (slO g.1), .s (slO g.2)]), (6, AObj.row [.s (SC.nilsl)])] trivial ?_
 refine gS [(0, CE.obj (AObj.grow 79 2 Gt ([], []) rowT [])), (3, CE.obj (AObj.grow 79 2 Gt ([], []) rowT ([] ++ t)))] [flat 2 rowT [] = [], List.length ([] : List Gt) = 0, AppC (flat 2 rowT t) (List.length t) 48 (AObj.grow 79 2 Gt ([], []) rowT []) (AObj.grow 79 2 Gt ([], []) rowT ([] ++ t))] 18 [(1, vc (i6 k)), (5, vp 5 0), (6, vp 6 0), (7, vo 11)] [(5, AObj.row [.s (slO g.1), .s (slO g.2)]), (6, AObj.row [.s (SC.nilsl)]), (11, AObj.grow 79 2 Gt ([], []) rowT ([] ++ t))] ⟨rfl, rfl, (⟨_, rfl, rfl, rfl, by simp only [List.length_nil]; omega, by simp only [maxLen, List.length_nil]; omega⟩)⟩ ?_
 refine gS [(4, CE.obj (AObj.grow 79 2 Gt ([], []) rowT (List.set ([] ++ t) (k).toNat g)))] [(0 : Int) ≤ k, k < List.length ([] ++ t : List Gt), StoreC ((k).toNat) 0 [.s (slO g.1), .s (slO g.2)] (AObj.grow 79 2 Gt ([], []) rowT ([] ++ t)) (AObj.grow 79 2 Gt ([], []) rowT (List.set ([] ++ t) (k).toNat g))] 18 [(6, vp 6 0), (7, vo 11)] [(6, AObj.row [.s (SC.nilsl)]), (11, AObj.grow 79 2 Gt ([], []) rowT (List.set ([] ++ t) (k).toNat g))] ⟨(by first | omega | (simp only [List.nil_append]; omega)), (by first | omega | (simp only [List.nil_append]; omega)), (⟨g, rfl, by first | omega | (simp only [List.nil_append]; omega), rfl⟩)⟩ ?_
 refine gS [] [] 18 [(6, vp 6 0)] [(6, AObj.row [.own 11]), (11, AObj.grow 79 2 Gt ([], []) rowT (List.set ([] ++ t) (k).toNat g))] trivial ?_
 refine AMx.ent (s' := AS.lst 18 [(6, vp 6 0)] [(6, AObj.row [.s (slT (List.set ([] ++ t) (k).toNat g))])]) (ent_freeze (id := 11) (T := 79) (by kernel_rfl)) ?_
 exact gT (AV.t (TV.agg [.s (slT (List.set ([] ++ t) (k).toNat g))])) (by rw [List.nil_append]; rfl)

theorem f12_body : Try.f12.body = some (.seq (.region 0 (rg Try.f12 0) false) (.seq (.seq (.region 1 (rg Try.f12 1) false) (.cond (.tmp 19) (.seq (.region 2 (rg Try.f12 2) false) (.ret)) (.skip))) (.seq (.region 3 (rg Try.f12 3) false) (.seq (.seq (.region 4 (rg Try.f12 4) false) (.cond (.tmp 33) (.seq (.region 5 (rg Try.f12 5) false) (.ret)) (.skip))) (.seq (.region 6 (rg Try.f12 6) false) (.ret)))))) := by kernel_rfl

set_option maxRecDepth 100000 in
set_option maxHeartbeats 8000000 in
theorem TRLeave_c (t : Tab) (w lock : Int) (n : Nat) (hg : GoodT n t) (hn : n ≤ 80000) : Pure Try.prog 12 [TV.agg [.s (slT t)], tc (i6 w), tc (i6 lock)] (AV.tup [TV.agg [.s (slT ((leaveT t w lock).1))], tc (i6 ((leaveT t w lock).2))]) := by
 refine Pure.of_body Try.func12 f12_body (by kernel_rfl) Try.ntmps12 (by kernel_rfl) (by kernel_rfl) ?_
 refine gS [] [] 40 [(1, vc (i6 w)), (2, vc (i6 lock)), (3, vp 3 0), (6, vp 6 0)] [(3, AObj.row [.s (slT t)]), (6, AObj.row [.s (SC.nilsl)])] trivial ?_
 refine gQ ?_
 refine gS [] [((decide (lock < 0)) = false) → allP [(decide (lock < 0)) = false], ((decide (lock < 0)) = false) → allP [(decide (lock < 0)) = false], ((decide (lock < 0)) = false) → allP [(decide (lock < 0)) = false, (decide (lock < 0)) = false], (decide (lock < 0)) = false → allP [(decide (lock < 0)) = false]] 40 [(1, vc (i6 w)), (2, vc (i6 lock)), (3, vp 3 0), (6, vp 6 0), (19, vc (bo ((decide (lock < 0)) || (decide ((List.length t : Int) ≤ lock)))))] [(3, AObj.row [.s (slT t)]), (6, AObj.row [.s (SC.nilsl)])] ⟨(fun hp => hp), (fun hp => hp), (fun hp => ⟨hp, hp⟩), (fun hp2 => (by first | exact hp2 | exact ⟨hp, hp2⟩))⟩ ?_
 refine gB (((decide (lock < 0)) || (decide ((List.length t : Int) ≤ lock)))) (fun hc1 => ?_) fun hc1 => ?_
 ·
  try simp only [xT, xF, xO, xP] at hc1
  refine gS [] [] 40 [(6, vp 6 0), (7, vc (i6 8))] [(6, AObj.row [.s (slT t)])] trivial ?_
  exact gT (AV.tup [TV.agg [.s (slT t)], tc (i6 8)]) (by rw [show leaveT t w lock = (t, 8) from leave_1 (has_no (by omega))])
 ·
  try simp only [xT, xF, xO, xP] at hc1
  refine AMx.skip ?_
  refine gS [(6, CE.call [] [] (AV.tup [TV.agg [.s (slO (((leaveS (List.getD t (lock).toNat ([], [])) w).1).1)), .s (slO (((leaveS (List.getD t (lock).toNat ([], [])) w).1).2))], tc (slI ((leaveS (List.getD t (lock).toNat ([], [])) w).2.1)), tc (i6 ((leaveS (List.getD t (lock).toNat ([], [])) w).2.2))]) [])] [(0 : Int) ≤ lock, lock < List.length t, Spec Try.prog 32 [TV.agg [.s (slO ((List.getD t (lock).toNat ([], [])).1)), .s (slO ((List.getD t (lock).toNat ([], [])).2))], tc (i6 w)] (ofH []) (AV.tup [TV.agg [.s (slO (((leaveS (List.getD t (lock).toNat ([], [])) w).1).1)), .s (slO (((leaveS (List.getD t (lock).toNat ([], [])) w).1).2))], tc (slI ((leaveS (List.getD t (lock).toNat ([], [])) w).2.1)), tc (i6 ((leaveS (List.getD t (lock).toNat ([], [])) w).2.2))]) (ofH [])] 40 [(2, vc (i6 lock)), (3, vp 3 0), (6, vp 6 0), (8, vp 8 0), (10, vc (i6 ((leaveS (List.getD t (lock).toNat ([], [])) w).2.2)))] [(3, AObj.row [.s (slT t)]), (6, AObj.row [.s (SC.nilsl)]), (8, AObj.row [.s (slO (((leaveS (List.getD t (lock).toNat ([], [])) w).1).1)), .s (slO (((leaveS (List.getD t (lock).toNat ([], [])) w).1).2))])] ⟨(by first | omega | (have hl := hg.1; omega)), (by first | omega | (have hl := hg.1; omega)), (RLeave_c (List.getD t (lock).toNat ([], [])) w (by exact (good_at hg (by omega)).1) (by have hz := (good_at hg (k := lock) (by omega)).2; unfold sizeS at hz; omega))⟩ ?_
  refine gQ ?_
  refine gS [] [] 40 [(2, vc (i6 lock)), (3, vp 3 0), (6, vp 6 0), (8, vp 8 0), (10, vc (i6 ((leaveS (List.getD t (lock).toNat ([], [])) w).2.2))), (33, vc (bo (!decide ((leaveS (List.getD t (lock).toNat ([], [])) w).2.2 = 0))))] [(3, AObj.row [.s (slT t)]), (6, AObj.row [.s (SC.nilsl)]), (8, AObj.row [.s (slO (((leaveS (List.getD t (lock).toNat ([], [])) w).1).1)), .s (slO (((leaveS (List.getD t (lock).toNat ([], [])) w).1).2))])] trivial ?_
  refine gN ((leaveS (List.getD t (lock).toNat ([], [])) w).2.2 = 0) (fun hc2 => ?_) fun hc2 => ?_
  ·
   refine gS [] [] 40 [(6, vp 6 0), (7, vc (i6 ((leaveS (List.getD t (lock).toNat ([], [])) w).2.2)))] [(6, AObj.row [.s (slT t)])] trivial ?_
   exact gT (AV.tup [TV.agg [.s (slT t)], tc (i6 ((leaveS (List.getD t (lock).toNat ([], [])) w).2.2))]) (by rw [show leaveT t w lock = (t, (leaveS (List.getD t (lock).toNat ([], [])) w).2.2) from leave_2 (has_iff.2 (by omega)) hc2])
  ·
   refine AMx.skip ?_
   refine gS [(3, CE.call [] [] (AV.t (TV.agg [.s (slT (withS t lock ((leaveS (List.getD t (lock).toNat ([], [])) w).1)))])) [])] [Spec Try.prog 33 [TV.agg [.s (slT t)], tc (i6 lock), TV.agg [.s (slO (((leaveS (List.getD t (lock).toNat ([], [])) w).1).1)), .s (slO (((leaveS (List.getD t (lock).toNat ([], [])) w).1).2))]] (ofH []) (AV.t (TV.agg [.s (slT (withS t lock ((leaveS (List.getD t (lock).toNat ([], [])) w).1)))])) (ofH [])] 40 [(6, vp 6 0), (7, vc (i6 0))] [(6, AObj.row [.s (slT (withS t lock ((leaveS (List.getD t (lock).toNat ([], [])) w).1)))])] (RWith_c t lock ((leaveS (List.getD t (lock).toNat ([], [])) w).1) (by first | omega | (have hl := hg.1; omega)) (by first | omega | (have hl := hg.1; omega))) ?_
   exact gT (AV.tup [TV.agg [.s (slT (withS t lock ((leaveS (List.getD t (lock).toNat ([], [])) w).1)))], tc (i6 0)]) (by rw [show leaveT t w lock = (withS t lock ((leaveS (List.getD t (lock).toNat ([], [])) w).1), 0) from leave_3 (has_iff.2 (by omega)) hc2])

theorem f14_body : Try.f14.body = some (.seq (.region 0 (rg Try.f14 0) false) (.seq (.seq (.region 1 (rg Try.f14 1) false) (.block 0 (.loop (.seq (.seq (.region 2 (rg Try.f14 2) false) (.cond (.tmp 11) (.skip) (.exit 0))) (.seq (.block 1 (.region 4 (rg Try.f14 4) false)) (.region 3 (rg Try.f14 3) false)))))) (.seq (.region 5 (rg Try.f14 5) false) (.ret)))) := by kernel_rfl

set_option maxRecDepth 100000 in
set_option maxHeartbeats 8000000 in
theorem TRQuit_c (t : Tab) (w : Int) (n : Nat) (hg : GoodT n t) (hn : n ≤ 80000) : Pure Try.prog 14 [TV.agg [.s (slT t)], tc (i6 w)] (AV.t (TV.agg [.s (slT (quitT w t.length t))])) := by
 refine Pure.of_body Try.func14 f14_body (by kernel_rfl) Try.ntmps14 (by kernel_rfl) (by kernel_rfl) ?_
 refine gS [] [] 22 [(1, vc (i6 w)), (2, vp 2 0), (4, vp 4 0)] [(2, AObj.row [.s (slT t)]), (4, AObj.row [.s (SC.nilsl)])] trivial ?_
 refine gQ ?_
 refine gS [] [InR .i64 ((List.length t : Int) - 1)] 22 [(1, vc (i6 w)), (2, vp 2 0), (4, vp 4 0), (5, vc (i6 ((List.length t : Int) - 1)))] [(2, AObj.row [.s (slT t)]), (4, AObj.row [.s (SC.nilsl)])] (show InR .i64 ((List.length t : Int) - 1) from (inR64 (by first | omega | (have hl := hg.1; omega)) (by first | omega | (have hl := hg.1; omega)))) ?_
 refine AMx.block ?_
 refine AMx.ent (s' := AS.lst 22 [(1, vc (i6 w)), (2, vp 2 0), (4, vp 4 0), (5, vc (i6 ((List.length t : Int) - 1)))] [(2, AObj.row [.s (slT t)]), (4, AObj.row [.s (SC.nilsl)])]) (ent_proj [1, 2, 4, 5] [2, 4]) ?_
 refine AMx.loop (fun mm ss => ∃ (k : Nat) (tt : Tab), (k ≤ t.length ∧ tt.length = t.length ∧ GoodT n tt ∧ quitT w t.length t = quitT w k tt) ∧ mm = 1 + k ∧ ss = AS.lst 22 [(1, vc (i6 w)), (2, vp 2 0), (4, vp 4 0), (5, vc (i6 ((k : Int) - 1)))] [(2, AObj.row [.s (slT tt)]), (4, AObj.row [.s (SC.nilsl)])]) ⟨t.length, t, ?_, rfl, ?_⟩ ?_
 · exact ⟨Nat.le_refl _, rfl, hg, rfl⟩
 · rfl
 rintro mm ss ⟨k, tt, ⟨hI, hL, hG, hQ⟩, rfl, rfl⟩
 refine gQ ?_
 refine gS [] [] 22 [(1, vc (i6 w)), (2, vp 2 0), (4, vp 4 0), (5, vc (i6 ((k : Int) - 1))), (11, vc (bo (decide (0 ≤ (k : Int) - 1))))] [(2, AObj.row [.s (slT tt)]), (4, AObj.row [.s (SC.nilsl)])] trivial ?_
 refine gC (0 ≤ (k : Int) - 1) (fun hc1 => ?_) fun hc1 => ?_
 ·
  refine AMx.skip ?_
  refine gQ ?_
  refine AMx.block ?_
  refine gR [(3, CE.call [] [] (AV.tup [TV.agg [.s (slT ((leaveT tt w ((k : Int) - 1)).1))], tc (i6 ((leaveT tt w ((k : Int) - 1)).2))]) [])] [Spec Try.prog 12 [TV.agg [.s (slT tt)], tc (i6 w), tc (i6 ((k : Int) - 1))] (ofH []) (AV.tup [TV.agg [.s (slT ((leaveT tt w ((k : Int) - 1)).1))], tc (i6 ((leaveT tt w ((k : Int) - 1)).2))]) (ofH [])] 22 [(1, vc (i6 w)), (2, vp 2 0), (4, vp 4 0), (5, vc (i6 ((k : Int) - 1)))] [(2, AObj.row [.s (slT ((leaveT tt w ((k : Int) - 1)).1))]), (4, AObj.row [.s (SC.nilsl)])] (TRLeave_c tt w ((k : Int) - 1) n hG hn) ?_
  refine AMx.blk ?_
  refine gR [] [InR .i64 (((k : Int) - 1) - 1)] 22 [(1, vc (i6 w)), (2, vp 2 0), (4, vp 4 0), (5, vc (i6 (((k : Int) - 1) - 1)))] [(2, AObj.row [.s (slT ((leaveT tt w ((k : Int) - 1)).1))]), (4, AObj.row [.s (SC.nilsl)])] (show InR .i64 (((k : Int) - 1) - 1) from (inR64 (by first | omega | (have hl := hg.1; omega)) (by first | omega | (have hl := hg.1; omega)))) ?_
  refine AMx.ent_inv (s' := AS.lst 22 [(1, vc (i6 w)), (2, vp 2 0), (4, vp 4 0), (5, vc (i6 (((k : Int) - 1) - 1)))] [(2, AObj.row [.s (slT ((leaveT tt w ((k : Int) - 1)).1))]), (4, AObj.row [.s (SC.nilsl)])]) (ent_proj [1, 2, 4, 5] [2, 4]) ?_
  refine AMx.inv ⟨_, ?_, k - 1, (leaveT tt w ((k : Int) - 1)).1, ?_, rfl, ?_⟩
  rotate_left
  · exact ⟨by omega, by rw [leave_len]; exact hL, leave_good hG, by rw [hQ, quit_step (by omega)]⟩
  · rw [show ((k - 1 : Nat) : Int) - 1 = (k : Int) - 1 - 1 by omega] <;> rfl
  · omega
 ·
  refine AMx.exit ?_
  refine AMx.code_exit ?_
  refine AMx.inv_exit ?_
  refine AMx.blk_exit ?_
  refine gS [] [] 22 [(4, vp 4 0)] [(4, AObj.row [.s (slT tt)])] trivial ?_
  exact gT (AV.t (TV.agg [.s (slT tt)])) (by rw [hQ, show k = 0 by omega]; rfl)

theorem f37_body : Try.f37.body = some (.seq (.region 0 (rg Try.f37 0) false) (.seq (.seq (.region 1 (rg Try.f37 1) false) (.block 0 (.loop (.seq (.seq (.region 2 (rg Try.f37 2) false) (.cond (.tmp 10) (.skip) (.exit 0))) (.seq (.block 1 (.seq (.region 4 (rg Try.f37 4) false) (.cond (.tmp 21) (.seq (.region 5 (rg Try.f37 5) false) (.ret)) (.skip)))) (.region 3 (rg Try.f37 3) false)))))) (.seq (.region 6 (rg Try.f37 6) false) (.ret)))) := by kernel_rfl

set_option maxRecDepth 100000 in
set_option maxHeartbeats 8000000 in
theorem RWaits_c (t : Tab) (w : Int) : Pure Try.prog 37 [TV.agg [.s (slT t)], tc (i6 w)] (vc (i6 (waitIx t w))) := by
 refine Pure.of_body Try.func37 f37_body (by kernel_rfl) Try.ntmps37 (by kernel_rfl) (by kernel_rfl) ?_
 refine AMx.celln 0 0 rfl rfl (fun hl => ?_)
 simp only [maxLen] at hl
 refine gS [] [] 23 [(1, vc (i6 w)), (2, vp 2 0)] [(2, AObj.row [.s (slT t)])] trivial ?_
 refine gQ ?_
 refine gS [] [] 23 [(1, vc (i6 w)), (2, vp 2 0), (5, vc (i6 0))] [(2, AObj.row [.s (slT t)])] trivial ?_
 refine AMx.block ?_
 refine AMx.ent (s' := AS.lst 23 [(1, vc (i6 w)), (2, vp 2 0), (5, vc (i6 0))] [(2, AObj.row [.s (slT t)])]) (ent_proj [1, 2, 5] [2]) ?_
 refine AMx.loop (fun mm ss => ∃ (k : Nat), (k ≤ t.length ∧ ∀ x ∈ List.take k t, (fun g : Gt => decide (0 ≤ findS g.2 w)) x = false) ∧ mm = t.length - k ∧ ss = AS.lst 23 [(1, vc (i6 w)), (2, vp 2 0), (5, vc (i6 (k : Int)))] [(2, AObj.row [.s (slT t)])]) ⟨0, ?_, rfl, ?_⟩ ?_
 · exact ⟨by omega, fun x hx => by simp at hx⟩
 · rfl
 rintro mm ss ⟨k, ⟨hI, hN⟩, rfl, rfl⟩
 refine gQ ?_
 refine gS [] [] 23 [(1, vc (i6 w)), (2, vp 2 0), (5, vc (i6 (k : Int))), (10, vc (bo (decide ((k : Int) < (List.length t : Int)))))] [(2, AObj.row [.s (slT t)])] trivial ?_
 refine gC ((k : Int) < (List.length t : Int)) (fun hc1 => ?_) fun hc1 => ?_
 ·
  refine AMx.skip ?_
  refine gQ ?_
  refine AMx.block ?_
  refine gS [(7, CE.call [] [] (vc (i6 (findS ((List.getD t k ([], [])).2) w))) [])] [(0 : Int) ≤ (k : Int), (k : Int) < List.length t, Spec Try.prog 54 [tc (slO ((List.getD t k ([], [])).2)), tc (i6 w)] (ofH []) (vc (i6 (findS ((List.getD t k ([], [])).2) w))) (ofH [])] 23 [(1, vc (i6 w)), (2, vp 2 0), (5, vc (i6 (k : Int))), (21, vc (bo (decide (0 ≤ findS ((List.getD t k ([], [])).2) w))))] [(2, AObj.row [.s (slT t)])] ⟨(by omega), (by omega), (RFind_c ((List.getD t k ([], [])).2) w)⟩ ?_
  refine gC (0 ≤ findS ((List.getD t k ([], [])).2) w) (fun hc2 => ?_) fun hc2 => ?_
  ·
   refine gS [] [] 23 [(4, vc (i6 (k : Int)))] [] trivial ?_
   exact gT (vc (i6 (k : Int))) (by unfold waitIx; rw [AL.Lib.idx_hit (p := (fun g : Gt => decide (0 ≤ findS g.2 w))) ([], []) t k (by omega) hN (decide_eq_true (by assumption))])
  ·
   refine AMx.skip ?_
   refine AMx.blk ?_
   refine gR [] [InR .i64 ((k : Int) + 1)] 23 [(1, vc (i6 w)), (2, vp 2 0), (5, vc (i6 ((k : Int) + 1)))] [(2, AObj.row [.s (slT t)])] (show InR .i64 ((k : Int) + 1) from (inR64 (by omega) (by omega))) ?_
   refine AMx.ent_inv (s' := AS.lst 23 [(1, vc (i6 w)), (2, vp 2 0), (5, vc (i6 ((k : Int) + 1)))] [(2, AObj.row [.s (slT t)])]) (ent_proj [1, 2, 5] [2]) ?_
   refine AMx.inv ⟨_, ?_, k + 1, ?_, rfl, ?_⟩
   rotate_left
   · exact ⟨by omega, AL.Lib.all_step (p := (fun g : Gt => decide (0 ≤ findS g.2 w))) ([], []) t k (by omega) hN (decide_eq_false (by assumption))⟩
   · rfl
   · omega
 ·
  refine AMx.exit ?_
  refine AMx.code_exit ?_
  refine AMx.inv_exit ?_
  refine AMx.blk_exit ?_
  refine gS [] [] 23 [(4, vc (i6 (-1)))] [] trivial ?_
  exact gT (vc (i6 (-1))) (by unfold waitIx; rw [AL.Lib.idx_none (p := (fun g : Gt => decide (0 ≤ findS g.2 w))) (fun x hx => hN x (by rwa [List.take_of_length_le (by omega)]))])

end AL.Locks
