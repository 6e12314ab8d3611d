/- locks: the contracts of its functions, by their walks. No condition. -/
import Derived.Test.YtphkoklgdkimmaaLocksA
namespace AL.Locks
open Go Go.Proofs AL AL.Fnv AL.Gate
set_option linter.unusedVariables false
set_option linter.unusedSimpArgs false

theorem f58_body : Try.f58.body = some (.seq (.region 0 (rg Try.f58 0) false) (.seq (.block 0 (.seq (.region 1 (rg Try.f58 1) false) (.cond (.tmp 14) (.seq (.region 2 (rg Try.f58 2) false) (.ret)) (.seq (.region 3 (rg Try.f58 3) false) (.cond (.tmp 20) (.seq (.region 4 (rg Try.f58 4) false) (.ret)) (.seq (.region 5 (rg Try.f58 5) false) (.cond (.tmp 32) (.seq (.region 6 (rg Try.f58 6) false) (.ret)) (.skip)))))))) (.seq (.region 7 (rg Try.f58 7) false) (.seq (.region 8 (rg Try.f58 8) false) (.ret))))) := by kernel_rfl

set_option maxRecDepth 100000 in
set_option maxHeartbeats 8000000 in
theorem TAsk_c (t : Tab) (w lock m : Int) (n : Nat) (hg : GoodT n t) (hn : n ≤ 80000) : Pure Try.prog 58 [TV.agg [.s (slT t)], tc (i6 w), tc (i6 lock), tc (u8 m)] (AV.tup [TV.agg [.s (slT ((askT t w lock m).1))], tc (bo ((askT t w lock m).2.1)), tc (i6 ((askT t w lock m).2.2))]) := by
  refine Pure.of_body Try.func58 f58_body (by kernel_rfl) Try.ntmps58 (by kernel_rfl) (by kernel_rfl) ?_
  refine AMx.seq ?_
  refine AMx.region (ces := []) (ks := [1, 2, 3, 4, 8]) (hs := [4, 8]) (cs := []) (s' := AS.lst 56 [(1, vc (i6 w)), (2, vc (i6 lock)), (3, vc (u8 m)), (4, vp 4 0), (8, vp 8 0)] [(4, AObj.row [.s (slT t)]), (8, AObj.row [.s (SC.nilsl)])]) (by kernel_rfl) ?_ ?_
  · exact trivial
  refine AMx.seq ?_
  refine AMx.block ?_
  refine AMx.seq ?_
  refine AMx.region (ces := [(2, CE.call [] [] (vc (bo (hasS t lock))) [])]) (ks := [1, 2, 3, 4, 8, 14]) (hs := [4, 8]) (cs := [Spec Try.prog 105 [TV.agg [.s (slT t)], tc (i6 lock)] (ofH []) (vc (bo (hasS t lock))) (ofH [])]) (s' := AS.lst 56 [(1, vc (i6 w)), (2, vc (i6 lock)), (3, vc (u8 m)), (4, vp 4 0), (8, vp 8 0), (14, vc (bo (!(hasS t lock))))] [(4, AObj.row [.s (slT t)]), (8, AObj.row [.s (SC.nilsl)])]) (by kernel_rfl) ?_ ?_
  · exact (has_c t lock)
  refine AMx.cond (b := !(hasS t lock)) (by kernel_rfl) (fun hc1 => ?_) (fun hc1 => ?_)
  · try simp only [decide_eq_true_eq, decide_eq_false_iff_not, Bool.not_eq_true', Bool.not_eq_false'] at hc1
    refine AMx.seq ?_
    refine AMx.region (ces := []) (ks := [8, 9, 10]) (hs := [8]) (cs := []) (s' := AS.lst 56 [(8, vp 8 0), (9, vc (bo false)), (10, vc (i6 8))] [(8, AObj.row [.s (slT t)])]) (by kernel_rfl) ?_ ?_
    · exact trivial
    refine AMx.ret ?_
    exact RetP.mk (r := AV.tup [TV.agg [.s (slT t)], tc (bo false), tc (i6 8)]) (by kernel_rfl) (by rw [show askT t w lock m = (t, false, 8) from ask_1 hc1])
  · try simp only [decide_eq_true_eq, decide_eq_false_iff_not, Bool.not_eq_true', Bool.not_eq_false'] at hc1
    refine AMx.seq ?_
    refine AMx.region (ces := []) (ks := [1, 2, 3, 4, 8, 20]) (hs := [4, 8]) (cs := [((decide (w < 0)) = false) → allP [], ((decide (w < 0)) = false) → allP [(decide (w < 0)) = false], ((decide (w < 0)) = false) → allP [(decide (w < 0)) = false], (((decide (w < 0)) = false) ∧ (!decide (m = 1)) = true) → allP [], (((decide (w < 0)) = false) ∧ (!decide (m = 1)) = true) → allP [((decide (w < 0)) = false) ∧ (!decide (m = 1)) = true], ((decide (w < 0)) = false) → allP [(decide (w < 0)) = false, (!decide (m = 1)) = true → allP [((decide (w < 0)) = false) ∧ (!decide (m = 1)) = true]], (decide (w < 0)) = false → allP [(decide (w < 0)) = false]]) (s' := AS.lst 56 [(1, vc (i6 w)), (2, vc (i6 lock)), (3, vc (u8 m)), (4, vp 4 0), (8, vp 8 0), (20, vc (bo ((decide (w < 0)) || ((!decide (m = 1)) && (!decide (m = 2))))))] [(4, AObj.row [.s (slT t)]), (8, AObj.row [.s (SC.nilsl)])]) (by kernel_rfl) ?_ ?_
    · exact ⟨(fun _ => trivial), (fun hp => hp), (fun hp => hp), (fun _ => trivial), (fun hp => hp), (fun hp => by have hq := hp; (try simp only [decide_eq_true_eq, decide_eq_false_iff_not, Bool.and_eq_true, Bool.or_eq_true, Bool.and_eq_false_iff, Bool.or_eq_false_iff, Bool.not_eq_true', Bool.not_eq_false', Bool.not_eq_true, Bool.not_eq_false] at hq); exact ⟨hp, (fun hp2 => (by first | exact hp2 | exact ⟨hp, hp2⟩))⟩), (fun hp2 => (by first | exact hp2 | exact ⟨hp, hp2⟩))⟩
    refine AMx.cond (b := ((decide (w < 0)) || ((!decide (m = 1)) && (!decide (m = 2))))) (by kernel_rfl) (fun hc2 => ?_) (fun hc2 => ?_)
    · try simp only [decide_eq_true_eq, decide_eq_false_iff_not, Bool.and_eq_true, Bool.and_eq_false_iff, Bool.or_eq_true, Bool.or_eq_false_iff, Bool.not_eq_true', Bool.not_eq_false'] at hc2
      refine AMx.seq ?_
      refine AMx.region (ces := []) (ks := [8, 9, 10]) (hs := [8]) (cs := []) (s' := AS.lst 56 [(8, vp 8 0), (9, vc (bo false)), (10, vc (i6 2))] [(8, AObj.row [.s (slT t)])]) (by kernel_rfl) ?_ ?_
      · exact trivial
      refine AMx.ret ?_
      exact RetP.mk (r := AV.tup [TV.agg [.s (slT t)], tc (bo false), tc (i6 2)]) (by kernel_rfl) (by rw [show askT t w lock m = (t, false, 2) from ask_2 hc1 (by omega)])
    · try simp only [decide_eq_true_eq, decide_eq_false_iff_not, Bool.and_eq_true, Bool.and_eq_false_iff, Bool.or_eq_true, Bool.or_eq_false_iff, Bool.not_eq_true', Bool.not_eq_false'] at hc2
      refine AMx.seq ?_
      refine AMx.region (ces := [(3, CE.call [] [] (vc (bo (lateS t w lock))) [])]) (ks := [1, 2, 3, 4, 8, 32]) (hs := [4, 8]) (cs := [Spec Try.prog 108 [TV.agg [.s (slT t)], tc (i6 w), tc (i6 lock)] (ofH []) (vc (bo (lateS t w lock))) (ofH [])]) (s' := AS.lst 56 [(1, vc (i6 w)), (2, vc (i6 lock)), (3, vc (u8 m)), (4, vp 4 0), (8, vp 8 0), (32, vc (bo (lateS t w lock)))] [(4, AObj.row [.s (slT t)]), (8, AObj.row [.s (SC.nilsl)])]) (by kernel_rfl) ?_ ?_
      · exact (late_c t w lock)
      refine AMx.cond (b := lateS t w lock) (by kernel_rfl) (fun hc3 => ?_) (fun hc3 => ?_)
      · try simp only [decide_eq_true_eq, decide_eq_false_iff_not] at hc3
        refine AMx.seq ?_
        refine AMx.region (ces := []) (ks := [8, 9, 10]) (hs := [8]) (cs := []) (s' := AS.lst 56 [(8, vp 8 0), (9, vc (bo false)), (10, vc (i6 9))] [(8, AObj.row [.s (slT t)])]) (by kernel_rfl) ?_ ?_
        · exact trivial
        refine AMx.ret ?_
        exact RetP.mk (r := AV.tup [TV.agg [.s (slT t)], tc (bo false), tc (i6 9)]) (by kernel_rfl) (by rw [show askT t w lock m = (t, false, 9) from ask_3 hc1 (by omega) hc3])
      · try simp only [decide_eq_true_eq, decide_eq_false_iff_not] at hc3
        refine AMx.skip ?_
        refine AMx.blk ?_
        refine AMx.seq ?_
        refine AMx.region (ces := [(7, CE.call [] [] (AV.tup [TV.agg [.s (slO (((askS (List.getD t (lock).toNat ([], [])) w m).1).1)), .s (slO (((askS (List.getD t (lock).toNat ([], [])) w m).1).2))], tc (bo ((askS (List.getD t (lock).toNat ([], [])) w m).2.1)), tc (i6 ((askS (List.getD t (lock).toNat ([], [])) w m).2.2))]) [])]) (ks := [2, 4, 8, 11, 12, 13]) (hs := [4, 8, 11]) (cs := [(0 : Int) ≤ lock, lock < List.length t, Spec Try.prog 40 [TV.agg [.s (slO ((List.getD t (lock).toNat ([], [])).1)), .s (slO ((List.getD t (lock).toNat ([], [])).2))], tc (i6 w), tc (u8 m)] (ofH []) (AV.tup [TV.agg [.s (slO (((askS (List.getD t (lock).toNat ([], [])) w m).1).1)), .s (slO (((askS (List.getD t (lock).toNat ([], [])) w m).1).2))], tc (bo ((askS (List.getD t (lock).toNat ([], [])) w m).2.1)), tc (i6 ((askS (List.getD t (lock).toNat ([], [])) w m).2.2))]) (ofH [])]) (s' := AS.lst 56 [(2, vc (i6 lock)), (4, vp 4 0), (8, vp 8 0), (11, vp 11 0), (12, vc (bo ((askS (List.getD t (lock).toNat ([], [])) w m).2.1))), (13, vc (i6 ((askS (List.getD t (lock).toNat ([], [])) w m).2.2)))] [(4, AObj.row [.s (slT t)]), (8, AObj.row [.s (SC.nilsl)]), (11, AObj.row [.s (slO (((askS (List.getD t (lock).toNat ([], [])) w m).1).1)), .s (slO (((askS (List.getD t (lock).toNat ([], [])) w m).1).2))])]) (by kernel_rfl) ?_ ?_
        · exact ⟨(show (0 : Int) ≤ lock from (by first | omega | (have hl := hg.1; have hh := has_iff.1 hc1; omega))), (show lock < List.length t from (by first | omega | (have hl := hg.1; have hh := has_iff.1 hc1; omega))), (Ask_c (List.getD t (lock).toNat ([], [])) w m (by exact (good_at hg (by first | exact has_iff.1 hc1 | omega)).1) (by have hz := (good_at hg (k := lock) (by first | exact has_iff.1 hc1 | omega)).2; unfold sizeS at hz; omega))⟩
        refine AMx.seq ?_
        refine AMx.region (ces := [(3, CE.call [] [] (AV.t (TV.agg [.s (slT (withS t lock ((askS (List.getD t (lock).toNat ([], [])) w m).1)))])) [])]) (ks := [8, 9, 10]) (hs := [8]) (cs := [Spec Try.prog 106 [TV.agg [.s (slT t)], tc (i6 lock), TV.agg [.s (slO (((askS (List.getD t (lock).toNat ([], [])) w m).1).1)), .s (slO (((askS (List.getD t (lock).toNat ([], [])) w m).1).2))]] (ofH []) (AV.t (TV.agg [.s (slT (withS t lock ((askS (List.getD t (lock).toNat ([], [])) w m).1)))])) (ofH [])]) (s' := AS.lst 56 [(8, vp 8 0), (9, vc (bo ((askS (List.getD t (lock).toNat ([], [])) w m).2.1))), (10, vc (i6 ((askS (List.getD t (lock).toNat ([], [])) w m).2.2)))] [(8, AObj.row [.s (slT (withS t lock ((askS (List.getD t (lock).toNat ([], [])) w m).1)))])]) (by kernel_rfl) ?_ ?_
        · exact (with_c t lock ((askS (List.getD t (lock).toNat ([], [])) w m).1) (by first | omega | (have hl := hg.1; have hh := has_iff.1 hc1; omega)) (by first | omega | (have hl := hg.1; have hh := has_iff.1 hc1; omega)))
        refine AMx.ret ?_
        exact RetP.mk (r := AV.tup [TV.agg [.s (slT (withS t lock ((askS (List.getD t (lock).toNat ([], [])) w m).1)))], tc (bo ((askS (List.getD t (lock).toNat ([], [])) w m).2.1)), tc (i6 ((askS (List.getD t (lock).toNat ([], [])) w m).2.2))]) (by kernel_rfl) (by rw [show askT t w lock m = (withS t lock ((askS (List.getD t (lock).toNat ([], [])) w m).1), (askS (List.getD t (lock).toNat ([], [])) w m).2.1, (askS (List.getD t (lock).toNat ([], [])) w m).2.2) from ask_4 hc1 (by omega) hc3])

theorem f54_body : Try.f54.body = some (.seq (.region 0 (rg Try.f54 0) false) (.seq (.seq (.region 1 (rg Try.f54 1) false) (.cond (.tmp 14) (.seq (.region 2 (rg Try.f54 2) false) (.ret)) (.skip))) (.seq (.region 3 (rg Try.f54 3) false) (.seq (.seq (.region 4 (rg Try.f54 4) false) (.cond (.tmp 28) (.seq (.region 5 (rg Try.f54 5) false) (.ret)) (.skip))) (.seq (.region 6 (rg Try.f54 6) false) (.ret)))))) := by kernel_rfl

set_option maxRecDepth 100000 in
set_option maxHeartbeats 8000000 in
theorem TLeave_c (t : Tab) (w lock : Int) (n : Nat) (hg : GoodT n t) (hn : n ≤ 80000) : Pure Try.prog 54 [TV.agg [.s (slT t)], tc (i6 w), tc (i6 lock)] (AV.tup [TV.agg [.s (slT ((leaveT t w lock).1))], tc (i6 ((leaveT t w lock).2))]) := by
  refine Pure.of_body Try.func54 f54_body (by kernel_rfl) Try.ntmps54 (by kernel_rfl) (by kernel_rfl) ?_
  refine AMx.seq ?_
  refine AMx.region (ces := []) (ks := [1, 2, 3, 6]) (hs := [3, 6]) (cs := []) (s' := AS.lst 35 [(1, vc (i6 w)), (2, vc (i6 lock)), (3, vp 3 0), (6, vp 6 0)] [(3, AObj.row [.s (slT t)]), (6, AObj.row [.s (SC.nilsl)])]) (by kernel_rfl) ?_ ?_
  · exact trivial
  refine AMx.seq ?_
  refine AMx.seq ?_
  refine AMx.region (ces := [(2, CE.call [] [] (vc (bo (hasS t lock))) [])]) (ks := [1, 2, 3, 6, 14]) (hs := [3, 6]) (cs := [Spec Try.prog 105 [TV.agg [.s (slT t)], tc (i6 lock)] (ofH []) (vc (bo (hasS t lock))) (ofH [])]) (s' := AS.lst 35 [(1, vc (i6 w)), (2, vc (i6 lock)), (3, vp 3 0), (6, vp 6 0), (14, vc (bo (!(hasS t lock))))] [(3, AObj.row [.s (slT t)]), (6, AObj.row [.s (SC.nilsl)])]) (by kernel_rfl) ?_ ?_
  · exact (has_c t lock)
  refine AMx.cond (b := !(hasS t lock)) (by kernel_rfl) (fun hc1 => ?_) (fun hc1 => ?_)
  · try simp only [decide_eq_true_eq, decide_eq_false_iff_not, Bool.not_eq_true', Bool.not_eq_false'] at hc1
    refine AMx.seq ?_
    refine AMx.region (ces := []) (ks := [6, 7]) (hs := [6]) (cs := []) (s' := AS.lst 35 [(6, vp 6 0), (7, vc (i6 8))] [(6, AObj.row [.s (slT t)])]) (by kernel_rfl) ?_ ?_
    · exact trivial
    refine AMx.ret ?_
    exact RetP.mk (r := AV.tup [TV.agg [.s (slT t)], tc (i6 8)]) (by kernel_rfl) (by rw [show leaveT t w lock = (t, 8) from leave_1 hc1])
  · try simp only [decide_eq_true_eq, decide_eq_false_iff_not, Bool.not_eq_true', Bool.not_eq_false'] at hc1
    refine AMx.skip ?_
    refine AMx.seq ?_
    refine AMx.region (ces := [(6, CE.call [] [] (AV.tup [TV.agg [.s (slO (((leaveS (List.getD t (lock).toNat ([], [])) w).1).1)), .s (slO (((leaveS (List.getD t (lock).toNat ([], [])) w).1).2))], tc (slI ((leaveS (List.getD t (lock).toNat ([], [])) w).2.1)), tc (i6 ((leaveS (List.getD t (lock).toNat ([], [])) w).2.2))]) [])]) (ks := [2, 3, 6, 8, 10]) (hs := [3, 6, 8]) (cs := [(0 : Int) ≤ lock, lock < List.length t, Spec Try.prog 41 [TV.agg [.s (slO ((List.getD t (lock).toNat ([], [])).1)), .s (slO ((List.getD t (lock).toNat ([], [])).2))], tc (i6 w)] (ofH []) (AV.tup [TV.agg [.s (slO (((leaveS (List.getD t (lock).toNat ([], [])) w).1).1)), .s (slO (((leaveS (List.getD t (lock).toNat ([], [])) w).1).2))], tc (slI ((leaveS (List.getD t (lock).toNat ([], [])) w).2.1)), tc (i6 ((leaveS (List.getD t (lock).toNat ([], [])) w).2.2))]) (ofH [])]) (s' := AS.lst 35 [(2, vc (i6 lock)), (3, vp 3 0), (6, vp 6 0), (8, vp 8 0), (10, vc (i6 ((leaveS (List.getD t (lock).toNat ([], [])) w).2.2)))] [(3, AObj.row [.s (slT t)]), (6, AObj.row [.s (SC.nilsl)]), (8, AObj.row [.s (slO (((leaveS (List.getD t (lock).toNat ([], [])) w).1).1)), .s (slO (((leaveS (List.getD t (lock).toNat ([], [])) w).1).2))])]) (by kernel_rfl) ?_ ?_
    · exact ⟨(show (0 : Int) ≤ lock from (by first | omega | (have hl := hg.1; have hh := has_iff.1 hc1; omega))), (show lock < List.length t from (by first | omega | (have hl := hg.1; have hh := has_iff.1 hc1; omega))), (Leave_c (List.getD t (lock).toNat ([], [])) w (by exact (good_at hg (by first | exact has_iff.1 hc1 | omega)).1) (by have hz := (good_at hg (k := lock) (by first | exact has_iff.1 hc1 | omega)).2; unfold sizeS at hz; omega))⟩
    refine AMx.seq ?_
    refine AMx.seq ?_
    refine AMx.region (ces := []) (ks := [2, 3, 6, 8, 10, 28]) (hs := [3, 6, 8]) (cs := []) (s' := AS.lst 35 [(2, vc (i6 lock)), (3, vp 3 0), (6, vp 6 0), (8, vp 8 0), (10, vc (i6 ((leaveS (List.getD t (lock).toNat ([], [])) w).2.2))), (28, vc (bo (!decide ((leaveS (List.getD t (lock).toNat ([], [])) w).2.2 = 0))))] [(3, AObj.row [.s (slT t)]), (6, AObj.row [.s (SC.nilsl)]), (8, AObj.row [.s (slO (((leaveS (List.getD t (lock).toNat ([], [])) w).1).1)), .s (slO (((leaveS (List.getD t (lock).toNat ([], [])) w).1).2))])]) (by kernel_rfl) ?_ ?_
    · exact trivial
    refine AMx.cond (b := !decide ((leaveS (List.getD t (lock).toNat ([], [])) w).2.2 = 0)) (by kernel_rfl) (fun hc2 => ?_) (fun hc2 => ?_)
    · try simp only [decide_eq_true_eq, decide_eq_false_iff_not, Bool.not_eq_true', Bool.not_eq_false'] at hc2
      refine AMx.seq ?_
      refine AMx.region (ces := []) (ks := [6, 7]) (hs := [6]) (cs := []) (s' := AS.lst 35 [(6, vp 6 0), (7, vc (i6 ((leaveS (List.getD t (lock).toNat ([], [])) w).2.2)))] [(6, AObj.row [.s (slT t)])]) (by kernel_rfl) ?_ ?_
      · exact trivial
      refine AMx.ret ?_
      exact RetP.mk (r := AV.tup [TV.agg [.s (slT t)], tc (i6 ((leaveS (List.getD t (lock).toNat ([], [])) w).2.2))]) (by kernel_rfl) (by rw [show leaveT t w lock = (t, (leaveS (List.getD t (lock).toNat ([], [])) w).2.2) from leave_2 hc1 hc2])
    · try simp only [decide_eq_true_eq, decide_eq_false_iff_not, Bool.not_eq_true', Bool.not_eq_false'] at hc2
      refine AMx.skip ?_
      refine AMx.seq ?_
      refine AMx.region (ces := [(3, CE.call [] [] (AV.t (TV.agg [.s (slT (withS t lock ((leaveS (List.getD t (lock).toNat ([], [])) w).1)))])) [])]) (ks := [6, 7]) (hs := [6]) (cs := [Spec Try.prog 106 [TV.agg [.s (slT t)], tc (i6 lock), TV.agg [.s (slO (((leaveS (List.getD t (lock).toNat ([], [])) w).1).1)), .s (slO (((leaveS (List.getD t (lock).toNat ([], [])) w).1).2))]] (ofH []) (AV.t (TV.agg [.s (slT (withS t lock ((leaveS (List.getD t (lock).toNat ([], [])) w).1)))])) (ofH [])]) (s' := AS.lst 35 [(6, vp 6 0), (7, vc (i6 0))] [(6, AObj.row [.s (slT (withS t lock ((leaveS (List.getD t (lock).toNat ([], [])) w).1)))])]) (by kernel_rfl) ?_ ?_
      · exact (with_c t lock ((leaveS (List.getD t (lock).toNat ([], [])) w).1) (by first | omega | (have hl := hg.1; have hh := has_iff.1 hc1; omega)) (by first | omega | (have hl := hg.1; have hh := has_iff.1 hc1; omega)))
      refine AMx.ret ?_
      exact RetP.mk (r := AV.tup [TV.agg [.s (slT (withS t lock ((leaveS (List.getD t (lock).toNat ([], [])) w).1)))], tc (i6 0)]) (by kernel_rfl) (by rw [show leaveT t w lock = (withS t lock ((leaveS (List.getD t (lock).toNat ([], [])) w).1), 0) from leave_3 hc1 hc2])

theorem f56_body : Try.f56.body = some (.seq (.region 0 (rg Try.f56 0) false) (.seq (.seq (.region 1 (rg Try.f56 1) false) (.block 0 (.loop (.seq (.seq (.region 2 (rg Try.f56 2) false) (.cond (.tmp 13) (.skip) (.exit 0))) (.seq (.block 1 (.seq (.region 4 (rg Try.f56 4) false) (.seq (.region 5 (rg Try.f56 5) false) (.cond (.tmp 24) (.region 6 (rg Try.f56 6) false) (.skip))))) (.region 3 (rg Try.f56 3) false)))))) (.seq (.region 7 (rg Try.f56 7) false) (.ret)))) := by kernel_rfl

set_option maxRecDepth 100000 in
set_option maxHeartbeats 8000000 in
theorem TQuit_c (t : Tab) (w : Int) (n : Nat) (hg : GoodT n t) (hn : n ≤ 80000) : Pure Try.prog 56 [TV.agg [.s (slT t)], tc (i6 w)] (AV.t (TV.agg [.s (slT (quitT w t.length t))])) := by
  refine Pure.of_body Try.func56 f56_body (by kernel_rfl) Try.ntmps56 (by kernel_rfl) (by kernel_rfl) ?_
  refine AMx.seq ?_
  refine AMx.region (ces := []) (ks := [1, 2, 4]) (hs := [2, 4]) (cs := []) (s' := AS.lst 27 [(1, vc (i6 w)), (2, vp 2 0), (4, vp 4 0)] [(2, AObj.row [.s (slT t)]), (4, AObj.row [.s (SC.nilsl)])]) (by kernel_rfl) ?_ ?_
  · exact trivial
  refine AMx.seq ?_
  refine AMx.seq ?_
  refine AMx.region (ces := []) (ks := [1, 2, 4, 5]) (hs := [2, 4]) (cs := [InR .i64 ((List.length t : Int) - 1)]) (s' := AS.lst 27 [(1, vc (i6 w)), (2, vp 2 0), (4, vp 4 0), (5, vc (i6 ((List.length t : Int) - 1)))] [(2, AObj.row [.s (slT t)]), (4, AObj.row [.s (SC.nilsl)])]) (by kernel_rfl) ?_ ?_
  · exact (show InR .i64 ((List.length t : Int) - 1) from (inR64 (by first | omega | (have hl := hg.1; omega)) (by first | omega | (have hl := hg.1; omega))))
  refine AMx.block ?_
  refine AMx.ent (s' := AS.lst 27 [(1, vc (i6 w)), (2, vp 2 0), (4, vp 4 0), (5, vc (i6 ((List.length t : Int) - 1)))] [(2, AObj.row [.s (slT t)]), (4, AObj.row [.s (SC.nilsl)])]) (ent_proj [1, 2, 4, 5] [2, 4]) ?_
  refine AMx.loop (fun mm ss => ∃ (k : Nat) (tt : Tab), (k ≤ t.length ∧ tt.length = t.length ∧ GoodT n tt ∧ quitT w t.length t = quitT w k tt) ∧ mm = 1 + k ∧ ss = AS.lst 27 [(1, vc (i6 w)), (2, vp 2 0), (4, vp 4 0), (5, vc (i6 ((k : Int) - 1)))] [(2, AObj.row [.s (slT tt)]), (4, AObj.row [.s (SC.nilsl)])]) ⟨t.length, t, ?_, rfl, ?_⟩ ?_
  · exact ⟨Nat.le_refl _, rfl, hg, rfl⟩
  · rfl
  rintro mm ss ⟨k, tt, ⟨hI, hL, hG, hQ⟩, rfl, rfl⟩
  refine AMx.seq ?_
  refine AMx.seq ?_
  refine AMx.region (ces := []) (ks := [1, 2, 4, 5, 13]) (hs := [2, 4]) (cs := []) (s' := AS.lst 27 [(1, vc (i6 w)), (2, vp 2 0), (4, vp 4 0), (5, vc (i6 ((k : Int) - 1))), (13, vc (bo (decide (0 ≤ (k : Int) - 1))))] [(2, AObj.row [.s (slT tt)]), (4, AObj.row [.s (SC.nilsl)])]) (by kernel_rfl) ?_ ?_
  · exact trivial
  refine AMx.cond (b := decide (0 ≤ (k : Int) - 1)) (by kernel_rfl) (fun hc1 => ?_) (fun hc1 => ?_)
  · try simp only [decide_eq_true_eq, decide_eq_false_iff_not] at hc1
    refine AMx.skip ?_
    refine AMx.seq ?_
    refine AMx.block ?_
    refine AMx.seq ?_
    refine AMx.region (ces := [(3, CE.call [] [] (AV.tup [TV.agg [.s (slT ((leaveT tt w ((k : Int) - 1)).1))], tc (i6 ((leaveT tt w ((k : Int) - 1)).2))]) [])]) (ks := [1, 2, 4, 5, 6, 7]) (hs := [2, 4, 6]) (cs := [Spec Try.prog 54 [TV.agg [.s (slT tt)], tc (i6 w), tc (i6 ((k : Int) - 1))] (ofH []) (AV.tup [TV.agg [.s (slT ((leaveT tt w ((k : Int) - 1)).1))], tc (i6 ((leaveT tt w ((k : Int) - 1)).2))]) (ofH [])]) (s' := AS.lst 27 [(1, vc (i6 w)), (2, vp 2 0), (4, vp 4 0), (5, vc (i6 ((k : Int) - 1))), (6, vp 6 0), (7, vc (i6 ((leaveT tt w ((k : Int) - 1)).2)))] [(2, AObj.row [.s (slT tt)]), (4, AObj.row [.s (SC.nilsl)]), (6, AObj.row [.s (slT ((leaveT tt w ((k : Int) - 1)).1))])]) (by kernel_rfl) ?_ ?_
    · exact (TLeave_c tt w ((k : Int) - 1) n hG hn)
    refine AMx.seq ?_
    refine AMx.region (ces := []) (ks := [1, 2, 4, 5, 6, 24]) (hs := [2, 4, 6]) (cs := []) (s' := AS.lst 27 [(1, vc (i6 w)), (2, vp 2 0), (4, vp 4 0), (5, vc (i6 ((k : Int) - 1))), (6, vp 6 0), (24, vc (bo (decide ((leaveT tt w ((k : Int) - 1)).2 = 0))))] [(2, AObj.row [.s (slT tt)]), (4, AObj.row [.s (SC.nilsl)]), (6, AObj.row [.s (slT ((leaveT tt w ((k : Int) - 1)).1))])]) (by kernel_rfl) ?_ ?_
    · exact trivial
    refine AMx.cond (b := decide ((leaveT tt w ((k : Int) - 1)).2 = 0)) (by kernel_rfl) (fun hc2 => ?_) (fun hc2 => ?_)
    · try simp only [decide_eq_true_eq, decide_eq_false_iff_not] at hc2
      refine AMx.region (ces := []) (ks := [1, 2, 4, 5]) (hs := [2, 4]) (cs := []) (s' := AS.lst 27 [(1, vc (i6 w)), (2, vp 2 0), (4, vp 4 0), (5, vc (i6 ((k : Int) - 1)))] [(2, AObj.row [.s (slT ((leaveT tt w ((k : Int) - 1)).1))]), (4, AObj.row [.s (SC.nilsl)])]) (by kernel_rfl) ?_ ?_
      · exact trivial
      refine AMx.blk ?_
      refine AMx.region (ces := []) (ks := [1, 2, 4, 5]) (hs := [2, 4]) (cs := [InR .i64 (((k : Int) - 1) - 1)]) (s' := AS.lst 27 [(1, vc (i6 w)), (2, vp 2 0), (4, vp 4 0), (5, vc (i6 (((k : Int) - 1) - 1)))] [(2, AObj.row [.s (slT ((leaveT tt w ((k : Int) - 1)).1))]), (4, AObj.row [.s (SC.nilsl)])]) (by kernel_rfl) ?_ ?_
      · exact (show InR .i64 (((k : Int) - 1) - 1) from (inR64 (by first | omega | (have hl := hg.1; omega)) (by first | omega | (have hl := hg.1; omega))))
      refine AMx.ent_inv (s' := AS.lst 27 [(1, vc (i6 w)), (2, vp 2 0), (4, vp 4 0), (5, vc (i6 (((k : Int) - 1) - 1)))] [(2, AObj.row [.s (slT ((leaveT tt w ((k : Int) - 1)).1))]), (4, AObj.row [.s (SC.nilsl)])]) (ent_proj [1, 2, 4, 5] [2, 4]) ?_
      refine AMx.inv ⟨_, ?_, k - 1, (leaveT tt w ((k : Int) - 1)).1, ?_, rfl, ?_⟩
      rotate_left
      · exact ⟨by omega, by rw [leave_len]; exact hL, leave_good hG, by rw [hQ, quit_step (by omega)]⟩
      · rw [show ((k - 1 : Nat) : Int) - 1 = (k : Int) - 1 - 1 by omega] <;> rfl
      · omega
    · try simp only [decide_eq_true_eq, decide_eq_false_iff_not] at hc2
      refine AMx.skip ?_
      refine AMx.blk ?_
      refine AMx.region (ces := []) (ks := [1, 2, 4, 5]) (hs := [2, 4]) (cs := [InR .i64 (((k : Int) - 1) - 1)]) (s' := AS.lst 27 [(1, vc (i6 w)), (2, vp 2 0), (4, vp 4 0), (5, vc (i6 (((k : Int) - 1) - 1)))] [(2, AObj.row [.s (slT tt)]), (4, AObj.row [.s (SC.nilsl)])]) (by kernel_rfl) ?_ ?_
      · exact (show InR .i64 (((k : Int) - 1) - 1) from (inR64 (by first | omega | (have hl := hg.1; omega)) (by first | omega | (have hl := hg.1; omega))))
      refine AMx.ent_inv (s' := AS.lst 27 [(1, vc (i6 w)), (2, vp 2 0), (4, vp 4 0), (5, vc (i6 (((k : Int) - 1) - 1)))] [(2, AObj.row [.s (slT tt)]), (4, AObj.row [.s (SC.nilsl)])]) (ent_proj [1, 2, 4, 5] [2, 4]) ?_
      refine AMx.inv ⟨_, ?_, k - 1, tt, ?_, rfl, ?_⟩
      rotate_left
      · exact ⟨by omega, hL, hG, by rw [hQ, quit_step (by omega), leave_id hc2]⟩
      · rw [show ((k - 1 : Nat) : Int) - 1 = (k : Int) - 1 - 1 by omega] <;> rfl
      · omega
  · try simp only [decide_eq_true_eq, decide_eq_false_iff_not] at hc1
    refine AMx.exit ?_
    refine AMx.code_exit ?_
    refine AMx.inv_exit ?_
    refine AMx.blk_exit ?_
    refine AMx.seq ?_
    refine AMx.region (ces := []) (ks := [4]) (hs := [4]) (cs := []) (s' := AS.lst 27 [(4, vp 4 0)] [(4, AObj.row [.s (slT tt)])]) (by kernel_rfl) ?_ ?_
    · exact trivial
    refine AMx.ret ?_
    exact RetP.mk (r := AV.t (TV.agg [.s (slT tt)])) (by kernel_rfl) (by rw [hQ, show k = 0 by omega]; rfl)

theorem f107_body : Try.f107.body = some (.seq (.region 0 (rg Try.f107 0) false) (.seq (.region 1 (rg Try.f107 1) false) (.seq (.region 2 (rg Try.f107 2) false) (.seq (.region 3 (rg Try.f107 3) false) (.ret))))) := by kernel_rfl

set_option maxRecDepth 100000 in
set_option maxHeartbeats 8000000 in
theorem RWith_c (t : Tab) (k : Int) (g : Gt) (hk : 0 ≤ k ∧ k < (List.length t : Int)) (hb : t.length ≤ 100) : Pure Try.prog 107 [TV.agg [.s (slT t)], tc (i6 k), TV.agg [.s (slO g.1), .s (slO g.2)]] (AV.t (TV.agg [.s (slT (withS t k g))])) := by
  refine Pure.of_body Try.func107 f107_body (by kernel_rfl) Try.ntmps107 (by kernel_rfl) (by kernel_rfl) ?_
  refine AMx.seq ?_
  refine AMx.region (ces := []) (ks := [1, 3, 5, 6]) (hs := [3, 5, 6]) (cs := []) (s' := AS.lst 18 [(1, vc (i6 k)), (3, vp 3 0), (5, vp 5 0), (6, vp 6 0)] [(3, AObj.row [.s (slT t)]), (5, AObj.row [.s (slO g.1), .s (slO g.2)]), (6, AObj.row [.s (SC.nilsl)])]) (by kernel_rfl) ?_ ?_
  · exact trivial
  refine AMx.seq ?_
  refine AMx.region (ces := [(0, CE.obj (AObj.grow 47 2 Gt ([], []) rowT [])), (3, CE.obj (AObj.grow 47 2 Gt ([], []) rowT ([] ++ t)))]) (ks := [1, 5, 6, 7]) (hs := [5, 6, 11]) (cs := [flat 2 rowT [] = [], List.length ([] : List Gt) = 0, AppC (flat 2 rowT t) (List.length t) 48 (AObj.grow 47 2 Gt ([], []) rowT []) (AObj.grow 47 2 Gt ([], []) rowT ([] ++ t))]) (s' := AS.lst 18 [(1, vc (i6 k)), (5, vp 5 0), (6, vp 6 0), (7, vo 11)] [(5, AObj.row [.s (slO g.1), .s (slO g.2)]), (6, AObj.row [.s (SC.nilsl)]), (11, AObj.grow 47 2 Gt ([], []) rowT ([] ++ t))]) (by kernel_rfl) ?_ ?_
  · exact ⟨rfl, rfl, (⟨_, rfl, rfl, rfl, by simp only [List.length_nil]; omega, by simp only [maxLen, List.length_nil]; omega⟩)⟩
  refine AMx.seq ?_
  refine AMx.region (ces := [(4, CE.obj (AObj.grow 47 2 Gt ([], []) rowT (List.set ([] ++ t) (k).toNat g)))]) (ks := [6, 7]) (hs := [6, 11]) (cs := [(0 : Int) ≤ k, k < List.length ([] ++ t : List Gt), StoreC ((k).toNat) 0 [.s (slO g.1), .s (slO g.2)] (AObj.grow 47 2 Gt ([], []) rowT ([] ++ t)) (AObj.grow 47 2 Gt ([], []) rowT (List.set ([] ++ t) (k).toNat g))]) (s' := AS.lst 18 [(6, vp 6 0), (7, vo 11)] [(6, AObj.row [.s (SC.nilsl)]), (11, AObj.grow 47 2 Gt ([], []) rowT (List.set ([] ++ t) (k).toNat g))]) (by kernel_rfl) ?_ ?_
  · exact ⟨(show (0 : Int) ≤ k from (by first | omega | (simp only [List.nil_append]; omega))), (show k < List.length ([] ++ t : List Gt) from (by first | omega | (simp only [List.nil_append]; omega))), (⟨g, rfl, by first | omega | (simp only [List.nil_append]; omega), rfl⟩)⟩
  refine AMx.seq ?_
  refine AMx.region (ces := []) (ks := [6]) (hs := [6, 11]) (cs := []) (s' := AS.lst 18 [(6, vp 6 0)] [(6, AObj.row [.own 11]), (11, AObj.grow 47 2 Gt ([], []) rowT (List.set ([] ++ t) (k).toNat g))]) (by kernel_rfl) ?_ ?_
  · exact trivial
  refine AMx.ent (s' := AS.lst 18 [(6, vp 6 0)] [(6, AObj.row [.s (slT (List.set ([] ++ t) (k).toNat g))])]) (ent_freeze (id := 11) (T := 47) (by kernel_rfl)) ?_
  refine AMx.ret ?_
  exact RetP.mk (r := AV.t (TV.agg [.s (slT (List.set ([] ++ t) (k).toNat g))])) (by kernel_rfl) (by rw [List.nil_append]; rfl)

theorem f55_body : Try.f55.body = some (.seq (.region 0 (rg Try.f55 0) false) (.seq (.seq (.region 1 (rg Try.f55 1) false) (.cond (.tmp 19) (.seq (.region 2 (rg Try.f55 2) false) (.ret)) (.skip))) (.seq (.region 3 (rg Try.f55 3) false) (.seq (.seq (.region 4 (rg Try.f55 4) false) (.cond (.tmp 33) (.seq (.region 5 (rg Try.f55 5) false) (.ret)) (.skip))) (.seq (.region 6 (rg Try.f55 6) false) (.ret)))))) := by kernel_rfl

set_option maxRecDepth 100000 in
set_option maxHeartbeats 8000000 in
theorem TRLeave_c (t : Tab) (w lock : Int) (n : Nat) (hg : GoodT n t) (hn : n ≤ 80000) : Pure Try.prog 55 [TV.agg [.s (slT t)], tc (i6 w), tc (i6 lock)] (AV.tup [TV.agg [.s (slT ((leaveT t w lock).1))], tc (i6 ((leaveT t w lock).2))]) := by
  refine Pure.of_body Try.func55 f55_body (by kernel_rfl) Try.ntmps55 (by kernel_rfl) (by kernel_rfl) ?_
  refine AMx.seq ?_
  refine AMx.region (ces := []) (ks := [1, 2, 3, 6]) (hs := [3, 6]) (cs := []) (s' := AS.lst 40 [(1, vc (i6 w)), (2, vc (i6 lock)), (3, vp 3 0), (6, vp 6 0)] [(3, AObj.row [.s (slT t)]), (6, AObj.row [.s (SC.nilsl)])]) (by kernel_rfl) ?_ ?_
  · exact trivial
  refine AMx.seq ?_
  refine AMx.seq ?_
  refine AMx.region (ces := []) (ks := [1, 2, 3, 6, 19]) (hs := [3, 6]) (cs := [((decide (lock < 0)) = false) → allP [], ((decide (lock < 0)) = false) → allP [], ((decide (lock < 0)) = false) → allP [(decide (lock < 0)) = false], ((decide (lock < 0)) = false) → allP [(decide (lock < 0)) = false], ((decide (lock < 0)) = false) → allP [(decide (lock < 0)) = false, (decide (lock < 0)) = false], (decide (lock < 0)) = false → allP [(decide (lock < 0)) = false]]) (s' := AS.lst 40 [(1, vc (i6 w)), (2, vc (i6 lock)), (3, vp 3 0), (6, vp 6 0), (19, vc (bo ((decide (lock < 0)) || (decide ((List.length t : Int) ≤ lock)))))] [(3, AObj.row [.s (slT t)]), (6, AObj.row [.s (SC.nilsl)])]) (by kernel_rfl) ?_ ?_
  · exact ⟨(fun _ => trivial), (fun _ => trivial), (fun hp => hp), (fun hp => hp), (fun hp => ⟨hp, hp⟩), (fun hp2 => (by first | exact hp2 | exact ⟨hp, hp2⟩))⟩
  refine AMx.cond (b := ((decide (lock < 0)) || (decide ((List.length t : Int) ≤ lock)))) (by kernel_rfl) (fun hc1 => ?_) (fun hc1 => ?_)
  · try simp only [decide_eq_true_eq, decide_eq_false_iff_not, Bool.or_eq_true, Bool.or_eq_false_iff] at hc1
    refine AMx.seq ?_
    refine AMx.region (ces := []) (ks := [6, 7]) (hs := [6]) (cs := []) (s' := AS.lst 40 [(6, vp 6 0), (7, vc (i6 8))] [(6, AObj.row [.s (slT t)])]) (by kernel_rfl) ?_ ?_
    · exact trivial
    refine AMx.ret ?_
    exact RetP.mk (r := AV.tup [TV.agg [.s (slT t)], tc (i6 8)]) (by kernel_rfl) (by rw [show leaveT t w lock = (t, 8) from leave_1 (has_no (by omega))])
  · try simp only [decide_eq_true_eq, decide_eq_false_iff_not, Bool.or_eq_true, Bool.or_eq_false_iff] at hc1
    refine AMx.skip ?_
    refine AMx.seq ?_
    refine AMx.region (ces := [(6, CE.call [] [] (AV.tup [TV.agg [.s (slO (((leaveS (List.getD t (lock).toNat ([], [])) w).1).1)), .s (slO (((leaveS (List.getD t (lock).toNat ([], [])) w).1).2))], tc (slI ((leaveS (List.getD t (lock).toNat ([], [])) w).2.1)), tc (i6 ((leaveS (List.getD t (lock).toNat ([], [])) w).2.2))]) [])]) (ks := [2, 3, 6, 8, 10]) (hs := [3, 6, 8]) (cs := [(0 : Int) ≤ lock, lock < List.length t, Spec Try.prog 90 [TV.agg [.s (slO ((List.getD t (lock).toNat ([], [])).1)), .s (slO ((List.getD t (lock).toNat ([], [])).2))], tc (i6 w)] (ofH []) (AV.tup [TV.agg [.s (slO (((leaveS (List.getD t (lock).toNat ([], [])) w).1).1)), .s (slO (((leaveS (List.getD t (lock).toNat ([], [])) w).1).2))], tc (slI ((leaveS (List.getD t (lock).toNat ([], [])) w).2.1)), tc (i6 ((leaveS (List.getD t (lock).toNat ([], [])) w).2.2))]) (ofH [])]) (s' := AS.lst 40 [(2, vc (i6 lock)), (3, vp 3 0), (6, vp 6 0), (8, vp 8 0), (10, vc (i6 ((leaveS (List.getD t (lock).toNat ([], [])) w).2.2)))] [(3, AObj.row [.s (slT t)]), (6, AObj.row [.s (SC.nilsl)]), (8, AObj.row [.s (slO (((leaveS (List.getD t (lock).toNat ([], [])) w).1).1)), .s (slO (((leaveS (List.getD t (lock).toNat ([], [])) w).1).2))])]) (by kernel_rfl) ?_ ?_
    · exact ⟨(show (0 : Int) ≤ lock from (by first | omega | (have hl := hg.1; omega))), (show lock < List.length t from (by first | omega | (have hl := hg.1; omega))), (RLeave_c (List.getD t (lock).toNat ([], [])) w (by exact (good_at hg (by omega)).1) (by have hz := (good_at hg (k := lock) (by omega)).2; unfold sizeS at hz; omega))⟩
    refine AMx.seq ?_
    refine AMx.seq ?_
    refine AMx.region (ces := []) (ks := [2, 3, 6, 8, 10, 33]) (hs := [3, 6, 8]) (cs := []) (s' := AS.lst 40 [(2, vc (i6 lock)), (3, vp 3 0), (6, vp 6 0), (8, vp 8 0), (10, vc (i6 ((leaveS (List.getD t (lock).toNat ([], [])) w).2.2))), (33, vc (bo (!decide ((leaveS (List.getD t (lock).toNat ([], [])) w).2.2 = 0))))] [(3, AObj.row [.s (slT t)]), (6, AObj.row [.s (SC.nilsl)]), (8, AObj.row [.s (slO (((leaveS (List.getD t (lock).toNat ([], [])) w).1).1)), .s (slO (((leaveS (List.getD t (lock).toNat ([], [])) w).1).2))])]) (by kernel_rfl) ?_ ?_
    · exact trivial
    refine AMx.cond (b := !decide ((leaveS (List.getD t (lock).toNat ([], [])) w).2.2 = 0)) (by kernel_rfl) (fun hc2 => ?_) (fun hc2 => ?_)
    · try simp only [decide_eq_true_eq, decide_eq_false_iff_not, Bool.not_eq_true', Bool.not_eq_false'] at hc2
      refine AMx.seq ?_
      refine AMx.region (ces := []) (ks := [6, 7]) (hs := [6]) (cs := []) (s' := AS.lst 40 [(6, vp 6 0), (7, vc (i6 ((leaveS (List.getD t (lock).toNat ([], [])) w).2.2)))] [(6, AObj.row [.s (slT t)])]) (by kernel_rfl) ?_ ?_
      · exact trivial
      refine AMx.ret ?_
      exact RetP.mk (r := AV.tup [TV.agg [.s (slT t)], tc (i6 ((leaveS (List.getD t (lock).toNat ([], [])) w).2.2))]) (by kernel_rfl) (by rw [show leaveT t w lock = (t, (leaveS (List.getD t (lock).toNat ([], [])) w).2.2) from leave_2 (has_iff.2 (by omega)) hc2])
    · try simp only [decide_eq_true_eq, decide_eq_false_iff_not, Bool.not_eq_true', Bool.not_eq_false'] at hc2
      refine AMx.skip ?_
      refine AMx.seq ?_
      refine AMx.region (ces := [(3, CE.call [] [] (AV.t (TV.agg [.s (slT (withS t lock ((leaveS (List.getD t (lock).toNat ([], [])) w).1)))])) [])]) (ks := [6, 7]) (hs := [6]) (cs := [Spec Try.prog 107 [TV.agg [.s (slT t)], tc (i6 lock), TV.agg [.s (slO (((leaveS (List.getD t (lock).toNat ([], [])) w).1).1)), .s (slO (((leaveS (List.getD t (lock).toNat ([], [])) w).1).2))]] (ofH []) (AV.t (TV.agg [.s (slT (withS t lock ((leaveS (List.getD t (lock).toNat ([], [])) w).1)))])) (ofH [])]) (s' := AS.lst 40 [(6, vp 6 0), (7, vc (i6 0))] [(6, AObj.row [.s (slT (withS t lock ((leaveS (List.getD t (lock).toNat ([], [])) w).1)))])]) (by kernel_rfl) ?_ ?_
      · exact (RWith_c t lock ((leaveS (List.getD t (lock).toNat ([], [])) w).1) (by first | omega | (have hl := hg.1; omega)) (by first | omega | (have hl := hg.1; omega)))
      refine AMx.ret ?_
      exact RetP.mk (r := AV.tup [TV.agg [.s (slT (withS t lock ((leaveS (List.getD t (lock).toNat ([], [])) w).1)))], tc (i6 0)]) (by kernel_rfl) (by rw [show leaveT t w lock = (withS t lock ((leaveS (List.getD t (lock).toNat ([], [])) w).1), 0) from leave_3 (has_iff.2 (by omega)) hc2])

theorem f57_body : Try.f57.body = some (.seq (.region 0 (rg Try.f57 0) false) (.seq (.seq (.region 1 (rg Try.f57 1) false) (.block 0 (.loop (.seq (.seq (.region 2 (rg Try.f57 2) false) (.cond (.tmp 11) (.skip) (.exit 0))) (.seq (.block 1 (.region 4 (rg Try.f57 4) false)) (.region 3 (rg Try.f57 3) false)))))) (.seq (.region 5 (rg Try.f57 5) false) (.ret)))) := by kernel_rfl

set_option maxRecDepth 100000 in
set_option maxHeartbeats 8000000 in
theorem TRQuit_c (t : Tab) (w : Int) (n : Nat) (hg : GoodT n t) (hn : n ≤ 80000) : Pure Try.prog 57 [TV.agg [.s (slT t)], tc (i6 w)] (AV.t (TV.agg [.s (slT (quitT w t.length t))])) := by
  refine Pure.of_body Try.func57 f57_body (by kernel_rfl) Try.ntmps57 (by kernel_rfl) (by kernel_rfl) ?_
  refine AMx.seq ?_
  refine AMx.region (ces := []) (ks := [1, 2, 4]) (hs := [2, 4]) (cs := []) (s' := AS.lst 22 [(1, vc (i6 w)), (2, vp 2 0), (4, vp 4 0)] [(2, AObj.row [.s (slT t)]), (4, AObj.row [.s (SC.nilsl)])]) (by kernel_rfl) ?_ ?_
  · exact trivial
  refine AMx.seq ?_
  refine AMx.seq ?_
  refine AMx.region (ces := []) (ks := [1, 2, 4, 5]) (hs := [2, 4]) (cs := [InR .i64 ((List.length t : Int) - 1)]) (s' := AS.lst 22 [(1, vc (i6 w)), (2, vp 2 0), (4, vp 4 0), (5, vc (i6 ((List.length t : Int) - 1)))] [(2, AObj.row [.s (slT t)]), (4, AObj.row [.s (SC.nilsl)])]) (by kernel_rfl) ?_ ?_
  · exact (show InR .i64 ((List.length t : Int) - 1) from (inR64 (by first | omega | (have hl := hg.1; omega)) (by first | omega | (have hl := hg.1; omega))))
  refine AMx.block ?_
  refine AMx.ent (s' := AS.lst 22 [(1, vc (i6 w)), (2, vp 2 0), (4, vp 4 0), (5, vc (i6 ((List.length t : Int) - 1)))] [(2, AObj.row [.s (slT t)]), (4, AObj.row [.s (SC.nilsl)])]) (ent_proj [1, 2, 4, 5] [2, 4]) ?_
  refine AMx.loop (fun mm ss => ∃ (k : Nat) (tt : Tab), (k ≤ t.length ∧ tt.length = t.length ∧ GoodT n tt ∧ quitT w t.length t = quitT w k tt) ∧ mm = 1 + k ∧ ss = AS.lst 22 [(1, vc (i6 w)), (2, vp 2 0), (4, vp 4 0), (5, vc (i6 ((k : Int) - 1)))] [(2, AObj.row [.s (slT tt)]), (4, AObj.row [.s (SC.nilsl)])]) ⟨t.length, t, ?_, rfl, ?_⟩ ?_
  · exact ⟨Nat.le_refl _, rfl, hg, rfl⟩
  · rfl
  rintro mm ss ⟨k, tt, ⟨hI, hL, hG, hQ⟩, rfl, rfl⟩
  refine AMx.seq ?_
  refine AMx.seq ?_
  refine AMx.region (ces := []) (ks := [1, 2, 4, 5, 11]) (hs := [2, 4]) (cs := []) (s' := AS.lst 22 [(1, vc (i6 w)), (2, vp 2 0), (4, vp 4 0), (5, vc (i6 ((k : Int) - 1))), (11, vc (bo (decide (0 ≤ (k : Int) - 1))))] [(2, AObj.row [.s (slT tt)]), (4, AObj.row [.s (SC.nilsl)])]) (by kernel_rfl) ?_ ?_
  · exact trivial
  refine AMx.cond (b := decide (0 ≤ (k : Int) - 1)) (by kernel_rfl) (fun hc1 => ?_) (fun hc1 => ?_)
  · try simp only [decide_eq_true_eq, decide_eq_false_iff_not] at hc1
    refine AMx.skip ?_
    refine AMx.seq ?_
    refine AMx.block ?_
    refine AMx.region (ces := [(3, CE.call [] [] (AV.tup [TV.agg [.s (slT ((leaveT tt w ((k : Int) - 1)).1))], tc (i6 ((leaveT tt w ((k : Int) - 1)).2))]) [])]) (ks := [1, 2, 4, 5]) (hs := [2, 4]) (cs := [Spec Try.prog 55 [TV.agg [.s (slT tt)], tc (i6 w), tc (i6 ((k : Int) - 1))] (ofH []) (AV.tup [TV.agg [.s (slT ((leaveT tt w ((k : Int) - 1)).1))], tc (i6 ((leaveT tt w ((k : Int) - 1)).2))]) (ofH [])]) (s' := AS.lst 22 [(1, vc (i6 w)), (2, vp 2 0), (4, vp 4 0), (5, vc (i6 ((k : Int) - 1)))] [(2, AObj.row [.s (slT ((leaveT tt w ((k : Int) - 1)).1))]), (4, AObj.row [.s (SC.nilsl)])]) (by kernel_rfl) ?_ ?_
    · exact (TRLeave_c tt w ((k : Int) - 1) n hG hn)
    refine AMx.blk ?_
    refine AMx.region (ces := []) (ks := [1, 2, 4, 5]) (hs := [2, 4]) (cs := [InR .i64 (((k : Int) - 1) - 1)]) (s' := AS.lst 22 [(1, vc (i6 w)), (2, vp 2 0), (4, vp 4 0), (5, vc (i6 (((k : Int) - 1) - 1)))] [(2, AObj.row [.s (slT ((leaveT tt w ((k : Int) - 1)).1))]), (4, AObj.row [.s (SC.nilsl)])]) (by kernel_rfl) ?_ ?_
    · exact (show InR .i64 (((k : Int) - 1) - 1) from (inR64 (by first | omega | (have hl := hg.1; omega)) (by first | omega | (have hl := hg.1; omega))))
    refine AMx.ent_inv (s' := AS.lst 22 [(1, vc (i6 w)), (2, vp 2 0), (4, vp 4 0), (5, vc (i6 (((k : Int) - 1) - 1)))] [(2, AObj.row [.s (slT ((leaveT tt w ((k : Int) - 1)).1))]), (4, AObj.row [.s (SC.nilsl)])]) (ent_proj [1, 2, 4, 5] [2, 4]) ?_
    refine AMx.inv ⟨_, ?_, k - 1, (leaveT tt w ((k : Int) - 1)).1, ?_, rfl, ?_⟩
    rotate_left
    · exact ⟨by omega, by rw [leave_len]; exact hL, leave_good hG, by rw [hQ, quit_step (by omega)]⟩
    · rw [show ((k - 1 : Nat) : Int) - 1 = (k : Int) - 1 - 1 by omega] <;> rfl
    · omega
  · try simp only [decide_eq_true_eq, decide_eq_false_iff_not] at hc1
    refine AMx.exit ?_
    refine AMx.code_exit ?_
    refine AMx.inv_exit ?_
    refine AMx.blk_exit ?_
    refine AMx.seq ?_
    refine AMx.region (ces := []) (ks := [4]) (hs := [4]) (cs := []) (s' := AS.lst 22 [(4, vp 4 0)] [(4, AObj.row [.s (slT tt)])]) (by kernel_rfl) ?_ ?_
    · exact trivial
    refine AMx.ret ?_
    exact RetP.mk (r := AV.t (TV.agg [.s (slT tt)])) (by kernel_rfl) (by rw [hQ, show k = 0 by omega]; rfl)

theorem f110_body : Try.f110.body = some (.seq (.region 0 (rg Try.f110 0) false) (.seq (.seq (.region 1 (rg Try.f110 1) false) (.block 0 (.loop (.seq (.seq (.region 2 (rg Try.f110 2) false) (.cond (.tmp 10) (.skip) (.exit 0))) (.seq (.block 1 (.seq (.region 4 (rg Try.f110 4) false) (.cond (.tmp 21) (.seq (.region 5 (rg Try.f110 5) false) (.ret)) (.skip)))) (.region 3 (rg Try.f110 3) false)))))) (.seq (.region 6 (rg Try.f110 6) false) (.ret)))) := by kernel_rfl

set_option maxRecDepth 100000 in
set_option maxHeartbeats 8000000 in
theorem RWaits_c (t : Tab) (w : Int) : Pure Try.prog 110 [TV.agg [.s (slT t)], tc (i6 w)] (vc (i6 (waitIx t w))) := by
  refine Pure.of_body Try.func110 f110_body (by kernel_rfl) Try.ntmps110 (by kernel_rfl) (by kernel_rfl) ?_
  refine AMx.celln 0 0 rfl rfl (fun hl => ?_)
  simp only [maxLen] at hl
  refine AMx.seq ?_
  refine AMx.region (ces := []) (ks := [1, 2]) (hs := [2]) (cs := []) (s' := AS.lst 23 [(1, vc (i6 w)), (2, vp 2 0)] [(2, AObj.row [.s (slT t)])]) (by kernel_rfl) ?_ ?_
  · exact trivial
  refine AMx.seq ?_
  refine AMx.seq ?_
  refine AMx.region (ces := []) (ks := [1, 2, 5]) (hs := [2]) (cs := []) (s' := AS.lst 23 [(1, vc (i6 w)), (2, vp 2 0), (5, vc (i6 0))] [(2, AObj.row [.s (slT t)])]) (by kernel_rfl) ?_ ?_
  · exact trivial
  refine AMx.block ?_
  refine AMx.ent (s' := AS.lst 23 [(1, vc (i6 w)), (2, vp 2 0), (5, vc (i6 0))] [(2, AObj.row [.s (slT t)])]) (ent_proj [1, 2, 5] [2]) ?_
  refine AMx.loop (fun mm ss => ∃ (k : Nat), (k ≤ t.length ∧ ∀ x ∈ List.take k t, (fun g : Gt => decide (0 ≤ findS g.2 w)) x = false) ∧ mm = t.length - k ∧ ss = AS.lst 23 [(1, vc (i6 w)), (2, vp 2 0), (5, vc (i6 (k : Int)))] [(2, AObj.row [.s (slT t)])]) ⟨0, ?_, rfl, ?_⟩ ?_
  · exact ⟨by omega, fun x hx => by simp at hx⟩
  · rfl
  rintro mm ss ⟨k, ⟨hI, hN⟩, rfl, rfl⟩
  refine AMx.seq ?_
  refine AMx.seq ?_
  refine AMx.region (ces := []) (ks := [1, 2, 5, 10]) (hs := [2]) (cs := []) (s' := AS.lst 23 [(1, vc (i6 w)), (2, vp 2 0), (5, vc (i6 (k : Int))), (10, vc (bo (decide ((k : Int) < (List.length t : Int)))))] [(2, AObj.row [.s (slT t)])]) (by kernel_rfl) ?_ ?_
  · exact trivial
  refine AMx.cond (b := decide ((k : Int) < (List.length t : Int))) (by kernel_rfl) (fun hc1 => ?_) (fun hc1 => ?_)
  · try simp only [decide_eq_true_eq, decide_eq_false_iff_not] at hc1
    refine AMx.skip ?_
    refine AMx.seq ?_
    refine AMx.block ?_
    refine AMx.seq ?_
    refine AMx.region (ces := [(7, CE.call [] [] (vc (i6 (findS ((List.getD t k ([], [])).2) w))) [])]) (ks := [1, 2, 5, 21]) (hs := [2]) (cs := [(0 : Int) ≤ (k : Int), (k : Int) < List.length t, Spec Try.prog 37 [tc (slO ((List.getD t k ([], [])).2)), tc (i6 w)] (ofH []) (vc (i6 (findS ((List.getD t k ([], [])).2) w))) (ofH [])]) (s' := AS.lst 23 [(1, vc (i6 w)), (2, vp 2 0), (5, vc (i6 (k : Int))), (21, vc (bo (decide (0 ≤ findS ((List.getD t k ([], [])).2) w))))] [(2, AObj.row [.s (slT t)])]) (by kernel_rfl) ?_ ?_
    · exact ⟨(show (0 : Int) ≤ (k : Int) from (by omega)), (show (k : Int) < List.length t from (by omega)), (RFind_c ((List.getD t k ([], [])).2) w)⟩
    refine AMx.cond (b := decide (0 ≤ findS ((List.getD t k ([], [])).2) w)) (by kernel_rfl) (fun hc2 => ?_) (fun hc2 => ?_)
    · try simp only [decide_eq_true_eq, decide_eq_false_iff_not] at hc2
      refine AMx.seq ?_
      refine AMx.region (ces := []) (ks := [4]) (hs := []) (cs := []) (s' := AS.lst 23 [(4, vc (i6 (k : Int)))] []) (by kernel_rfl) ?_ ?_
      · exact trivial
      refine AMx.ret ?_
      exact RetP.mk (r := vc (i6 (k : Int))) (by kernel_rfl) (by unfold waitIx; rw [AL.Lib.idx_hit (p := (fun g : Gt => decide (0 ≤ findS g.2 w))) ([], []) t k (by omega) hN (decide_eq_true (by assumption))])
    · try simp only [decide_eq_true_eq, decide_eq_false_iff_not] at hc2
      refine AMx.skip ?_
      refine AMx.blk ?_
      refine AMx.region (ces := []) (ks := [1, 2, 5]) (hs := [2]) (cs := [InR .i64 ((k : Int) + 1)]) (s' := AS.lst 23 [(1, vc (i6 w)), (2, vp 2 0), (5, vc (i6 ((k : Int) + 1)))] [(2, AObj.row [.s (slT t)])]) (by kernel_rfl) ?_ ?_
      · exact (show InR .i64 ((k : Int) + 1) from (inR64 (by omega) (by omega)))
      refine AMx.ent_inv (s' := AS.lst 23 [(1, vc (i6 w)), (2, vp 2 0), (5, vc (i6 ((k : Int) + 1)))] [(2, AObj.row [.s (slT t)])]) (ent_proj [1, 2, 5] [2]) ?_
      refine AMx.inv ⟨_, ?_, k + 1, ?_, rfl, ?_⟩
      rotate_left
      · exact ⟨by omega, AL.Lib.all_step (p := (fun g : Gt => decide (0 ≤ findS g.2 w))) ([], []) t k (by omega) hN (decide_eq_false (by assumption))⟩
      · rfl
      · omega
  · try simp only [decide_eq_true_eq, decide_eq_false_iff_not] at hc1
    refine AMx.exit ?_
    refine AMx.code_exit ?_
    refine AMx.inv_exit ?_
    refine AMx.blk_exit ?_
    refine AMx.seq ?_
    refine AMx.region (ces := []) (ks := [4]) (hs := []) (cs := []) (s' := AS.lst 23 [(4, vc (i6 (-1)))] []) (by kernel_rfl) ?_ ?_
    · exact trivial
    refine AMx.ret ?_
    exact RetP.mk (r := vc (i6 (-1))) (by kernel_rfl) (by unfold waitIx; rw [AL.Lib.idx_none (p := (fun g : Gt => decide (0 ≤ findS g.2 w))) (fun x hx => hN x (by rwa [List.take_of_length_le (by omega)]))])

end AL.Locks
