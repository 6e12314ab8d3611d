/- secret: the contracts of its functions, by their walks. No condition. -/
import Derived.Test.YtioefgdmkjagdaaSecretC
namespace AL.Secret
open Go Go.Proofs AL AL.Fnv
set_option linter.unusedVariables false
set_option linter.unusedSimpArgs false

theorem f68_body : Try.f68.body = some (.seq (.region 0 (rg Try.f68 0) false) (.seq (.seq (.region 1 (rg Try.f68 1) false) (.cond (.tmp 21) (.seq (.region 2 (rg Try.f68 2) false) (.ret)) (.skip))) (.seq (.region 3 (rg Try.f68 3) false) (.seq (.region 4 (rg Try.f68 4) false) (.seq (.region 5 (rg Try.f68 5) false) (.ret)))))) := by kernel_rfl

set_option maxRecDepth 100000 in
set_option maxHeartbeats 8000000 in
theorem Configure_c (s : Sec) (r : Rul) (most : Int) (cas : Bool) (hb : s.2.2.2.length ≤ 1000) : Pure Try.prog 68 [TV.agg [.s (i6 s.1), .s (bo s.2.1), .s (i6 s.2.2.1), .s (slR s.2.2.2)], TV.agg [.s (i6 r.1), .s (bo r.2)], tc (i6 most), tc (bo cas)] (AV.tup [TV.agg [.s (i6 (((confS s r most cas).1).1)), .s (bo (((confS s r most cas).1).2.1)), .s (i6 (((confS s r most cas).1).2.2.1)), .s (slR (((confS s r most cas).1).2.2.2))], tc (slI ((confS s r most cas).2.1)), tc (i6 ((confS s r most cas).2.2))]) := by
  refine Pure.of_body Try.func68 f68_body (by kernel_rfl) Try.ntmps68 (by kernel_rfl) (by kernel_rfl) ?_
  refine AMx.seq ?_
  refine AMx.region (ces := []) (ks := [2, 3, 4, 5, 8]) (hs := [4, 5, 8]) (cs := []) (s' := AS.lst 35 [(2, vc (i6 most)), (3, vc (bo cas)), (4, vp 4 0), (5, vp 5 0), (8, vp 8 0)] [(4, AObj.row [.s (i6 s.1), .s (bo s.2.1), .s (i6 s.2.2.1), .s (slR s.2.2.2)]), (5, AObj.row [.s (i6 r.1), .s (bo r.2)]), (8, AObj.row [.s (i6 0), .s (bo false), .s (i6 0), .s (SC.nilsl)])]) (by kernel_rfl) ?_ ?_
  · exact trivial
  refine AMx.seq ?_
  refine AMx.seq ?_
  refine AMx.region (ces := [(2, CE.call [] [] (vc (i6 (checkS s r))) []), (6, CE.call [] [] (vc (bo (decide ((0 : Int) ≤ most) && decide (most ≤ 6)))) [])]) (ks := [2, 3, 4, 5, 8, 21]) (hs := [4, 5, 8]) (cs := [Spec Try.prog 53 [TV.agg [.s (i6 s.1), .s (bo s.2.1), .s (i6 s.2.2.1), .s (slR s.2.2.2)], TV.agg [.s (i6 r.1), .s (bo r.2)]] (ofH []) (vc (i6 (checkS s r))) (ofH []), ((!decide (checkS s r = 0)) = false) → allP [], ((!decide (checkS s r = 0)) = false) → allP [(!decide (checkS s r = 0)) = false, Spec Try.prog 102 [tc (i6 most), tc (i6 0), tc (i6 6)] (ofH []) (vc (bo (decide ((0 : Int) ≤ most) && decide (most ≤ 6)))) (ofH [])], ((!decide (checkS s r = 0)) = false) → allP [(!decide (checkS s r = 0)) = false], (!decide (checkS s r = 0)) = false → allP [(!decide (checkS s r = 0)) = false]]) (s' := AS.lst 35 [(2, vc (i6 most)), (3, vc (bo cas)), (4, vp 4 0), (5, vp 5 0), (8, vp 8 0), (21, vc (bo ((!decide (checkS s r = 0)) || (!(decide ((0 : Int) ≤ most) && decide (most ≤ 6))))))] [(4, AObj.row [.s (i6 s.1), .s (bo s.2.1), .s (i6 s.2.2.1), .s (slR s.2.2.2)]), (5, AObj.row [.s (i6 r.1), .s (bo r.2)]), (8, AObj.row [.s (i6 0), .s (bo false), .s (i6 0), .s (SC.nilsl)])]) (by kernel_rfl) ?_ ?_
  · exact ⟨(Check_c s r), (fun _ => trivial), (fun hp => by have hq := hp; (try simp only [decide_eq_true_eq, decide_eq_false_iff_not, Bool.and_eq_true, Bool.or_eq_true, Bool.and_eq_false_iff, Bool.or_eq_false_iff, Bool.not_eq_true', Bool.not_eq_false', Bool.not_eq_true, Bool.not_eq_false] at hq); exact ⟨hp, (within_c most 0 6)⟩), (fun hp => hp), (fun hp2 => (by first | exact hp2 | exact ⟨hp, hp2⟩))⟩
  refine AMx.cond (b := ((!decide (checkS s r = 0)) || (!(decide ((0 : Int) ≤ most) && decide (most ≤ 6))))) (by kernel_rfl) (fun hc1 => ?_) (fun hc1 => ?_)
  · try simp only [decide_eq_true_eq, decide_eq_false_iff_not, Bool.and_eq_true, Bool.and_eq_false_iff, Bool.or_eq_true, Bool.or_eq_false_iff, Bool.not_eq_true', Bool.not_eq_false'] at hc1
    refine AMx.seq ?_
    refine AMx.region (ces := []) (ks := [8, 9, 10]) (hs := [8]) (cs := []) (s' := AS.lst 35 [(8, vp 8 0), (9, vc (SC.nilsl)), (10, vc (i6 2))] [(8, AObj.row [.s (i6 s.1), .s (bo s.2.1), .s (i6 s.2.2.1), .s (slR s.2.2.2)])]) (by kernel_rfl) ?_ ?_
    · exact trivial
    refine AMx.ent (ent_weak 9 (v' := vc (slI [])) (by kernel_rfl) (AV.le_t (TV.le_c AC.le_nil))) ?_
    refine AMx.ret ?_
    exact RetP.mk (r := AV.tup [TV.agg [.s (i6 s.1), .s (bo s.2.1), .s (i6 s.2.2.1), .s (slR s.2.2.2)], tc (slI []), tc (i6 2)]) (by kernel_rfl) (by rw [show confS s r most cas = (s, [], 2) from by first | exact conf_no (by omega) | exact conf_ok (by omega)])
  · try simp only [decide_eq_true_eq, decide_eq_false_iff_not, Bool.and_eq_true, Bool.and_eq_false_iff, Bool.or_eq_true, Bool.or_eq_false_iff, Bool.not_eq_true', Bool.not_eq_false'] at hc1
    refine AMx.skip ?_
    refine AMx.seq ?_
    refine AMx.region (ces := []) (ks := [4, 5, 8]) (hs := [4, 5, 8]) (cs := []) (s' := AS.lst 35 [(4, vp 4 0), (5, vp 5 0), (8, vp 8 0)] [(4, AObj.row [.s (i6 most), .s (bo cas), .s (i6 s.2.2.1), .s (slR s.2.2.2)]), (5, AObj.row [.s (i6 r.1), .s (bo r.2)]), (8, AObj.row [.s (i6 0), .s (bo false), .s (i6 0), .s (SC.nilsl)])]) (by kernel_rfl) ?_ ?_
    · exact trivial
    refine AMx.seq ?_
    refine AMx.region (ces := [(2, CE.call [] [] (AV.tup [TV.agg [.s (i6 (((fewerS ((most, cas, s.2.2.1, s.2.2.2) : Sec) r).1).1)), .s (bo (((fewerS ((most, cas, s.2.2.1, s.2.2.2) : Sec) r).1).2.1)), .s (i6 (((fewerS ((most, cas, s.2.2.1, s.2.2.2) : Sec) r).1).2.2.1)), .s (slR (((fewerS ((most, cas, s.2.2.1, s.2.2.2) : Sec) r).1).2.2.2))], tc (slI ((fewerS ((most, cas, s.2.2.1, s.2.2.2) : Sec) r).2))]) [])]) (ks := [8, 11, 12]) (hs := [8, 11]) (cs := [Spec Try.prog 108 [TV.agg [.s (i6 most), .s (bo cas), .s (i6 s.2.2.1), .s (slR s.2.2.2)], TV.agg [.s (i6 r.1), .s (bo r.2)]] (ofH []) (AV.tup [TV.agg [.s (i6 (((fewerS ((most, cas, s.2.2.1, s.2.2.2) : Sec) r).1).1)), .s (bo (((fewerS ((most, cas, s.2.2.1, s.2.2.2) : Sec) r).1).2.1)), .s (i6 (((fewerS ((most, cas, s.2.2.1, s.2.2.2) : Sec) r).1).2.2.1)), .s (slR (((fewerS ((most, cas, s.2.2.1, s.2.2.2) : Sec) r).1).2.2.2))], tc (slI ((fewerS ((most, cas, s.2.2.1, s.2.2.2) : Sec) r).2))]) (ofH [])]) (s' := AS.lst 35 [(8, vp 8 0), (11, vp 11 0), (12, vc (slI ((fewerS ((most, cas, s.2.2.1, s.2.2.2) : Sec) r).2)))] [(8, AObj.row [.s (i6 0), .s (bo false), .s (i6 0), .s (SC.nilsl)]), (11, AObj.row [.s (i6 (((fewerS ((most, cas, s.2.2.1, s.2.2.2) : Sec) r).1).1)), .s (bo (((fewerS ((most, cas, s.2.2.1, s.2.2.2) : Sec) r).1).2.1)), .s (i6 (((fewerS ((most, cas, s.2.2.1, s.2.2.2) : Sec) r).1).2.2.1)), .s (slR (((fewerS ((most, cas, s.2.2.1, s.2.2.2) : Sec) r).1).2.2.2))])]) (by kernel_rfl) ?_ ?_
    · exact (fewer_c ((most, cas, s.2.2.1, s.2.2.2) : Sec) r (by exact conf_keep (by omega) (by omega)) (by first | omega | exact (by simp only [List.length_append, List.length_cons, List.length_nil]; omega)))
    refine AMx.seq ?_
    refine AMx.region (ces := []) (ks := [8, 9, 10]) (hs := [8]) (cs := []) (s' := AS.lst 35 [(8, vp 8 0), (9, vc (slI ((fewerS ((most, cas, s.2.2.1, s.2.2.2) : Sec) r).2))), (10, vc (i6 0))] [(8, AObj.row [.s (i6 (((fewerS ((most, cas, s.2.2.1, s.2.2.2) : Sec) r).1).1)), .s (bo (((fewerS ((most, cas, s.2.2.1, s.2.2.2) : Sec) r).1).2.1)), .s (i6 (((fewerS ((most, cas, s.2.2.1, s.2.2.2) : Sec) r).1).2.2.1)), .s (slR (((fewerS ((most, cas, s.2.2.1, s.2.2.2) : Sec) r).1).2.2.2))])]) (by kernel_rfl) ?_ ?_
    · exact trivial
    refine AMx.ret ?_
    exact RetP.mk (r := AV.tup [TV.agg [.s (i6 (((fewerS ((most, cas, s.2.2.1, s.2.2.2) : Sec) r).1).1)), .s (bo (((fewerS ((most, cas, s.2.2.1, s.2.2.2) : Sec) r).1).2.1)), .s (i6 (((fewerS ((most, cas, s.2.2.1, s.2.2.2) : Sec) r).1).2.2.1)), .s (slR (((fewerS ((most, cas, s.2.2.1, s.2.2.2) : Sec) r).1).2.2.2))], tc (slI ((fewerS ((most, cas, s.2.2.1, s.2.2.2) : Sec) r).2)), tc (i6 0)]) (by kernel_rfl) (by rw [show confS s r most cas = (((fewerS ((most, cas, s.2.2.1, s.2.2.2) : Sec) r).1), (fewerS ((most, cas, s.2.2.1, s.2.2.2) : Sec) r).2, 0) from by first | exact conf_no (by omega) | exact conf_ok (by omega)])

theorem f69_body : Try.f69.body = some (.seq (.region 0 (rg Try.f69 0) false) (.seq (.seq (.region 1 (rg Try.f69 1) false) (.cond (.tmp 24) (.seq (.region 2 (rg Try.f69 2) false) (.ret)) (.skip))) (.seq (.region 3 (rg Try.f69 3) false) (.seq (.region 4 (rg Try.f69 4) false) (.ret))))) := by kernel_rfl

set_option maxRecDepth 100000 in
set_option maxHeartbeats 8000000 in
theorem RConfigure_c (s : Sec) (r : Rul) (most : Int) (cas : Bool) (hb : s.2.2.2.length ≤ 1000) : Pure Try.prog 69 [TV.agg [.s (i6 s.1), .s (bo s.2.1), .s (i6 s.2.2.1), .s (slR s.2.2.2)], TV.agg [.s (i6 r.1), .s (bo r.2)], tc (i6 most), tc (bo cas)] (AV.tup [TV.agg [.s (i6 (((confS s r most cas).1).1)), .s (bo (((confS s r most cas).1).2.1)), .s (i6 (((confS s r most cas).1).2.2.1)), .s (slR (((confS s r most cas).1).2.2.2))], tc (slI ((confS s r most cas).2.1)), tc (i6 ((confS s r most cas).2.2))]) := by
  refine Pure.of_body Try.func69 f69_body (by kernel_rfl) Try.ntmps69 (by kernel_rfl) (by kernel_rfl) ?_
  refine AMx.seq ?_
  refine AMx.region (ces := []) (ks := [2, 3, 4, 5, 8]) (hs := [4, 5, 8]) (cs := []) (s' := AS.lst 40 [(2, vc (i6 most)), (3, vc (bo cas)), (4, vp 4 0), (5, vp 5 0), (8, vp 8 0)] [(4, AObj.row [.s (i6 s.1), .s (bo s.2.1), .s (i6 s.2.2.1), .s (slR s.2.2.2)]), (5, AObj.row [.s (i6 r.1), .s (bo r.2)]), (8, AObj.row [.s (i6 0), .s (bo false), .s (i6 0), .s (SC.nilsl)])]) (by kernel_rfl) ?_ ?_
  · exact trivial
  refine AMx.seq ?_
  refine AMx.seq ?_
  refine AMx.region (ces := [(2, CE.call [] [] (vc (bo (decide (checkS s r = 0)))) [])]) (ks := [2, 3, 4, 5, 8, 24]) (hs := [4, 5, 8]) (cs := [Spec Try.prog 52 [TV.agg [.s (i6 s.1), .s (bo s.2.1), .s (i6 s.2.2.1), .s (slR s.2.2.2)], TV.agg [.s (i6 r.1), .s (bo r.2)]] (ofH []) (vc (bo (decide (checkS s r = 0)))) (ofH []), ((!(decide (checkS s r = 0))) = false) → allP [], ((!(decide (checkS s r = 0))) = false) → allP [(!(decide (checkS s r = 0))) = false], (!(decide (checkS s r = 0))) = false → allP [(!(decide (checkS s r = 0))) = false], (((!(decide (checkS s r = 0))) || (decide (most < 0))) = false) → allP [], (((!(decide (checkS s r = 0))) || (decide (most < 0))) = false) → allP [((!(decide (checkS s r = 0))) || (decide (most < 0))) = false], ((!(decide (checkS s r = 0))) || (decide (most < 0))) = false → allP [((!(decide (checkS s r = 0))) || (decide (most < 0))) = false]]) (s' := AS.lst 40 [(2, vc (i6 most)), (3, vc (bo cas)), (4, vp 4 0), (5, vp 5 0), (8, vp 8 0), (24, vc (bo (((!(decide (checkS s r = 0))) || (decide (most < 0))) || (decide (6 < most)))))] [(4, AObj.row [.s (i6 s.1), .s (bo s.2.1), .s (i6 s.2.2.1), .s (slR s.2.2.2)]), (5, AObj.row [.s (i6 r.1), .s (bo r.2)]), (8, AObj.row [.s (i6 0), .s (bo false), .s (i6 0), .s (SC.nilsl)])]) (by kernel_rfl) ?_ ?_
  · exact ⟨(May_c s r), (fun _ => trivial), (fun hp => hp), (fun hp2 => (by first | exact hp2 | exact ⟨hp, hp2⟩)), (fun _ => trivial), (fun hp => hp), (fun hp2 => (by first | exact hp2 | exact ⟨hp, hp2⟩))⟩
  refine AMx.cond (b := (((!(decide (checkS s r = 0))) || (decide (most < 0))) || (decide (6 < most)))) (by kernel_rfl) (fun hc1 => ?_) (fun hc1 => ?_)
  · try simp only [decide_eq_true_eq, decide_eq_false_iff_not, Bool.or_eq_true, Bool.or_eq_false_iff, Bool.not_eq_true', Bool.not_eq_false'] at hc1
    refine AMx.seq ?_
    refine AMx.region (ces := []) (ks := [8, 9, 10]) (hs := [8]) (cs := []) (s' := AS.lst 40 [(8, vp 8 0), (9, vc (SC.nilsl)), (10, vc (i6 2))] [(8, AObj.row [.s (i6 s.1), .s (bo s.2.1), .s (i6 s.2.2.1), .s (slR s.2.2.2)])]) (by kernel_rfl) ?_ ?_
    · exact trivial
    refine AMx.ent (ent_weak 9 (v' := vc (slI [])) (by kernel_rfl) (AV.le_t (TV.le_c AC.le_nil))) ?_
    refine AMx.ret ?_
    exact RetP.mk (r := AV.tup [TV.agg [.s (i6 s.1), .s (bo s.2.1), .s (i6 s.2.2.1), .s (slR s.2.2.2)], tc (slI []), tc (i6 2)]) (by kernel_rfl) (by rw [show confS s r most cas = (s, [], 2) from by first | exact conf_no (by omega) | exact conf_ok (by omega)])
  · try simp only [decide_eq_true_eq, decide_eq_false_iff_not, Bool.or_eq_true, Bool.or_eq_false_iff, Bool.not_eq_true', Bool.not_eq_false'] at hc1
    refine AMx.skip ?_
    refine AMx.seq ?_
    refine AMx.region (ces := [(8, CE.call [] [] (AV.tup [TV.agg [.s (i6 (((fewerS ((most, cas, s.2.2.1, s.2.2.2) : Sec) r).1).1)), .s (bo (((fewerS ((most, cas, s.2.2.1, s.2.2.2) : Sec) r).1).2.1)), .s (i6 (((fewerS ((most, cas, s.2.2.1, s.2.2.2) : Sec) r).1).2.2.1)), .s (slR (((fewerS ((most, cas, s.2.2.1, s.2.2.2) : Sec) r).1).2.2.2))], tc (slI ((fewerS ((most, cas, s.2.2.1, s.2.2.2) : Sec) r).2))]) [])]) (ks := [8, 11, 12]) (hs := [8, 11]) (cs := [Spec Try.prog 109 [TV.agg [.s (i6 most), .s (bo cas), .s (i6 s.2.2.1), .s (slR s.2.2.2)], TV.agg [.s (i6 r.1), .s (bo r.2)]] (ofH []) (AV.tup [TV.agg [.s (i6 (((fewerS ((most, cas, s.2.2.1, s.2.2.2) : Sec) r).1).1)), .s (bo (((fewerS ((most, cas, s.2.2.1, s.2.2.2) : Sec) r).1).2.1)), .s (i6 (((fewerS ((most, cas, s.2.2.1, s.2.2.2) : Sec) r).1).2.2.1)), .s (slR (((fewerS ((most, cas, s.2.2.1, s.2.2.2) : Sec) r).1).2.2.2))], tc (slI ((fewerS ((most, cas, s.2.2.1, s.2.2.2) : Sec) r).2))]) (ofH [])]) (s' := AS.lst 40 [(8, vp 8 0), (11, vp 11 0), (12, vc (slI ((fewerS ((most, cas, s.2.2.1, s.2.2.2) : Sec) r).2)))] [(8, AObj.row [.s (i6 0), .s (bo false), .s (i6 0), .s (SC.nilsl)]), (11, AObj.row [.s (i6 (((fewerS ((most, cas, s.2.2.1, s.2.2.2) : Sec) r).1).1)), .s (bo (((fewerS ((most, cas, s.2.2.1, s.2.2.2) : Sec) r).1).2.1)), .s (i6 (((fewerS ((most, cas, s.2.2.1, s.2.2.2) : Sec) r).1).2.2.1)), .s (slR (((fewerS ((most, cas, s.2.2.1, s.2.2.2) : Sec) r).1).2.2.2))])]) (by kernel_rfl) ?_ ?_
    · exact (RFewer_c ((most, cas, s.2.2.1, s.2.2.2) : Sec) r (by exact conf_keep (by omega) (by omega)) (by first | omega | exact (by simp only [List.length_append, List.length_cons, List.length_nil]; omega)))
    refine AMx.seq ?_
    refine AMx.region (ces := []) (ks := [8, 9, 10]) (hs := [8]) (cs := []) (s' := AS.lst 40 [(8, vp 8 0), (9, vc (slI ((fewerS ((most, cas, s.2.2.1, s.2.2.2) : Sec) r).2))), (10, vc (i6 0))] [(8, AObj.row [.s (i6 (((fewerS ((most, cas, s.2.2.1, s.2.2.2) : Sec) r).1).1)), .s (bo (((fewerS ((most, cas, s.2.2.1, s.2.2.2) : Sec) r).1).2.1)), .s (i6 (((fewerS ((most, cas, s.2.2.1, s.2.2.2) : Sec) r).1).2.2.1)), .s (slR (((fewerS ((most, cas, s.2.2.1, s.2.2.2) : Sec) r).1).2.2.2))])]) (by kernel_rfl) ?_ ?_
    · exact trivial
    refine AMx.ret ?_
    exact RetP.mk (r := AV.tup [TV.agg [.s (i6 (((fewerS ((most, cas, s.2.2.1, s.2.2.2) : Sec) r).1).1)), .s (bo (((fewerS ((most, cas, s.2.2.1, s.2.2.2) : Sec) r).1).2.1)), .s (i6 (((fewerS ((most, cas, s.2.2.1, s.2.2.2) : Sec) r).1).2.2.1)), .s (slR (((fewerS ((most, cas, s.2.2.1, s.2.2.2) : Sec) r).1).2.2.2))], tc (slI ((fewerS ((most, cas, s.2.2.1, s.2.2.2) : Sec) r).2)), tc (i6 0)]) (by kernel_rfl) (by rw [show confS s r most cas = (((fewerS ((most, cas, s.2.2.1, s.2.2.2) : Sec) r).1), (fewerS ((most, cas, s.2.2.1, s.2.2.2) : Sec) r).2, 0) from by first | exact conf_no (by omega) | exact conf_ok (by omega)])

theorem f110_body : Try.f110.body = some (.seq (.region 0 (rg Try.f110 0) false) (.seq (.seq (.region 1 (rg Try.f110 1) false) (.cond (.tmp 10) (.seq (.region 2 (rg Try.f110 2) false) (.ret)) (.skip))) (.seq (.seq (.region 3 (rg Try.f110 3) false) (.block 0 (.loop (.seq (.region 4 (rg Try.f110 4) false) (.seq (.cond (.tmp 14) (.skip) (.exit 0)) (.seq (.block 1 (.seq (.region 5 (rg Try.f110 5) false) (.seq (.region 6 (rg Try.f110 6) true) (.cond (.tmp 24) (.seq (.region 7 (rg Try.f110 7) false) (.ret)) (.skip))))) (.region 8 (rg Try.f110 8) false))))))) (.seq (.region 9 (rg Try.f110 9) false) (.ret))))) := by kernel_rfl

set_option maxRecDepth 100000 in
set_option maxHeartbeats 8000000 in
theorem EqualR_c (a b : List RowV) : Pure Try.prog 110 [tc (slR a), tc (slR b)] (vc (bo (decide (a = b)))) := by
  refine Pure.of_body Try.func110 f110_body (by kernel_rfl) Try.ntmps110 (by kernel_rfl) (by kernel_rfl) ?_
  refine AMx.sl 0 (l := a) rfl (fun hl => ?_)
  simp only [maxLen] at hl
  refine AMx.seq ?_
  refine AMx.region (ces := []) (ks := [0, 1]) (hs := []) (cs := []) (s' := AS.lst 26 [(0, vc (slR a)), (1, vc (slR b))] []) (by kernel_rfl) ?_ ?_
  · exact trivial
  refine AMx.seq ?_
  refine AMx.seq ?_
  refine AMx.region (ces := []) (ks := [0, 1, 10]) (hs := []) (cs := []) (s' := AS.lst 26 [(0, vc (slR a)), (1, vc (slR b)), (10, vc (bo (!decide ((List.length a : Int) = (List.length b : Int)))))] []) (by kernel_rfl) ?_ ?_
  · exact trivial
  refine AMx.cond (b := !decide ((List.length a : Int) = (List.length b : Int))) (by kernel_rfl) (fun hc1 => ?_) (fun hc1 => ?_)
  · try simp only [decide_eq_true_eq, decide_eq_false_iff_not, Bool.not_eq_true', Bool.not_eq_false'] at hc1
    refine AMx.seq ?_
    refine AMx.region (ces := []) (ks := [4]) (hs := []) (cs := []) (s' := AS.lst 26 [(4, vc (bo false))] []) (by kernel_rfl) ?_ ?_
    · exact trivial
    refine AMx.ret ?_
    exact RetP.mk (r := vc (bo false)) (by kernel_rfl) (by rw [decide_eq_false (fun h => by subst h; simp_all)])
  · try simp only [decide_eq_true_eq, decide_eq_false_iff_not, Bool.not_eq_true', Bool.not_eq_false'] at hc1
    refine AMx.skip ?_
    refine AMx.seq ?_
    refine AMx.seq ?_
    refine AMx.region (ces := []) (ks := [0, 1, 12, 13]) (hs := []) (cs := []) (s' := AS.lst 26 [(0, vc (slR a)), (1, vc (slR b)), (12, vc (i6 (List.length a : Int))), (13, vc (i6 0))] []) (by kernel_rfl) ?_ ?_
    · exact trivial
    refine AMx.block ?_
    refine AMx.ent (s' := AS.lst 26 [(0, vc (slR a)), (1, vc (slR b)), (12, vc (i6 (List.length a : Int))), (13, vc (i6 0))] []) (ent_proj [0, 1, 12, 13] []) ?_
    refine AMx.loop (fun mm ss => ∃ (i : Nat), (i ≤ a.length ∧ List.take i a = List.take i b) ∧ mm = a.length - i ∧ ss = AS.lst 26 [(0, vc (slR a)), (1, vc (slR b)), (12, vc (i6 (List.length a : Int))), (13, vc (i6 (i : Int)))] []) ⟨0, ?_, rfl, ?_⟩ ?_
    · exact ⟨by omega, rfl⟩
    · rfl
    rintro mm ss ⟨i, ⟨hI, hE⟩, rfl, rfl⟩
    refine AMx.seq ?_
    refine AMx.region (ces := []) (ks := [0, 1, 12, 13, 14]) (hs := []) (cs := []) (s' := AS.lst 26 [(0, vc (slR a)), (1, vc (slR b)), (12, vc (i6 (List.length a : Int))), (13, vc (i6 (i : Int))), (14, vc (bo (decide ((i : Int) < (List.length a : Int)))))] []) (by kernel_rfl) ?_ ?_
    · exact trivial
    refine AMx.seq ?_
    refine AMx.cond (b := decide ((i : Int) < (List.length a : Int))) (by kernel_rfl) (fun hc2 => ?_) (fun hc2 => ?_)
    · try simp only [decide_eq_true_eq, decide_eq_false_iff_not] at hc2
      refine AMx.skip ?_
      refine AMx.seq ?_
      refine AMx.block ?_
      refine AMx.seq ?_
      refine AMx.region (ces := []) (ks := [0, 1, 5, 12, 13]) (hs := []) (cs := []) (s' := AS.lst 26 [(0, vc (slR a)), (1, vc (slR b)), (5, vc (i6 (i : Int))), (12, vc (i6 (List.length a : Int))), (13, vc (i6 (i : Int)))] []) (by kernel_rfl) ?_ ?_
      · exact trivial
      refine AMx.seq ?_
      refine AMx.region_draw (ces := []) (ros := []) (ks := [0, 1, 12, 13, 24]) (hs := []) (cs := [(0 : Int) ≤ (i : Int), (i : Int) < List.length a, (0 : Int) ≤ (i : Int), (i : Int) < List.length b]) (s' := AS.lst 26 [(0, vc (slR a)), (1, vc (slR b)), (12, vc (i6 (List.length a : Int))), (13, vc (i6 (i : Int))), (24, vc (bo (!(decide ((List.getD a i (0, false, false)).1 = (List.getD b i (0, false, false)).1) && ((((List.getD a i (0, false, false)).2.1) == ((List.getD b i (0, false, false)).2.1)) && ((((List.getD a i (0, false, false)).2.2) == ((List.getD b i (0, false, false)).2.2)) && true))))))] []) mixed (by kernel_rfl) ?_ ?_
      · exact ⟨(show (0 : Int) ≤ (i : Int) from (by omega)), (show (i : Int) < List.length a from (by omega)), (show (0 : Int) ≤ (i : Int) from (by omega)), (show (i : Int) < List.length b from (by omega))⟩
      refine AMx.cond (b := !(decide ((List.getD a i (0, false, false)).1 = (List.getD b i (0, false, false)).1) && ((((List.getD a i (0, false, false)).2.1) == ((List.getD b i (0, false, false)).2.1)) && ((((List.getD a i (0, false, false)).2.2) == ((List.getD b i (0, false, false)).2.2)) && true)))) (by kernel_rfl) (fun hc3 => ?_) (fun hc3 => ?_)
      · try simp only [decide_eq_true_eq, decide_eq_false_iff_not, Bool.and_eq_true, Bool.and_eq_false_iff, Bool.not_eq_true', Bool.not_eq_false'] at hc3
        refine AMx.seq ?_
        refine AMx.region (ces := []) (ks := [4]) (hs := []) (cs := []) (s' := AS.lst 26 [(4, vc (bo false))] []) (by kernel_rfl) ?_ ?_
        · exact trivial
        refine AMx.ret ?_
        exact RetP.mk (r := vc (bo false)) (by kernel_rfl) (by rw [decide_eq_false (fun h => by subst h; simp_all)])
      · try simp only [decide_eq_true_eq, decide_eq_false_iff_not, Bool.and_eq_true, Bool.and_eq_false_iff, Bool.not_eq_true', Bool.not_eq_false'] at hc3
        refine AMx.skip ?_
        refine AMx.blk ?_
        refine AMx.region (ces := []) (ks := [0, 1, 12, 13]) (hs := []) (cs := [InR .i64 ((i : Int) + 1)]) (s' := AS.lst 26 [(0, vc (slR a)), (1, vc (slR b)), (12, vc (i6 (List.length a : Int))), (13, vc (i6 ((i : Int) + 1)))] []) (by kernel_rfl) ?_ ?_
        · exact (show InR .i64 ((i : Int) + 1) from (inR64 (by omega) (by omega)))
        refine AMx.ent_inv (s' := AS.lst 26 [(0, vc (slR a)), (1, vc (slR b)), (12, vc (i6 (List.length a : Int))), (13, vc (i6 ((i : Int) + 1)))] []) (ent_proj [0, 1, 12, 13] []) ?_
        refine AMx.inv ⟨_, ?_, i + 1, ?_, rfl, ?_⟩
        rotate_left
        · exact ⟨by omega, Lib.same_step (0, false, false) a b i (by omega) (by omega) hE (by grind)⟩
        · rfl
        · omega
    · try simp only [decide_eq_true_eq, decide_eq_false_iff_not] at hc2
      refine AMx.exit ?_
      refine AMx.code_exit ?_
      refine AMx.inv_exit ?_
      refine AMx.blk_exit ?_
      refine AMx.seq ?_
      refine AMx.region (ces := []) (ks := [4]) (hs := []) (cs := []) (s' := AS.lst 26 [(4, vc (bo true))] []) (by kernel_rfl) ?_ ?_
      · exact trivial
      refine AMx.ret ?_
      exact RetP.mk (r := vc (bo true)) (by kernel_rfl) (by rw [decide_eq_true (Lib.same_end a b i (by omega) (by omega) hE)])

theorem f61_body : Try.f61.body = some (.seq (.region 0 (rg Try.f61 0) false) (.seq (.region 1 (rg Try.f61 1) false) (.ret))) := by kernel_rfl

set_option maxRecDepth 100000 in
set_option maxHeartbeats 8000000 in
theorem Same_c (a b : Sec) : Pure Try.prog 61 [TV.agg [.s (i6 a.1), .s (bo a.2.1), .s (i6 a.2.2.1), .s (slR a.2.2.2)], TV.agg [.s (i6 b.1), .s (bo b.2.1), .s (i6 b.2.2.1), .s (slR b.2.2.2)]] (vc (bo (decide (a = b)))) := by
  refine Pure.of_body Try.func61 f61_body (by kernel_rfl) Try.ntmps61 (by kernel_rfl) (by kernel_rfl) ?_
  refine AMx.seq ?_
  refine AMx.region (ces := []) (ks := [2, 3]) (hs := [2, 3]) (cs := []) (s' := AS.lst 31 [(2, vp 2 0), (3, vp 3 0)] [(2, AObj.row [.s (i6 a.1), .s (bo a.2.1), .s (i6 a.2.2.1), .s (slR a.2.2.2)]), (3, AObj.row [.s (i6 b.1), .s (bo b.2.1), .s (i6 b.2.2.1), .s (slR b.2.2.2)])]) (by kernel_rfl) ?_ ?_
  · exact trivial
  refine AMx.seq ?_
  refine AMx.region (ces := [(24, CE.call [] [] (vc (bo (decide (a.2.2.2 = b.2.2.2)))) [])]) (ks := [4]) (hs := []) (cs := [((decide (a.1 = b.1)) = true) → allP [], ((decide (a.1 = b.1)) = true) → allP [(decide (a.1 = b.1)) = true], ((decide (a.1 = b.1)) = true) → allP [], ((decide (a.1 = b.1)) = true) → allP [(decide (a.1 = b.1)) = true], ((decide (a.1 = b.1)) = true) → allP [(decide (a.1 = b.1)) = true, (decide (a.1 = b.1)) = true], (decide (a.1 = b.1)) = true → allP [(decide (a.1 = b.1)) = true], (((decide (a.1 = b.1)) && (a.2.1 == b.2.1)) = true) → allP [], (((decide (a.1 = b.1)) && (a.2.1 == b.2.1)) = true) → allP [((decide (a.1 = b.1)) && (a.2.1 == b.2.1)) = true], (((decide (a.1 = b.1)) && (a.2.1 == b.2.1)) = true) → allP [], (((decide (a.1 = b.1)) && (a.2.1 == b.2.1)) = true) → allP [((decide (a.1 = b.1)) && (a.2.1 == b.2.1)) = true], (((decide (a.1 = b.1)) && (a.2.1 == b.2.1)) = true) → allP [((decide (a.1 = b.1)) && (a.2.1 == b.2.1)) = true, ((decide (a.1 = b.1)) && (a.2.1 == b.2.1)) = true], ((decide (a.1 = b.1)) && (a.2.1 == b.2.1)) = true → allP [((decide (a.1 = b.1)) && (a.2.1 == b.2.1)) = true], ((((decide (a.1 = b.1)) && (a.2.1 == b.2.1)) && (decide (a.2.2.1 = b.2.2.1))) = true) → allP [], ((((decide (a.1 = b.1)) && (a.2.1 == b.2.1)) && (decide (a.2.2.1 = b.2.2.1))) = true) → allP [(((decide (a.1 = b.1)) && (a.2.1 == b.2.1)) && (decide (a.2.2.1 = b.2.2.1))) = true], ((((decide (a.1 = b.1)) && (a.2.1 == b.2.1)) && (decide (a.2.2.1 = b.2.2.1))) = true) → allP [], ((((decide (a.1 = b.1)) && (a.2.1 == b.2.1)) && (decide (a.2.2.1 = b.2.2.1))) = true) → allP [(((decide (a.1 = b.1)) && (a.2.1 == b.2.1)) && (decide (a.2.2.1 = b.2.2.1))) = true], ((((decide (a.1 = b.1)) && (a.2.1 == b.2.1)) && (decide (a.2.2.1 = b.2.2.1))) = true) → allP [(((decide (a.1 = b.1)) && (a.2.1 == b.2.1)) && (decide (a.2.2.1 = b.2.2.1))) = true, (((decide (a.1 = b.1)) && (a.2.1 == b.2.1)) && (decide (a.2.2.1 = b.2.2.1))) = true, Spec Try.prog 110 [tc (slR a.2.2.2), tc (slR b.2.2.2)] (ofH []) (vc (bo (decide (a.2.2.2 = b.2.2.2)))) (ofH [])], (((decide (a.1 = b.1)) && (a.2.1 == b.2.1)) && (decide (a.2.2.1 = b.2.2.1))) = true → allP [(((decide (a.1 = b.1)) && (a.2.1 == b.2.1)) && (decide (a.2.2.1 = b.2.2.1))) = true]]) (s' := AS.lst 31 [(4, vc (bo ((((decide (a.1 = b.1)) && (a.2.1 == b.2.1)) && (decide (a.2.2.1 = b.2.2.1))) && (decide (a.2.2.2 = b.2.2.2)))))] []) (by kernel_rfl) ?_ ?_
  · exact ⟨(fun _ => trivial), (fun hp => hp), (fun _ => trivial), (fun hp => hp), (fun hp => ⟨hp, hp⟩), (fun hp2 => (by first | exact hp2 | exact ⟨hp, hp2⟩)), (fun _ => trivial), (fun hp => hp), (fun _ => trivial), (fun hp => hp), (fun hp => ⟨hp, hp⟩), (fun hp2 => (by first | exact hp2 | exact ⟨hp, hp2⟩)), (fun _ => trivial), (fun hp => hp), (fun _ => trivial), (fun hp => hp), (fun hp => by have hq := hp; (try simp only [decide_eq_true_eq, decide_eq_false_iff_not, Bool.and_eq_true, Bool.or_eq_true, Bool.and_eq_false_iff, Bool.or_eq_false_iff, Bool.not_eq_true', Bool.not_eq_false', Bool.not_eq_true, Bool.not_eq_false] at hq); exact ⟨hp, hp, (EqualR_c a.2.2.2 b.2.2.2)⟩), (fun hp2 => (by first | exact hp2 | exact ⟨hp, hp2⟩))⟩
  refine AMx.ret ?_
  exact RetP.mk (r := vc (bo ((((decide (a.1 = b.1)) && (a.2.1 == b.2.1)) && (decide (a.2.2.1 = b.2.2.1))) && (decide (a.2.2.2 = b.2.2.2))))) (by kernel_rfl) (by rw [show decide (a = b) = ((((decide (a.1 = b.1)) && (a.2.1 == b.2.1)) && (decide (a.2.2.1 = b.2.2.1))) && (decide (a.2.2.2 = b.2.2.2))) from same_eq a b])

theorem f59_body : Try.f59.body = some (.seq (.region 0 (rg Try.f59 0) false) (.seq (.seq (.region 1 (rg Try.f59 1) false) (.cond (.tmp 33) (.seq (.region 2 (rg Try.f59 2) false) (.ret)) (.skip))) (.seq (.seq (.region 3 (rg Try.f59 3) false) (.block 0 (.loop (.seq (.seq (.region 4 (rg Try.f59 4) false) (.cond (.tmp 38) (.skip) (.exit 0))) (.seq (.block 1 (.seq (.region 6 (rg Try.f59 6) true) (.cond (.tmp 51) (.seq (.region 7 (rg Try.f59 7) false) (.ret)) (.skip)))) (.region 5 (rg Try.f59 5) false)))))) (.seq (.region 8 (rg Try.f59 8) false) (.ret))))) := by kernel_rfl

set_option maxRecDepth 100000 in
set_option maxHeartbeats 8000000 in
theorem RSame_c (a b : Sec) : Pure Try.prog 59 [TV.agg [.s (i6 a.1), .s (bo a.2.1), .s (i6 a.2.2.1), .s (slR a.2.2.2)], TV.agg [.s (i6 b.1), .s (bo b.2.1), .s (i6 b.2.2.1), .s (slR b.2.2.2)]] (vc (bo (decide (a = b)))) := by
  refine Pure.of_body Try.func59 f59_body (by kernel_rfl) Try.ntmps59 (by kernel_rfl) (by kernel_rfl) ?_
  refine AMx.celln 0 3 rfl rfl (fun hl => ?_)
  simp only [maxLen] at hl
  refine AMx.seq ?_
  refine AMx.region (ces := []) (ks := [2, 3]) (hs := [2, 3]) (cs := []) (s' := AS.lst 52 [(2, vp 2 0), (3, vp 3 0)] [(2, AObj.row [.s (i6 a.1), .s (bo a.2.1), .s (i6 a.2.2.1), .s (slR a.2.2.2)]), (3, AObj.row [.s (i6 b.1), .s (bo b.2.1), .s (i6 b.2.2.1), .s (slR b.2.2.2)])]) (by kernel_rfl) ?_ ?_
  · exact trivial
  refine AMx.seq ?_
  refine AMx.seq ?_
  refine AMx.region (ces := []) (ks := [2, 3, 33]) (hs := [2, 3]) (cs := [((!decide (a.1 = b.1)) = false) → allP [], ((!decide (a.1 = b.1)) = false) → allP [(!decide (a.1 = b.1)) = false], ((!decide (a.1 = b.1)) = false) → allP [], ((!decide (a.1 = b.1)) = false) → allP [(!decide (a.1 = b.1)) = false], ((!decide (a.1 = b.1)) = false) → allP [(!decide (a.1 = b.1)) = false, (!decide (a.1 = b.1)) = false], (!decide (a.1 = b.1)) = false → allP [(!decide (a.1 = b.1)) = false], (((!decide (a.1 = b.1)) || (!(a.2.1 == b.2.1))) = false) → allP [], (((!decide (a.1 = b.1)) || (!(a.2.1 == b.2.1))) = false) → allP [((!decide (a.1 = b.1)) || (!(a.2.1 == b.2.1))) = false], (((!decide (a.1 = b.1)) || (!(a.2.1 == b.2.1))) = false) → allP [], (((!decide (a.1 = b.1)) || (!(a.2.1 == b.2.1))) = false) → allP [((!decide (a.1 = b.1)) || (!(a.2.1 == b.2.1))) = false], (((!decide (a.1 = b.1)) || (!(a.2.1 == b.2.1))) = false) → allP [((!decide (a.1 = b.1)) || (!(a.2.1 == b.2.1))) = false, ((!decide (a.1 = b.1)) || (!(a.2.1 == b.2.1))) = false], ((!decide (a.1 = b.1)) || (!(a.2.1 == b.2.1))) = false → allP [((!decide (a.1 = b.1)) || (!(a.2.1 == b.2.1))) = false], ((((!decide (a.1 = b.1)) || (!(a.2.1 == b.2.1))) || (!decide (a.2.2.1 = b.2.2.1))) = false) → allP [], ((((!decide (a.1 = b.1)) || (!(a.2.1 == b.2.1))) || (!decide (a.2.2.1 = b.2.2.1))) = false) → allP [(((!decide (a.1 = b.1)) || (!(a.2.1 == b.2.1))) || (!decide (a.2.2.1 = b.2.2.1))) = false], ((((!decide (a.1 = b.1)) || (!(a.2.1 == b.2.1))) || (!decide (a.2.2.1 = b.2.2.1))) = false) → allP [(((!decide (a.1 = b.1)) || (!(a.2.1 == b.2.1))) || (!decide (a.2.2.1 = b.2.2.1))) = false], ((((!decide (a.1 = b.1)) || (!(a.2.1 == b.2.1))) || (!decide (a.2.2.1 = b.2.2.1))) = false) → allP [], ((((!decide (a.1 = b.1)) || (!(a.2.1 == b.2.1))) || (!decide (a.2.2.1 = b.2.2.1))) = false) → allP [(((!decide (a.1 = b.1)) || (!(a.2.1 == b.2.1))) || (!decide (a.2.2.1 = b.2.2.1))) = false], ((((!decide (a.1 = b.1)) || (!(a.2.1 == b.2.1))) || (!decide (a.2.2.1 = b.2.2.1))) = false) → allP [(((!decide (a.1 = b.1)) || (!(a.2.1 == b.2.1))) || (!decide (a.2.2.1 = b.2.2.1))) = false], ((((!decide (a.1 = b.1)) || (!(a.2.1 == b.2.1))) || (!decide (a.2.2.1 = b.2.2.1))) = false) → allP [(((!decide (a.1 = b.1)) || (!(a.2.1 == b.2.1))) || (!decide (a.2.2.1 = b.2.2.1))) = false, (((!decide (a.1 = b.1)) || (!(a.2.1 == b.2.1))) || (!decide (a.2.2.1 = b.2.2.1))) = false], (((!decide (a.1 = b.1)) || (!(a.2.1 == b.2.1))) || (!decide (a.2.2.1 = b.2.2.1))) = false → allP [(((!decide (a.1 = b.1)) || (!(a.2.1 == b.2.1))) || (!decide (a.2.2.1 = b.2.2.1))) = false]]) (s' := AS.lst 52 [(2, vp 2 0), (3, vp 3 0), (33, vc (bo ((((!decide (a.1 = b.1)) || (!(a.2.1 == b.2.1))) || (!decide (a.2.2.1 = b.2.2.1))) || (!decide ((List.length a.2.2.2 : Int) = (List.length b.2.2.2 : Int))))))] [(2, AObj.row [.s (i6 a.1), .s (bo a.2.1), .s (i6 a.2.2.1), .s (slR a.2.2.2)]), (3, AObj.row [.s (i6 b.1), .s (bo b.2.1), .s (i6 b.2.2.1), .s (slR b.2.2.2)])]) (by kernel_rfl) ?_ ?_
  · exact ⟨(fun _ => trivial), (fun hp => hp), (fun _ => trivial), (fun hp => hp), (fun hp => ⟨hp, hp⟩), (fun hp2 => (by first | exact hp2 | exact ⟨hp, hp2⟩)), (fun _ => trivial), (fun hp => hp), (fun _ => trivial), (fun hp => hp), (fun hp => ⟨hp, hp⟩), (fun hp2 => (by first | exact hp2 | exact ⟨hp, hp2⟩)), (fun _ => trivial), (fun hp => hp), (fun hp => hp), (fun _ => trivial), (fun hp => hp), (fun hp => hp), (fun hp => ⟨hp, hp⟩), (fun hp2 => (by first | exact hp2 | exact ⟨hp, hp2⟩))⟩
  refine AMx.cond (b := ((((!decide (a.1 = b.1)) || (!(a.2.1 == b.2.1))) || (!decide (a.2.2.1 = b.2.2.1))) || (!decide ((List.length a.2.2.2 : Int) = (List.length b.2.2.2 : Int))))) (by kernel_rfl) (fun hc1 => ?_) (fun hc1 => ?_)
  · try simp only [decide_eq_true_eq, decide_eq_false_iff_not, Bool.or_eq_true, Bool.or_eq_false_iff, Bool.not_eq_true', Bool.not_eq_false'] at hc1
    refine AMx.seq ?_
    refine AMx.region (ces := []) (ks := [4]) (hs := []) (cs := []) (s' := AS.lst 52 [(4, vc (bo false))] []) (by kernel_rfl) ?_ ?_
    · exact trivial
    refine AMx.ret ?_
    exact RetP.mk (r := vc (bo false)) (by kernel_rfl) (by rw [show decide (a = b) = false from decide_eq_false (fun h => by subst h; simp at hc1)])
  · try simp only [decide_eq_true_eq, decide_eq_false_iff_not, Bool.or_eq_true, Bool.or_eq_false_iff, Bool.not_eq_true', Bool.not_eq_false'] at hc1
    refine AMx.skip ?_
    refine AMx.seq ?_
    refine AMx.seq ?_
    refine AMx.region (ces := []) (ks := [2, 3, 5]) (hs := [2, 3]) (cs := []) (s' := AS.lst 52 [(2, vp 2 0), (3, vp 3 0), (5, vc (i6 0))] [(2, AObj.row [.s (i6 a.1), .s (bo a.2.1), .s (i6 a.2.2.1), .s (slR a.2.2.2)]), (3, AObj.row [.s (i6 b.1), .s (bo b.2.1), .s (i6 b.2.2.1), .s (slR b.2.2.2)])]) (by kernel_rfl) ?_ ?_
    · exact trivial
    refine AMx.block ?_
    refine AMx.ent (s' := AS.lst 52 [(2, vp 2 0), (3, vp 3 0), (5, vc (i6 0))] [(2, AObj.row [.s (i6 a.1), .s (bo a.2.1), .s (i6 a.2.2.1), .s (slR a.2.2.2)]), (3, AObj.row [.s (i6 b.1), .s (bo b.2.1), .s (i6 b.2.2.1), .s (slR b.2.2.2)])]) (ent_proj [2, 3, 5] [2, 3]) ?_
    refine AMx.loop (fun mm ss => ∃ (i : Nat), (i ≤ a.2.2.2.length ∧ List.take i a.2.2.2 = List.take i b.2.2.2) ∧ mm = a.2.2.2.length - i ∧ ss = AS.lst 52 [(2, vp 2 0), (3, vp 3 0), (5, vc (i6 (i : Int)))] [(2, AObj.row [.s (i6 a.1), .s (bo a.2.1), .s (i6 a.2.2.1), .s (slR a.2.2.2)]), (3, AObj.row [.s (i6 b.1), .s (bo b.2.1), .s (i6 b.2.2.1), .s (slR b.2.2.2)])]) ⟨0, ?_, rfl, ?_⟩ ?_
    · exact ⟨by omega, rfl⟩
    · rfl
    rintro mm ss ⟨i, ⟨hI, hE⟩, rfl, rfl⟩
    refine AMx.seq ?_
    refine AMx.seq ?_
    refine AMx.region (ces := []) (ks := [2, 3, 5, 38]) (hs := [2, 3]) (cs := []) (s' := AS.lst 52 [(2, vp 2 0), (3, vp 3 0), (5, vc (i6 (i : Int))), (38, vc (bo (decide ((i : Int) < (List.length a.2.2.2 : Int)))))] [(2, AObj.row [.s (i6 a.1), .s (bo a.2.1), .s (i6 a.2.2.1), .s (slR a.2.2.2)]), (3, AObj.row [.s (i6 b.1), .s (bo b.2.1), .s (i6 b.2.2.1), .s (slR b.2.2.2)])]) (by kernel_rfl) ?_ ?_
    · exact trivial
    refine AMx.cond (b := decide ((i : Int) < (List.length a.2.2.2 : Int))) (by kernel_rfl) (fun hc2 => ?_) (fun hc2 => ?_)
    · try simp only [decide_eq_true_eq, decide_eq_false_iff_not] at hc2
      refine AMx.skip ?_
      refine AMx.seq ?_
      refine AMx.block ?_
      refine AMx.seq ?_
      refine AMx.region_draw (ces := []) (ros := [(1, [2]), (6, [3])]) (ks := [2, 3, 5, 51]) (hs := [2, 3]) (cs := [(0 : Int) ≤ (i : Int), (i : Int) < List.length a.2.2.2, (0 : Int) ≤ (i : Int), (i : Int) < List.length b.2.2.2]) (s' := AS.lst 52 [(2, vp 2 0), (3, vp 3 0), (5, vc (i6 (i : Int))), (51, vc (bo (!(decide ((List.getD a.2.2.2 i (0, false, false)).1 = (List.getD b.2.2.2 i (0, false, false)).1) && ((((List.getD a.2.2.2 i (0, false, false)).2.1) == ((List.getD b.2.2.2 i (0, false, false)).2.1)) && ((((List.getD a.2.2.2 i (0, false, false)).2.2) == ((List.getD b.2.2.2 i (0, false, false)).2.2)) && true))))))] [(2, AObj.row [.s (i6 a.1), .s (bo a.2.1), .s (i6 a.2.2.1), .s (slR a.2.2.2)]), (3, AObj.row [.s (i6 b.1), .s (bo b.2.1), .s (i6 b.2.2.1), .s (slR b.2.2.2)])]) mixed (by kernel_rfl) ?_ ?_
      · exact ⟨(show (0 : Int) ≤ (i : Int) from (by omega)), (show (i : Int) < List.length a.2.2.2 from (by omega)), (show (0 : Int) ≤ (i : Int) from (by omega)), (show (i : Int) < List.length b.2.2.2 from (by omega))⟩
      refine AMx.cond (b := !(decide ((List.getD a.2.2.2 i (0, false, false)).1 = (List.getD b.2.2.2 i (0, false, false)).1) && ((((List.getD a.2.2.2 i (0, false, false)).2.1) == ((List.getD b.2.2.2 i (0, false, false)).2.1)) && ((((List.getD a.2.2.2 i (0, false, false)).2.2) == ((List.getD b.2.2.2 i (0, false, false)).2.2)) && true)))) (by kernel_rfl) (fun hc3 => ?_) (fun hc3 => ?_)
      · try simp only [decide_eq_true_eq, decide_eq_false_iff_not, Bool.and_eq_true, Bool.and_eq_false_iff, Bool.not_eq_true', Bool.not_eq_false'] at hc3
        refine AMx.seq ?_
        refine AMx.region (ces := []) (ks := [4]) (hs := []) (cs := []) (s' := AS.lst 52 [(4, vc (bo false))] []) (by kernel_rfl) ?_ ?_
        · exact trivial
        refine AMx.ret ?_
        exact RetP.mk (r := vc (bo false)) (by kernel_rfl) (by rw [show decide (a = b) = false from decide_eq_false (fun h => by subst h; simp at hc3)])
      · try simp only [decide_eq_true_eq, decide_eq_false_iff_not, Bool.and_eq_true, Bool.and_eq_false_iff, Bool.not_eq_true', Bool.not_eq_false'] at hc3
        refine AMx.skip ?_
        refine AMx.blk ?_
        refine AMx.region (ces := []) (ks := [2, 3, 5]) (hs := [2, 3]) (cs := [InR .i64 ((i : Int) + 1)]) (s' := AS.lst 52 [(2, vp 2 0), (3, vp 3 0), (5, vc (i6 ((i : Int) + 1)))] [(2, AObj.row [.s (i6 a.1), .s (bo a.2.1), .s (i6 a.2.2.1), .s (slR a.2.2.2)]), (3, AObj.row [.s (i6 b.1), .s (bo b.2.1), .s (i6 b.2.2.1), .s (slR b.2.2.2)])]) (by kernel_rfl) ?_ ?_
        · exact (show InR .i64 ((i : Int) + 1) from (inR64 (by omega) (by omega)))
        refine AMx.ent_inv (s' := AS.lst 52 [(2, vp 2 0), (3, vp 3 0), (5, vc (i6 ((i : Int) + 1)))] [(2, AObj.row [.s (i6 a.1), .s (bo a.2.1), .s (i6 a.2.2.1), .s (slR a.2.2.2)]), (3, AObj.row [.s (i6 b.1), .s (bo b.2.1), .s (i6 b.2.2.1), .s (slR b.2.2.2)])]) (ent_proj [2, 3, 5] [2, 3]) ?_
        refine AMx.inv ⟨_, ?_, i + 1, ?_, rfl, ?_⟩
        rotate_left
        · exact ⟨by omega, Lib.same_step (0, false, false) _ _ i (by omega) (by omega) hE (by grind)⟩
        · rfl
        · omega
    · try simp only [decide_eq_true_eq, decide_eq_false_iff_not] at hc2
      refine AMx.exit ?_
      refine AMx.code_exit ?_
      refine AMx.inv_exit ?_
      refine AMx.blk_exit ?_
      refine AMx.seq ?_
      refine AMx.region (ces := []) (ks := [4]) (hs := []) (cs := []) (s' := AS.lst 52 [(4, vc (bo true))] []) (by kernel_rfl) ?_ ?_
      · exact trivial
      refine AMx.ret ?_
      exact RetP.mk (r := vc (bo true)) (by kernel_rfl) (by rw [show decide (a = b) = true from decide_eq_true (by have q := Lib.same_end _ _ i (by omega) (by omega) hE; exact Prod.ext (by grind) (Prod.ext (by grind) (Prod.ext (by grind) q)))])

theorem f54_body : Try.f54.body = some (.seq (.region 0 (rg Try.f54 0) false) (.seq (.region 1 (rg Try.f54 1) false) (.seq (.seq (.region 2 (rg Try.f54 2) false) (.block 0 (.loop (.seq (.seq (.region 3 (rg Try.f54 3) false) (.cond (.tmp 16) (.skip) (.exit 0))) (.seq (.block 1 (.region 5 (rg Try.f54 5) true)) (.region 4 (rg Try.f54 4) false)))))) (.seq (.region 6 (rg Try.f54 6) false) (.ret))))) := by kernel_rfl

set_option maxRecDepth 100000 in
set_option maxHeartbeats 8000000 in
theorem Own_c (s : Sec) (hb : s.2.2.2.length ≤ 1000) : Pure Try.prog 54 [TV.agg [.s (i6 s.1), .s (bo s.2.1), .s (i6 s.2.2.1), .s (slR s.2.2.2)]] (AV.t (TV.agg [.s (i6 s.1), .s (bo s.2.1), .s (i6 s.2.2.1), .s (slR s.2.2.2)])) := by
  refine Pure.of_body Try.func54 f54_body (by kernel_rfl) Try.ntmps54 (by kernel_rfl) (by kernel_rfl) ?_
  refine AMx.seq ?_
  refine AMx.region (ces := []) (ks := [1, 2]) (hs := [1, 2]) (cs := []) (s' := AS.lst 30 [(1, vp 1 0), (2, vp 2 0)] [(1, AObj.row [.s (i6 s.1), .s (bo s.2.1), .s (i6 s.2.2.1), .s (slR s.2.2.2)]), (2, AObj.row [.s (i6 0), .s (bo false), .s (i6 0), .s (SC.nilsl)])]) (by kernel_rfl) ?_ ?_
  · exact trivial
  refine AMx.seq ?_
  refine AMx.region (ces := []) (ks := [1, 2, 3]) (hs := [1, 2, 3]) (cs := []) (s' := AS.lst 30 [(1, vp 1 0), (2, vp 2 0), (3, vp 3 0)] [(1, AObj.row [.s (i6 s.1), .s (bo s.2.1), .s (i6 s.2.2.1), .s (slR s.2.2.2)]), (2, AObj.row [.s (i6 0), .s (bo false), .s (i6 0), .s (SC.nilsl)]), (3, AObj.row [.s (i6 s.1), .s (bo s.2.1), .s (i6 s.2.2.1), .s (SC.nilsl)])]) (by kernel_rfl) ?_ ?_
  · exact trivial
  refine AMx.seq ?_
  refine AMx.seq ?_
  refine AMx.region (ces := []) (ks := [1, 2, 3, 4]) (hs := [1, 2, 3]) (cs := []) (s' := AS.lst 30 [(1, vp 1 0), (2, vp 2 0), (3, vp 3 0), (4, vc (i6 0))] [(1, AObj.row [.s (i6 s.1), .s (bo s.2.1), .s (i6 s.2.2.1), .s (slR s.2.2.2)]), (2, AObj.row [.s (i6 0), .s (bo false), .s (i6 0), .s (SC.nilsl)]), (3, AObj.row [.s (i6 s.1), .s (bo s.2.1), .s (i6 s.2.2.1), .s (SC.nilsl)])]) (by kernel_rfl) ?_ ?_
  · exact trivial
  refine AMx.block ?_
  refine AMx.ent (ent_adoptO 3 19 [.s (i6 s.1), .s (bo s.2.1), .s (i6 s.2.2.1)] [] 96 3 RowV (0, false, false) rowR (by kernel_rfl) (by kernel_rfl) (by kernel_rfl) (by kernel_rfl)) ?_
  refine AMx.ent (s' := AS.lst 30 [(1, vp 1 0), (2, vp 2 0), (3, vp 3 0), (4, vc (i6 0))] [(1, AObj.row [.s (i6 s.1), .s (bo s.2.1), .s (i6 s.2.2.1), .s (slR s.2.2.2)]), (2, AObj.row [.s (i6 0), .s (bo false), .s (i6 0), .s (SC.nilsl)]), (3, AObj.row [.s (i6 s.1), .s (bo s.2.1), .s (i6 s.2.2.1), .own 19]), (19, AObj.grow 96 3 RowV (0, false, false) rowR [])]) (ent_proj [1, 2, 3, 4] [1, 2, 3, 19]) ?_
  refine AMx.ent (s' := AS.lst 30 [(1, vp 1 0), (2, vp 2 0), (3, vp 3 0), (4, vc (i6 0))] [(1, AObj.row [.s (i6 s.1), .s (bo s.2.1), .s (i6 s.2.2.1), .s (slR s.2.2.2)]), (2, AObj.row [.s (i6 0), .s (bo false), .s (i6 0), .s (SC.nilsl)]), (3, AObj.row [.s (i6 s.1), .s (bo s.2.1), .s (i6 s.2.2.1), .own 19]), (19, AObj.grow 96 3 RowV (0, false, false) rowR [])]) (ent_proj [1, 2, 3, 4] [1, 2, 3, 19]) ?_
  refine AMx.loop (fun mm ss => ∃ (i : Nat), (i ≤ s.2.2.2.length) ∧ mm = s.2.2.2.length - i ∧ ss = AS.lst 30 [(1, vp 1 0), (2, vp 2 0), (3, vp 3 0), (4, vc (i6 (i : Int)))] [(1, AObj.row [.s (i6 s.1), .s (bo s.2.1), .s (i6 s.2.2.1), .s (slR s.2.2.2)]), (2, AObj.row [.s (i6 0), .s (bo false), .s (i6 0), .s (SC.nilsl)]), (3, AObj.row [.s (i6 s.1), .s (bo s.2.1), .s (i6 s.2.2.1), .own 19]), (19, AObj.grow 96 3 RowV (0, false, false) rowR (List.take i s.2.2.2))]) ⟨0, ?_, rfl, ?_⟩ ?_
  · omega
  · rfl
  rintro mm ss ⟨i, hI, rfl, rfl⟩
  refine AMx.seq ?_
  refine AMx.seq ?_
  refine AMx.region (ces := []) (ks := [1, 2, 3, 4, 16]) (hs := [1, 2, 3, 19]) (cs := []) (s' := AS.lst 30 [(1, vp 1 0), (2, vp 2 0), (3, vp 3 0), (4, vc (i6 (i : Int))), (16, vc (bo (decide ((i : Int) < (List.length s.2.2.2 : Int)))))] [(1, AObj.row [.s (i6 s.1), .s (bo s.2.1), .s (i6 s.2.2.1), .s (slR s.2.2.2)]), (2, AObj.row [.s (i6 0), .s (bo false), .s (i6 0), .s (SC.nilsl)]), (3, AObj.row [.s (i6 s.1), .s (bo s.2.1), .s (i6 s.2.2.1), .own 19]), (19, AObj.grow 96 3 RowV (0, false, false) rowR (List.take i s.2.2.2))]) (by kernel_rfl) ?_ ?_
  · exact trivial
  refine AMx.cond (b := decide ((i : Int) < (List.length s.2.2.2 : Int))) (by kernel_rfl) (fun hc1 => ?_) (fun hc1 => ?_)
  · try simp only [decide_eq_true_eq, decide_eq_false_iff_not] at hc1
    refine AMx.skip ?_
    refine AMx.seq ?_
    refine AMx.block ?_
    refine AMx.region_draw (ces := [(7, CE.obj (AObj.grow 96 3 RowV (0, false, false) rowR [(List.getD s.2.2.2 i (0, false, false))])), (8, CE.obj (AObj.grow 96 3 RowV (0, false, false) rowR ((List.take i s.2.2.2) ++ [(List.getD s.2.2.2 i (0, false, false))])))]) (ros := [(1, [3]), (3, [1]), (8, [19, 26]), (10, [3])]) (ks := [1, 2, 3, 4]) (hs := [1, 2, 3, 27]) (cs := [(0 : Int) ≤ (i : Int), (i : Int) < List.length s.2.2.2, flat 3 rowR [(List.getD s.2.2.2 i (0, false, false))] = [.s (i6 ((List.getD s.2.2.2 i (0, false, false)).1)), .s (bo ((List.getD s.2.2.2 i (0, false, false)).2.1)), .s (bo ((List.getD s.2.2.2 i (0, false, false)).2.2))], List.length ([(List.getD s.2.2.2 i (0, false, false))] : List RowV) = 1, AppC (flat 3 rowR [(List.getD s.2.2.2 i (0, false, false))]) (List.length ([(List.getD s.2.2.2 i (0, false, false))] : List RowV)) 16 (AObj.grow 96 3 RowV (0, false, false) rowR (List.take i s.2.2.2)) (AObj.grow 96 3 RowV (0, false, false) rowR ((List.take i s.2.2.2) ++ [(List.getD s.2.2.2 i (0, false, false))]))]) (s' := AS.lst 30 [(1, vp 1 0), (2, vp 2 0), (3, vp 3 0), (4, vc (i6 (i : Int)))] [(1, AObj.row [.s (i6 s.1), .s (bo s.2.1), .s (i6 s.2.2.1), .s (slR s.2.2.2)]), (2, AObj.row [.s (i6 0), .s (bo false), .s (i6 0), .s (SC.nilsl)]), (3, AObj.row [.s (i6 s.1), .s (bo s.2.1), .s (i6 s.2.2.1), .own 27]), (27, AObj.grow 96 3 RowV (0, false, false) rowR ((List.take i s.2.2.2) ++ [(List.getD s.2.2.2 i (0, false, false))]))]) mixed (by kernel_rfl) ?_ ?_
    · exact ⟨(show (0 : Int) ≤ (i : Int) from (by omega)), (show (i : Int) < List.length s.2.2.2 from (by omega)), rfl, rfl, (⟨_, rfl, rfl, rfl, by simp only [List.length_take, List.length_cons, List.length_nil]; omega, by simp only [maxLen, List.length_take, List.length_cons, List.length_nil]; omega⟩)⟩
    refine AMx.blk ?_
    refine AMx.region (ces := []) (ks := [1, 2, 3, 4]) (hs := [1, 2, 3, 27]) (cs := [InR .i64 ((i : Int) + 1)]) (s' := AS.lst 30 [(1, vp 1 0), (2, vp 2 0), (3, vp 3 0), (4, vc (i6 ((i : Int) + 1)))] [(1, AObj.row [.s (i6 s.1), .s (bo s.2.1), .s (i6 s.2.2.1), .s (slR s.2.2.2)]), (2, AObj.row [.s (i6 0), .s (bo false), .s (i6 0), .s (SC.nilsl)]), (3, AObj.row [.s (i6 s.1), .s (bo s.2.1), .s (i6 s.2.2.1), .own 27]), (27, AObj.grow 96 3 RowV (0, false, false) rowR ((List.take i s.2.2.2) ++ [(List.getD s.2.2.2 i (0, false, false))]))]) (by kernel_rfl) ?_ ?_
    · exact (show InR .i64 ((i : Int) + 1) from (inR64 (by omega) (by omega)))
    refine AMx.ent_inv (s' := AS.lst 30 [(1, vp 1 0), (2, vp 2 0), (3, vp 3 0), (4, vc (i6 ((i : Int) + 1)))] [(1, AObj.row [.s (i6 s.1), .s (bo s.2.1), .s (i6 s.2.2.1), .s (slR s.2.2.2)]), (2, AObj.row [.s (i6 0), .s (bo false), .s (i6 0), .s (SC.nilsl)]), (3, AObj.row [.s (i6 s.1), .s (bo s.2.1), .s (i6 s.2.2.1), .own 19]), (19, AObj.grow 96 3 RowV (0, false, false) rowR ((List.take i s.2.2.2) ++ [(List.getD s.2.2.2 i (0, false, false))]))]) (ent_swap 27 19 (by kernel_rfl) (by kernel_rfl)) ?_
    refine AMx.ent_inv (s' := AS.lst 30 [(1, vp 1 0), (2, vp 2 0), (3, vp 3 0), (4, vc (i6 ((i : Int) + 1)))] [(1, AObj.row [.s (i6 s.1), .s (bo s.2.1), .s (i6 s.2.2.1), .s (slR s.2.2.2)]), (2, AObj.row [.s (i6 0), .s (bo false), .s (i6 0), .s (SC.nilsl)]), (3, AObj.row [.s (i6 s.1), .s (bo s.2.1), .s (i6 s.2.2.1), .own 19]), (19, AObj.grow 96 3 RowV (0, false, false) rowR ((List.take i s.2.2.2) ++ [(List.getD s.2.2.2 i (0, false, false))]))]) (ent_proj [1, 2, 3, 4] [1, 2, 3, 19]) ?_
    refine AMx.inv ⟨_, ?_, i + 1, ?_, rfl, ?_⟩
    rotate_left
    · omega
    · rw [Lib.take_succ (0, false, false) s.2.2.2 i (by omega)]; rfl
    · omega
  · try simp only [decide_eq_true_eq, decide_eq_false_iff_not] at hc1
    refine AMx.exit ?_
    refine AMx.code_exit ?_
    refine AMx.inv_exit ?_
    refine AMx.blk_exit ?_
    refine AMx.seq ?_
    refine AMx.region (ces := []) (ks := [2]) (hs := [2, 19]) (cs := []) (s' := AS.lst 30 [(2, vp 2 0)] [(2, AObj.row [.s (i6 s.1), .s (bo s.2.1), .s (i6 s.2.2.1), .own 19]), (19, AObj.grow 96 3 RowV (0, false, false) rowR (List.take i s.2.2.2))]) (by kernel_rfl) ?_ ?_
    · exact trivial
    refine AMx.ent (s' := AS.lst 30 [(2, vp 2 0)] [(2, AObj.row [.s (i6 s.1), .s (bo s.2.1), .s (i6 s.2.2.1), .s (slR (List.take i s.2.2.2))])]) (ent_freeze (id := 19) (T := 96) (by kernel_rfl)) ?_
    refine AMx.ret ?_
    exact RetP.mk (r := AV.t (TV.agg [.s (i6 s.1), .s (bo s.2.1), .s (i6 s.2.2.1), .s (slR (List.take i s.2.2.2))])) (by kernel_rfl) (by rw [List.take_of_length_le (by omega)])

theorem f60_body : Try.f60.body = some (.seq (.region 0 (rg Try.f60 0) false) (.seq (.region 1 (rg Try.f60 1) false) (.seq (.seq (.region 2 (rg Try.f60 2) false) (.block 0 (.loop (.seq (.seq (.region 3 (rg Try.f60 3) false) (.cond (.tmp 16) (.skip) (.exit 0))) (.seq (.block 1 (.region 5 (rg Try.f60 5) true)) (.region 4 (rg Try.f60 4) false)))))) (.seq (.region 6 (rg Try.f60 6) false) (.ret))))) := by kernel_rfl

set_option maxRecDepth 100000 in
set_option maxHeartbeats 8000000 in
theorem Back_c (s : Sec) (hb : s.2.2.2.length ≤ 1000) : Pure Try.prog 60 [TV.agg [.s (i6 s.1), .s (bo s.2.1), .s (i6 s.2.2.1), .s (slR s.2.2.2)]] (AV.t (TV.agg [.s (i6 s.1), .s (bo s.2.1), .s (i6 s.2.2.1), .s (slR s.2.2.2)])) := by
  refine Pure.of_body Try.func60 f60_body (by kernel_rfl) Try.ntmps60 (by kernel_rfl) (by kernel_rfl) ?_
  refine AMx.seq ?_
  refine AMx.region (ces := []) (ks := [1, 2]) (hs := [1, 2]) (cs := []) (s' := AS.lst 30 [(1, vp 1 0), (2, vp 2 0)] [(1, AObj.row [.s (i6 s.1), .s (bo s.2.1), .s (i6 s.2.2.1), .s (slR s.2.2.2)]), (2, AObj.row [.s (i6 0), .s (bo false), .s (i6 0), .s (SC.nilsl)])]) (by kernel_rfl) ?_ ?_
  · exact trivial
  refine AMx.seq ?_
  refine AMx.region (ces := []) (ks := [1, 2, 3]) (hs := [1, 2, 3]) (cs := []) (s' := AS.lst 30 [(1, vp 1 0), (2, vp 2 0), (3, vp 3 0)] [(1, AObj.row [.s (i6 s.1), .s (bo s.2.1), .s (i6 s.2.2.1), .s (slR s.2.2.2)]), (2, AObj.row [.s (i6 0), .s (bo false), .s (i6 0), .s (SC.nilsl)]), (3, AObj.row [.s (i6 s.1), .s (bo s.2.1), .s (i6 s.2.2.1), .s (SC.nilsl)])]) (by kernel_rfl) ?_ ?_
  · exact trivial
  refine AMx.seq ?_
  refine AMx.seq ?_
  refine AMx.region (ces := []) (ks := [1, 2, 3, 4]) (hs := [1, 2, 3]) (cs := []) (s' := AS.lst 30 [(1, vp 1 0), (2, vp 2 0), (3, vp 3 0), (4, vc (i6 0))] [(1, AObj.row [.s (i6 s.1), .s (bo s.2.1), .s (i6 s.2.2.1), .s (slR s.2.2.2)]), (2, AObj.row [.s (i6 0), .s (bo false), .s (i6 0), .s (SC.nilsl)]), (3, AObj.row [.s (i6 s.1), .s (bo s.2.1), .s (i6 s.2.2.1), .s (SC.nilsl)])]) (by kernel_rfl) ?_ ?_
  · exact trivial
  refine AMx.block ?_
  refine AMx.ent (ent_adoptO 3 19 [.s (i6 s.1), .s (bo s.2.1), .s (i6 s.2.2.1)] [] 99 3 RowV (0, false, false) rowR (by kernel_rfl) (by kernel_rfl) (by kernel_rfl) (by kernel_rfl)) ?_
  refine AMx.ent (s' := AS.lst 30 [(1, vp 1 0), (2, vp 2 0), (3, vp 3 0), (4, vc (i6 0))] [(1, AObj.row [.s (i6 s.1), .s (bo s.2.1), .s (i6 s.2.2.1), .s (slR s.2.2.2)]), (2, AObj.row [.s (i6 0), .s (bo false), .s (i6 0), .s (SC.nilsl)]), (3, AObj.row [.s (i6 s.1), .s (bo s.2.1), .s (i6 s.2.2.1), .own 19]), (19, AObj.grow 99 3 RowV (0, false, false) rowR [])]) (ent_proj [1, 2, 3, 4] [1, 2, 3, 19]) ?_
  refine AMx.ent (s' := AS.lst 30 [(1, vp 1 0), (2, vp 2 0), (3, vp 3 0), (4, vc (i6 0))] [(1, AObj.row [.s (i6 s.1), .s (bo s.2.1), .s (i6 s.2.2.1), .s (slR s.2.2.2)]), (2, AObj.row [.s (i6 0), .s (bo false), .s (i6 0), .s (SC.nilsl)]), (3, AObj.row [.s (i6 s.1), .s (bo s.2.1), .s (i6 s.2.2.1), .own 19]), (19, AObj.grow 99 3 RowV (0, false, false) rowR [])]) (ent_proj [1, 2, 3, 4] [1, 2, 3, 19]) ?_
  refine AMx.loop (fun mm ss => ∃ (i : Nat), (i ≤ s.2.2.2.length) ∧ mm = s.2.2.2.length - i ∧ ss = AS.lst 30 [(1, vp 1 0), (2, vp 2 0), (3, vp 3 0), (4, vc (i6 (i : Int)))] [(1, AObj.row [.s (i6 s.1), .s (bo s.2.1), .s (i6 s.2.2.1), .s (slR s.2.2.2)]), (2, AObj.row [.s (i6 0), .s (bo false), .s (i6 0), .s (SC.nilsl)]), (3, AObj.row [.s (i6 s.1), .s (bo s.2.1), .s (i6 s.2.2.1), .own 19]), (19, AObj.grow 99 3 RowV (0, false, false) rowR (List.take i s.2.2.2))]) ⟨0, ?_, rfl, ?_⟩ ?_
  · omega
  · rfl
  rintro mm ss ⟨i, hI, rfl, rfl⟩
  refine AMx.seq ?_
  refine AMx.seq ?_
  refine AMx.region (ces := []) (ks := [1, 2, 3, 4, 16]) (hs := [1, 2, 3, 19]) (cs := []) (s' := AS.lst 30 [(1, vp 1 0), (2, vp 2 0), (3, vp 3 0), (4, vc (i6 (i : Int))), (16, vc (bo (decide ((i : Int) < (List.length s.2.2.2 : Int)))))] [(1, AObj.row [.s (i6 s.1), .s (bo s.2.1), .s (i6 s.2.2.1), .s (slR s.2.2.2)]), (2, AObj.row [.s (i6 0), .s (bo false), .s (i6 0), .s (SC.nilsl)]), (3, AObj.row [.s (i6 s.1), .s (bo s.2.1), .s (i6 s.2.2.1), .own 19]), (19, AObj.grow 99 3 RowV (0, false, false) rowR (List.take i s.2.2.2))]) (by kernel_rfl) ?_ ?_
  · exact trivial
  refine AMx.cond (b := decide ((i : Int) < (List.length s.2.2.2 : Int))) (by kernel_rfl) (fun hc1 => ?_) (fun hc1 => ?_)
  · try simp only [decide_eq_true_eq, decide_eq_false_iff_not] at hc1
    refine AMx.skip ?_
    refine AMx.seq ?_
    refine AMx.block ?_
    refine AMx.region_draw (ces := [(7, CE.obj (AObj.grow 99 3 RowV (0, false, false) rowR [(List.getD s.2.2.2 i (0, false, false))])), (8, CE.obj (AObj.grow 99 3 RowV (0, false, false) rowR ((List.take i s.2.2.2) ++ [(List.getD s.2.2.2 i (0, false, false))])))]) (ros := [(1, [3]), (3, [1]), (8, [19, 26]), (10, [3])]) (ks := [1, 2, 3, 4]) (hs := [1, 2, 3, 27]) (cs := [(0 : Int) ≤ (i : Int), (i : Int) < List.length s.2.2.2, flat 3 rowR [(List.getD s.2.2.2 i (0, false, false))] = [.s (i6 ((List.getD s.2.2.2 i (0, false, false)).1)), .s (bo ((List.getD s.2.2.2 i (0, false, false)).2.1)), .s (bo ((List.getD s.2.2.2 i (0, false, false)).2.2))], List.length ([(List.getD s.2.2.2 i (0, false, false))] : List RowV) = 1, AppC (flat 3 rowR [(List.getD s.2.2.2 i (0, false, false))]) (List.length ([(List.getD s.2.2.2 i (0, false, false))] : List RowV)) 16 (AObj.grow 99 3 RowV (0, false, false) rowR (List.take i s.2.2.2)) (AObj.grow 99 3 RowV (0, false, false) rowR ((List.take i s.2.2.2) ++ [(List.getD s.2.2.2 i (0, false, false))]))]) (s' := AS.lst 30 [(1, vp 1 0), (2, vp 2 0), (3, vp 3 0), (4, vc (i6 (i : Int)))] [(1, AObj.row [.s (i6 s.1), .s (bo s.2.1), .s (i6 s.2.2.1), .s (slR s.2.2.2)]), (2, AObj.row [.s (i6 0), .s (bo false), .s (i6 0), .s (SC.nilsl)]), (3, AObj.row [.s (i6 s.1), .s (bo s.2.1), .s (i6 s.2.2.1), .own 27]), (27, AObj.grow 99 3 RowV (0, false, false) rowR ((List.take i s.2.2.2) ++ [(List.getD s.2.2.2 i (0, false, false))]))]) mixed (by kernel_rfl) ?_ ?_
    · exact ⟨(show (0 : Int) ≤ (i : Int) from (by omega)), (show (i : Int) < List.length s.2.2.2 from (by omega)), rfl, rfl, (⟨_, rfl, rfl, rfl, by simp only [List.length_take, List.length_cons, List.length_nil]; omega, by simp only [maxLen, List.length_take, List.length_cons, List.length_nil]; omega⟩)⟩
    refine AMx.blk ?_
    refine AMx.region (ces := []) (ks := [1, 2, 3, 4]) (hs := [1, 2, 3, 27]) (cs := [InR .i64 ((i : Int) + 1)]) (s' := AS.lst 30 [(1, vp 1 0), (2, vp 2 0), (3, vp 3 0), (4, vc (i6 ((i : Int) + 1)))] [(1, AObj.row [.s (i6 s.1), .s (bo s.2.1), .s (i6 s.2.2.1), .s (slR s.2.2.2)]), (2, AObj.row [.s (i6 0), .s (bo false), .s (i6 0), .s (SC.nilsl)]), (3, AObj.row [.s (i6 s.1), .s (bo s.2.1), .s (i6 s.2.2.1), .own 27]), (27, AObj.grow 99 3 RowV (0, false, false) rowR ((List.take i s.2.2.2) ++ [(List.getD s.2.2.2 i (0, false, false))]))]) (by kernel_rfl) ?_ ?_
    · exact (show InR .i64 ((i : Int) + 1) from (inR64 (by omega) (by omega)))
    refine AMx.ent_inv (s' := AS.lst 30 [(1, vp 1 0), (2, vp 2 0), (3, vp 3 0), (4, vc (i6 ((i : Int) + 1)))] [(1, AObj.row [.s (i6 s.1), .s (bo s.2.1), .s (i6 s.2.2.1), .s (slR s.2.2.2)]), (2, AObj.row [.s (i6 0), .s (bo false), .s (i6 0), .s (SC.nilsl)]), (3, AObj.row [.s (i6 s.1), .s (bo s.2.1), .s (i6 s.2.2.1), .own 19]), (19, AObj.grow 99 3 RowV (0, false, false) rowR ((List.take i s.2.2.2) ++ [(List.getD s.2.2.2 i (0, false, false))]))]) (ent_swap 27 19 (by kernel_rfl) (by kernel_rfl)) ?_
    refine AMx.ent_inv (s' := AS.lst 30 [(1, vp 1 0), (2, vp 2 0), (3, vp 3 0), (4, vc (i6 ((i : Int) + 1)))] [(1, AObj.row [.s (i6 s.1), .s (bo s.2.1), .s (i6 s.2.2.1), .s (slR s.2.2.2)]), (2, AObj.row [.s (i6 0), .s (bo false), .s (i6 0), .s (SC.nilsl)]), (3, AObj.row [.s (i6 s.1), .s (bo s.2.1), .s (i6 s.2.2.1), .own 19]), (19, AObj.grow 99 3 RowV (0, false, false) rowR ((List.take i s.2.2.2) ++ [(List.getD s.2.2.2 i (0, false, false))]))]) (ent_proj [1, 2, 3, 4] [1, 2, 3, 19]) ?_
    refine AMx.inv ⟨_, ?_, i + 1, ?_, rfl, ?_⟩
    rotate_left
    · omega
    · rw [Lib.take_succ (0, false, false) s.2.2.2 i (by omega)]; rfl
    · omega
  · try simp only [decide_eq_true_eq, decide_eq_false_iff_not] at hc1
    refine AMx.exit ?_
    refine AMx.code_exit ?_
    refine AMx.inv_exit ?_
    refine AMx.blk_exit ?_
    refine AMx.seq ?_
    refine AMx.region (ces := []) (ks := [2]) (hs := [2, 19]) (cs := []) (s' := AS.lst 30 [(2, vp 2 0)] [(2, AObj.row [.s (i6 s.1), .s (bo s.2.1), .s (i6 s.2.2.1), .own 19]), (19, AObj.grow 99 3 RowV (0, false, false) rowR (List.take i s.2.2.2))]) (by kernel_rfl) ?_ ?_
    · exact trivial
    refine AMx.ent (s' := AS.lst 30 [(2, vp 2 0)] [(2, AObj.row [.s (i6 s.1), .s (bo s.2.1), .s (i6 s.2.2.1), .s (slR (List.take i s.2.2.2))])]) (ent_freeze (id := 19) (T := 99) (by kernel_rfl)) ?_
    refine AMx.ret ?_
    exact RetP.mk (r := AV.t (TV.agg [.s (i6 s.1), .s (bo s.2.1), .s (i6 s.2.2.1), .s (slR (List.take i s.2.2.2))])) (by kernel_rfl) (by rw [List.take_of_length_le (by omega)])

end AL.Secret
