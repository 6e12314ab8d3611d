/- locks: the contracts of its functions, by their walks. No condition. -/
import Derived.Test.YtphkoklgdkimmaaLocksH
namespace AL.Locks
open Go Go.Proofs AL AL.Fnv AL.Gate
set_option linter.unusedVariables false
set_option linter.unusedSimpArgs false

theorem f11_body : Try.f11.body = some (.seq (.region 0 (rg Try.f11 0) false) (.seq (.seq (.region 1 (rg Try.f11 1) false) (.cond (.tmp 24) (.seq (.region 2 (rg Try.f11 2) false) (.ret)) (.skip))) (.seq (.region 3 (rg Try.f11 3) false) (.seq (.region 4 (rg Try.f11 4) false) (.seq (.seq (.region 5 (rg Try.f11 5) true) (.cond (.tmp 48) (.seq (.region 6 (rg Try.f11 6) false) (.ret)) (.skip))) (.seq (.seq (.region 7 (rg Try.f11 7) false) (.block 0 (.loop (.seq (.seq (.region 8 (rg Try.f11 8) false) (.cond (.tmp 52) (.skip) (.exit 0))) (.seq (.block 1 (.seq (.region 10 (rg Try.f11 10) false) (.seq (.seq (.region 11 (rg Try.f11 11) false) (.block 2 (.seq (.seq (.region 17 (rg Try.f11 17) false) (.cond (.tmp 96) (.skip) (.region 18 (rg Try.f11 18) false))) (.cond (.tmp 96) (.seq (.region 19 (rg Try.f11 19) false) (.seq (.region 20 (rg Try.f11 20) false) (.seq (.seq (.region 21 (rg Try.f11 21) false) (.cond (.tmp 119) (.seq (.region 22 (rg Try.f11 22) false) (.ret)) (.skip))) (.region 23 (rg Try.f11 23) true)))) (.seq (.region 24 (rg Try.f11 24) false) (.cond (.tmp 122) (.region 25 (rg Try.f11 25) true) (.seq (.region 12 (rg Try.f11 12) false) (.seq (.region 13 (rg Try.f11 13) false) (.seq (.seq (.region 14 (rg Try.f11 14) false) (.cond (.tmp 93) (.seq (.region 15 (rg Try.f11 15) false) (.ret)) (.skip))) (.region 16 (rg Try.f11 16) true)))))))))) (.seq (.region 26 (rg Try.f11 26) false) (.block 3 (.loop (.seq (.seq (.region 27 (rg Try.f11 27) false) (.cond (.tmp 134) (.skip) (.exit 3))) (.seq (.block 4 (.seq (.region 29 (rg Try.f11 29) true) (.cond (.tmp 145) (.seq (.region 30 (rg Try.f11 30) false) (.ret)) (.skip)))) (.region 28 (rg Try.f11 28) false))))))))) (.region 9 (rg Try.f11 9) false)))))) (.seq (.region 31 (rg Try.f11 31) true) (.ret)))))))) := by kernel_rfl

set_option maxRecDepth 100000 in
set_option maxHeartbeats 8000000 in
theorem LocksDo_c (n : Int) (l : List Lop) : Pure Try.prog 11 [tc (i6 n), tc (slK l)] (vc (bo true)) := by
  refine Pure.of_body Try.func11 f11_body (by kernel_rfl) Try.ntmps11 (by kernel_rfl) (by kernel_rfl) ?_
  have hn := new_len n
  refine AMx.seq ?_
  refine AMx.region (ces := []) (ks := [0, 1]) (hs := []) (cs := []) (s' := AS.lst 155 [(0, vc (i6 n)), (1, vc (slK l))] []) (by kernel_rfl) ?_ ?_
  · exact trivial
  refine AMx.seq ?_
  refine AMx.seq ?_
  refine AMx.region (ces := []) (ks := [0, 1, 24]) (hs := []) (cs := []) (s' := AS.lst 155 [(0, vc (i6 n)), (1, vc (slK l)), (24, vc (bo (decide (60 < (List.length l : Int)))))] []) (by kernel_rfl) ?_ ?_
  · exact trivial
  refine AMx.cond (b := decide (60 < (List.length l : Int))) (by kernel_rfl) (fun hc1 => ?_) (fun hc1 => ?_)
  · try simp only [decide_eq_true_eq, decide_eq_false_iff_not] at hc1
    refine AMx.seq ?_
    refine AMx.region (ces := [(0, CE.call [] [] (vc (bo true)) [])]) (ks := [4]) (hs := []) (cs := [Spec Try.prog 50 [] (ofH []) (vc (bo true)) (ofH [])]) (s' := AS.lst 155 [(4, vc (bo true))] []) (by kernel_rfl) ?_ ?_
    · exact (awake_c)
    refine AMx.ret ?_
    exact RetP.mk (r := vc (bo true)) (by kernel_rfl) rfl
  · try simp only [decide_eq_true_eq, decide_eq_false_iff_not] at hc1
    refine AMx.skip ?_
    refine AMx.seq ?_
    refine AMx.region (ces := [(1, CE.call [] [] (AV.tup [TV.agg [.s (slT ((newS n).1))], tc (i6 ((newS n).2))]) [])]) (ks := [0, 1, 5, 6]) (hs := [5]) (cs := [Spec Try.prog 51 [tc (i6 n)] (ofH []) (AV.tup [TV.agg [.s (slT ((newS n).1))], tc (i6 ((newS n).2))]) (ofH [])]) (s' := AS.lst 155 [(0, vc (i6 n)), (1, vc (slK l)), (5, vp 5 0), (6, vc (i6 ((newS n).2)))] [(5, AObj.row [.s (slT ((newS n).1))])]) (by kernel_rfl) ?_ ?_
    · exact (New_c n)
    refine AMx.seq ?_
    refine AMx.region (ces := [(1, CE.call [] [] (AV.tup [TV.agg [.s (slT ((newS n).1))], tc (i6 ((newS n).2))]) [])]) (ks := [1, 5, 6, 7, 8]) (hs := [5, 7]) (cs := [Spec Try.prog 52 [tc (i6 n)] (ofH []) (AV.tup [TV.agg [.s (slT ((newS n).1))], tc (i6 ((newS n).2))]) (ofH [])]) (s' := AS.lst 155 [(1, vc (slK l)), (5, vp 5 0), (6, vc (i6 ((newS n).2))), (7, vp 7 0), (8, vc (i6 ((newS n).2)))] [(5, AObj.row [.s (slT ((newS n).1))]), (7, AObj.row [.s (slT ((newS n).1))])]) (by kernel_rfl) ?_ ?_
    · exact (RNew_c n)
    refine AMx.seq ?_
    refine AMx.seq ?_
    refine AMx.region_draw (ces := [(5, CE.call [] [] (vc (i6 (max 0 ((List.length ((newS n).1) : Int) - 4)))) [])]) (ros := [(4, [5]), (7, [7])]) (ks := [1, 5, 7, 48]) (hs := [5, 7]) (cs := [((!decide ((newS n).2 = (newS n).2)) = false) → allP [], ((!decide ((newS n).2 = (newS n).2)) = false) → allP [(!decide ((newS n).2 = (newS n).2)) = false, Spec Try.prog 53 [TV.agg [.s (slT ((newS n).1))]] (ofH []) (vc (i6 (max 0 ((List.length ((newS n).1) : Int) - 4)))) (ofH [])], ((!decide ((newS n).2 = (newS n).2)) = false) → allP [], ((!decide ((newS n).2 = (newS n).2)) = false) → allP [(!decide ((newS n).2 = (newS n).2)) = false], ((!decide ((newS n).2 = (newS n).2)) = false) → allP [(!decide ((newS n).2 = (newS n).2)) = false], ((!decide ((newS n).2 = (newS n).2)) = false) → allP [(!decide ((newS n).2 = (newS n).2)) = false, InR .i64 ((List.length ((newS n).1 : List Gt) : Int) - 4)], ((!decide ((newS n).2 = (newS n).2)) = false) → allP [(!decide ((newS n).2 = (newS n).2)) = false], ((!decide ((newS n).2 = (newS n).2)) = false) → allP [(!decide ((newS n).2 = (newS n).2)) = false, (!decide ((newS n).2 = (newS n).2)) = false], (!decide ((newS n).2 = (newS n).2)) = false → allP [(!decide ((newS n).2 = (newS n).2)) = false]]) (s' := AS.lst 155 [(1, vc (slK l)), (5, vp 5 0), (7, vp 7 0), (48, vc (bo ((!decide ((newS n).2 = (newS n).2)) || (!decide (max 0 ((List.length ((newS n).1) : Int) - 4) = max 0 ((List.length ((newS n).1 : List Gt) : Int) - 4))))))] [(5, AObj.row [.s (slT ((newS n).1))]), (7, AObj.row [.s (slT ((newS n).1))])]) mixed (by kernel_rfl) ?_ ?_
    · exact ⟨(fun _ => trivial), (fun hp => by have hq := hp; (try simp only [decide_eq_true_eq, decide_eq_false_iff_not, Bool.and_eq_true, Bool.or_eq_true, Bool.and_eq_false_iff, Bool.or_eq_false_iff, Bool.not_eq_true', Bool.not_eq_false', Bool.not_eq_true, Bool.not_eq_false] at hq); exact ⟨hp, (TShards_c ((newS n).1))⟩), (fun _ => trivial), (fun hp => hp), (fun hp => hp), (fun hp => by have hq := hp; (try simp only [decide_eq_true_eq, decide_eq_false_iff_not, Bool.and_eq_true, Bool.or_eq_true, Bool.and_eq_false_iff, Bool.or_eq_false_iff, Bool.not_eq_true', Bool.not_eq_false', Bool.not_eq_true, Bool.not_eq_false] at hq); exact ⟨hp, (show InR .i64 ((List.length ((newS n).1 : List Gt) : Int) - 4) from (inR64 (by omega) (by omega)))⟩), (fun hp => hp), (fun hp => ⟨hp, hp⟩), (fun hp2 => (by first | exact hp2 | exact ⟨hp, hp2⟩))⟩
    refine AMx.cond (b := ((!decide ((newS n).2 = (newS n).2)) || (!decide (max 0 ((List.length ((newS n).1) : Int) - 4) = max 0 ((List.length ((newS n).1 : List Gt) : Int) - 4))))) (by kernel_rfl) (fun hc2 => ?_) (fun hc2 => ?_)
    · try simp only [decide_eq_true_eq, decide_eq_false_iff_not, Bool.or_eq_true, Bool.or_eq_false_iff, Bool.not_eq_true', Bool.not_eq_false'] at hc2
      refine AMx.seq ?_
      refine AMx.region (ces := []) (ks := [4]) (hs := []) (cs := []) (s' := AS.lst 155 [(4, vc (bo false))] []) (by kernel_rfl) ?_ ?_
      · exact trivial
      refine AMx.ret ?_
      exact RetP.mk (r := vc (bo false)) (by kernel_rfl) (by exfalso; simp at hc2)
    · try simp only [decide_eq_true_eq, decide_eq_false_iff_not, Bool.or_eq_true, Bool.or_eq_false_iff, Bool.not_eq_true', Bool.not_eq_false'] at hc2
      refine AMx.skip ?_
      refine AMx.seq ?_
      refine AMx.seq ?_
      refine AMx.region (ces := []) (ks := [1, 5, 7, 9]) (hs := [5, 7]) (cs := []) (s' := AS.lst 155 [(1, vc (slK l)), (5, vp 5 0), (7, vp 7 0), (9, vc (i6 0))] [(5, AObj.row [.s (slT ((newS n).1))]), (7, AObj.row [.s (slT ((newS n).1))])]) (by kernel_rfl) ?_ ?_
      · exact trivial
      refine AMx.block ?_
      refine AMx.ent (s' := AS.lst 155 [(1, vc (slK l)), (5, vp 5 0), (7, vp 7 0), (9, vc (i6 0))] [(5, AObj.row [.s (slT ((newS n).1))]), (7, AObj.row [.s (slT ((newS n).1))])]) (ent_proj [1, 5, 7, 9] [5, 7]) ?_
      refine AMx.loop (fun mm ss => ∃ (k : Nat) (tt : Tab), (k ≤ l.length ∧ TabOk k (whosS (List.take k l)) tt) ∧ mm = l.length - k ∧ ss = AS.lst 155 [(1, vc (slK l)), (5, vp 5 0), (7, vp 7 0), (9, vc (i6 (k : Int)))] [(5, AObj.row [.s (slT tt)]), (7, AObj.row [.s (slT tt)])]) ⟨0, (newS n).1, ?_, rfl, ?_⟩ ?_
      · exact ⟨by omega, ok_new n⟩
      · rfl
      rintro mm ss ⟨k, tt, ⟨hI, hT⟩, rfl, rfl⟩
      refine AMx.seq ?_
      refine AMx.seq ?_
      refine AMx.region (ces := []) (ks := [1, 5, 7, 9, 52]) (hs := [5, 7]) (cs := []) (s' := AS.lst 155 [(1, vc (slK l)), (5, vp 5 0), (7, vp 7 0), (9, vc (i6 (k : Int))), (52, vc (bo (decide ((k : Int) < (List.length l : Int)))))] [(5, AObj.row [.s (slT tt)]), (7, AObj.row [.s (slT tt)])]) (by kernel_rfl) ?_ ?_
      · exact trivial
      refine AMx.cond (b := decide ((k : Int) < (List.length l : Int))) (by kernel_rfl) (fun hc3 => ?_) (fun hc3 => ?_)
      · try simp only [decide_eq_true_eq, decide_eq_false_iff_not] at hc3
        refine AMx.skip ?_
        refine AMx.seq ?_
        refine AMx.block ?_
        refine AMx.seq ?_
        refine AMx.region (ces := []) (ks := [1, 5, 7, 9, 10]) (hs := [5, 7, 10]) (cs := [(0 : Int) ≤ (k : Int), (k : Int) < List.length l]) (s' := AS.lst 155 [(1, vc (slK l)), (5, vp 5 0), (7, vp 7 0), (9, vc (i6 (k : Int))), (10, vp 10 0)] [(5, AObj.row [.s (slT tt)]), (7, AObj.row [.s (slT tt)]), (10, AObj.row [.s (u8 ((List.getD l k lopd).kind)), .s (i6 ((List.getD l k lopd).who)), .s (i6 ((List.getD l k lopd).lock)), .s (u8 ((List.getD l k lopd).mode))])]) (by kernel_rfl) ?_ ?_
        · exact ⟨(show (0 : Int) ≤ (k : Int) from (by omega)), (show (k : Int) < List.length l from (by omega))⟩
        refine AMx.seq ?_
        refine AMx.seq ?_
        refine AMx.region (ces := []) (ks := [1, 5, 7, 9, 10, 61]) (hs := [5, 7, 10]) (cs := [(7 : Int) ≠ 0]) (s' := AS.lst 155 [(1, vc (slK l)), (5, vp 5 0), (7, vp 7 0), (9, vc (i6 (k : Int))), (10, vp 10 0), (61, vc (u8 (Int.tmod ((List.getD l k lopd).kind) 7)))] [(5, AObj.row [.s (slT tt)]), (7, AObj.row [.s (slT tt)]), (10, AObj.row [.s (u8 ((List.getD l k lopd).kind)), .s (i6 ((List.getD l k lopd).who)), .s (i6 ((List.getD l k lopd).lock)), .s (u8 ((List.getD l k lopd).mode))])]) (by kernel_rfl) ?_ ?_
        · exact (show (7 : Int) ≠ 0 from (by omega))
        refine AMx.block ?_
        refine AMx.seq ?_
        refine AMx.seq ?_
        refine AMx.region (ces := []) (ks := [1, 5, 7, 9, 10, 61, 96]) (hs := [5, 7, 10]) (cs := []) (s' := AS.lst 155 [(1, vc (slK l)), (5, vp 5 0), (7, vp 7 0), (9, vc (i6 (k : Int))), (10, vp 10 0), (61, vc (u8 (Int.tmod ((List.getD l k lopd).kind) 7))), (96, vc (bo (decide (Int.tmod ((List.getD l k lopd).kind) 7 = 4))))] [(5, AObj.row [.s (slT tt)]), (7, AObj.row [.s (slT tt)]), (10, AObj.row [.s (u8 ((List.getD l k lopd).kind)), .s (i6 ((List.getD l k lopd).who)), .s (i6 ((List.getD l k lopd).lock)), .s (u8 ((List.getD l k lopd).mode))])]) (by kernel_rfl) ?_ ?_
        · exact trivial
        refine AMx.cond (b := decide (Int.tmod ((List.getD l k lopd).kind) 7 = 4)) (by kernel_rfl) (fun hc4 => ?_) (fun hc4 => ?_)
        · try simp only [decide_eq_true_eq, decide_eq_false_iff_not] at hc4
          refine AMx.skip ?_
          refine AMx.cond (b := decide (Int.tmod ((List.getD l k lopd).kind) 7 = 4)) (by kernel_rfl) (fun hc5 => ?_) (fun hc5 => ?_)
          · try simp only [decide_eq_true_eq, decide_eq_false_iff_not] at hc5
            refine AMx.seq ?_
            refine AMx.region (ces := [(5, CE.call [] [] (AV.tup [TV.agg [.s (slT ((leaveT tt ((List.getD l k lopd).who) ((List.getD l k lopd).lock)).1))], tc (i6 ((leaveT tt ((List.getD l k lopd).who) ((List.getD l k lopd).lock)).2))]) [])]) (ks := [1, 5, 7, 9, 10, 11, 12]) (hs := [5, 7, 10, 11]) (cs := [Spec Try.prog 54 [TV.agg [.s (slT tt)], tc (i6 ((List.getD l k lopd).who)), tc (i6 ((List.getD l k lopd).lock))] (ofH []) (AV.tup [TV.agg [.s (slT ((leaveT tt ((List.getD l k lopd).who) ((List.getD l k lopd).lock)).1))], tc (i6 ((leaveT tt ((List.getD l k lopd).who) ((List.getD l k lopd).lock)).2))]) (ofH [])]) (s' := AS.lst 155 [(1, vc (slK l)), (5, vp 5 0), (7, vp 7 0), (9, vc (i6 (k : Int))), (10, vp 10 0), (11, vp 11 0), (12, vc (i6 ((leaveT tt ((List.getD l k lopd).who) ((List.getD l k lopd).lock)).2)))] [(5, AObj.row [.s (slT tt)]), (7, AObj.row [.s (slT tt)]), (10, AObj.row [.s (u8 ((List.getD l k lopd).kind)), .s (i6 ((List.getD l k lopd).who)), .s (i6 ((List.getD l k lopd).lock)), .s (u8 ((List.getD l k lopd).mode))]), (11, AObj.row [.s (slT ((leaveT tt ((List.getD l k lopd).who) ((List.getD l k lopd).lock)).1))])]) (by kernel_rfl) ?_ ?_
            · exact (TLeave_c tt ((List.getD l k lopd).who) ((List.getD l k lopd).lock) 61 (by first | exact good_mono hT.good (by omega) | exact good_mono (ok_step _ hT).good (by omega) | exact good_mono (ok_ask hT).good (by omega) | exact good_mono (ok_quit _ (ok_ask hT)).good (by omega)) (by omega))
            refine AMx.seq ?_
            refine AMx.region (ces := [(5, CE.call [] [] (AV.tup [TV.agg [.s (slT ((leaveT tt ((List.getD l k lopd).who) ((List.getD l k lopd).lock)).1))], tc (i6 ((leaveT tt ((List.getD l k lopd).who) ((List.getD l k lopd).lock)).2))]) [])]) (ks := [1, 5, 7, 9, 11, 12, 13, 14]) (hs := [5, 7, 11, 13]) (cs := [Spec Try.prog 55 [TV.agg [.s (slT tt)], tc (i6 ((List.getD l k lopd).who)), tc (i6 ((List.getD l k lopd).lock))] (ofH []) (AV.tup [TV.agg [.s (slT ((leaveT tt ((List.getD l k lopd).who) ((List.getD l k lopd).lock)).1))], tc (i6 ((leaveT tt ((List.getD l k lopd).who) ((List.getD l k lopd).lock)).2))]) (ofH [])]) (s' := AS.lst 155 [(1, vc (slK l)), (5, vp 5 0), (7, vp 7 0), (9, vc (i6 (k : Int))), (11, vp 11 0), (12, vc (i6 ((leaveT tt ((List.getD l k lopd).who) ((List.getD l k lopd).lock)).2))), (13, vp 13 0), (14, vc (i6 ((leaveT tt ((List.getD l k lopd).who) ((List.getD l k lopd).lock)).2)))] [(5, AObj.row [.s (slT tt)]), (7, AObj.row [.s (slT tt)]), (11, AObj.row [.s (slT ((leaveT tt ((List.getD l k lopd).who) ((List.getD l k lopd).lock)).1))]), (13, AObj.row [.s (slT ((leaveT tt ((List.getD l k lopd).who) ((List.getD l k lopd).lock)).1))])]) (by kernel_rfl) ?_ ?_
            · exact (TRLeave_c tt ((List.getD l k lopd).who) ((List.getD l k lopd).lock) 61 (by first | exact good_mono hT.good (by omega) | exact good_mono (ok_step _ hT).good (by omega) | exact good_mono (ok_ask hT).good (by omega) | exact good_mono (ok_quit _ (ok_ask hT)).good (by omega)) (by omega))
            refine AMx.seq ?_
            refine AMx.seq ?_
            refine AMx.region (ces := []) (ks := [1, 5, 7, 9, 11, 13, 119]) (hs := [5, 7, 11, 13]) (cs := []) (s' := AS.lst 155 [(1, vc (slK l)), (5, vp 5 0), (7, vp 7 0), (9, vc (i6 (k : Int))), (11, vp 11 0), (13, vp 13 0), (119, vc (bo (!decide ((leaveT tt ((List.getD l k lopd).who) ((List.getD l k lopd).lock)).2 = (leaveT tt ((List.getD l k lopd).who) ((List.getD l k lopd).lock)).2))))] [(5, AObj.row [.s (slT tt)]), (7, AObj.row [.s (slT tt)]), (11, AObj.row [.s (slT ((leaveT tt ((List.getD l k lopd).who) ((List.getD l k lopd).lock)).1))]), (13, AObj.row [.s (slT ((leaveT tt ((List.getD l k lopd).who) ((List.getD l k lopd).lock)).1))])]) (by kernel_rfl) ?_ ?_
            · exact trivial
            refine AMx.cond (b := !decide ((leaveT tt ((List.getD l k lopd).who) ((List.getD l k lopd).lock)).2 = (leaveT tt ((List.getD l k lopd).who) ((List.getD l k lopd).lock)).2)) (by kernel_rfl) (fun hc6 => ?_) (fun hc6 => ?_)
            · try simp only [decide_eq_true_eq, decide_eq_false_iff_not, Bool.not_eq_true', Bool.not_eq_false'] at hc6
              refine AMx.seq ?_
              refine AMx.region (ces := []) (ks := [4]) (hs := []) (cs := []) (s' := AS.lst 155 [(4, vc (bo false))] []) (by kernel_rfl) ?_ ?_
              · exact trivial
              refine AMx.ret ?_
              exact RetP.mk (r := vc (bo false)) (by kernel_rfl) (by exfalso; simp at hc6)
            · try simp only [decide_eq_true_eq, decide_eq_false_iff_not, Bool.not_eq_true', Bool.not_eq_false'] at hc6
              refine AMx.skip ?_
              refine AMx.region_draw (ces := []) (ros := [(0, [11]), (1, [13]), (2, [5]), (3, [7])]) (ks := [1, 5, 7, 9]) (hs := [5, 7]) (cs := []) (s' := AS.lst 155 [(1, vc (slK l)), (5, vp 5 0), (7, vp 7 0), (9, vc (i6 (k : Int)))] [(5, AObj.row [.s (slT ((leaveT tt ((List.getD l k lopd).who) ((List.getD l k lopd).lock)).1))]), (7, AObj.row [.s (slT ((leaveT tt ((List.getD l k lopd).who) ((List.getD l k lopd).lock)).1))])]) mixed (by kernel_rfl) ?_ ?_
              · exact trivial
              rw [show (leaveT tt ((List.getD l k lopd).who) ((List.getD l k lopd).lock)).1 = stepT tt (List.getD l k lopd) from (by unfold stepT; first | rw [if_pos (by omega)] | rw [if_neg (by omega), if_pos (by omega)] | rw [if_neg (by omega), if_neg (by omega)])]
              refine AMx.blk ?_
              refine AMx.seq ?_
              refine AMx.region (ces := []) (ks := [1, 5, 7, 9, 21]) (hs := [5, 7]) (cs := []) (s' := AS.lst 155 [(1, vc (slK l)), (5, vp 5 0), (7, vp 7 0), (9, vc (i6 (k : Int))), (21, vc (i6 0))] [(5, AObj.row [.s (slT (stepT tt (List.getD l k lopd)))]), (7, AObj.row [.s (slT (stepT tt (List.getD l k lopd)))])]) (by kernel_rfl) ?_ ?_
              · exact trivial
              refine AMx.block ?_
              refine AMx.ent (s' := AS.lst 155 [(1, vc (slK l)), (5, vp 5 0), (7, vp 7 0), (9, vc (i6 (k : Int))), (21, vc (i6 0))] [(5, AObj.row [.s (slT (stepT tt (List.getD l k lopd)))]), (7, AObj.row [.s (slT (stepT tt (List.getD l k lopd)))])]) (ent_proj [1, 5, 7, 9, 21] [5, 7]) ?_
              refine AMx.loop (fun mm ss => ∃ (q : Nat), (q ≤ k + 1) ∧ mm = k + 1 - q ∧ ss = AS.lst 155 [(1, vc (slK l)), (5, vp 5 0), (7, vp 7 0), (9, vc (i6 (k : Int))), (21, vc (i6 (q : Int)))] [(5, AObj.row [.s (slT (stepT tt (List.getD l k lopd)))]), (7, AObj.row [.s (slT (stepT tt (List.getD l k lopd)))])]) ⟨0, ?_, rfl, ?_⟩ ?_
              · omega
              · rfl
              rintro mm ss ⟨q, hI, rfl, rfl⟩
              refine AMx.seq ?_
              refine AMx.seq ?_
              refine AMx.region (ces := []) (ks := [1, 5, 7, 9, 21, 134]) (hs := [5, 7]) (cs := []) (s' := AS.lst 155 [(1, vc (slK l)), (5, vp 5 0), (7, vp 7 0), (9, vc (i6 (k : Int))), (21, vc (i6 (q : Int))), (134, vc (bo (decide ((q : Int) ≤ (k : Int)))))] [(5, AObj.row [.s (slT (stepT tt (List.getD l k lopd)))]), (7, AObj.row [.s (slT (stepT tt (List.getD l k lopd)))])]) (by kernel_rfl) ?_ ?_
              · exact trivial
              refine AMx.cond (b := decide ((q : Int) ≤ (k : Int))) (by kernel_rfl) (fun hc7 => ?_) (fun hc7 => ?_)
              · try simp only [decide_eq_true_eq, decide_eq_false_iff_not] at hc7
                refine AMx.skip ?_
                refine AMx.seq ?_
                refine AMx.block ?_
                refine AMx.seq ?_
                refine AMx.region_draw (ces := [(7, CE.call [] [] (vc (bo true)) [])]) (ros := [(0, [5]), (1, [7])]) (ks := [1, 5, 7, 9, 21, 145]) (hs := [5, 7]) (cs := [(0 : Int) ≤ (q : Int), (q : Int) < List.length l, Spec Try.prog 60 [TV.agg [.s (slT (stepT tt (List.getD l k lopd)))], TV.agg [.s (slT (stepT tt (List.getD l k lopd)))], tc (i6 ((List.getD l q lopd).who))] (ofH []) (vc (bo true)) (ofH [])]) (s' := AS.lst 155 [(1, vc (slK l)), (5, vp 5 0), (7, vp 7 0), (9, vc (i6 (k : Int))), (21, vc (i6 (q : Int))), (145, vc (bo false))] [(5, AObj.row [.s (slT (stepT tt (List.getD l k lopd)))]), (7, AObj.row [.s (slT (stepT tt (List.getD l k lopd)))])]) mixed (by kernel_rfl) ?_ ?_
                · exact ⟨(show (0 : Int) ≤ (q : Int) from (by omega)), (show (q : Int) < List.length l from (by omega)), (like_c (stepT tt (List.getD l k lopd)) ((List.getD l q lopd).who) 61 (by first | exact good_mono hT.good (by omega) | exact good_mono (ok_step _ hT).good (by omega) | exact good_mono (ok_ask hT).good (by omega) | exact good_mono (ok_quit _ (ok_ask hT)).good (by omega)) (by omega))⟩
                refine AMx.cond (b := false) (by kernel_rfl) (fun hc8 => ?_) (fun hc8 => ?_)
                · skip
                  cases hc8
                · skip
                  refine AMx.skip ?_
                  refine AMx.blk ?_
                  refine AMx.region (ces := []) (ks := [1, 5, 7, 9, 21]) (hs := [5, 7]) (cs := [InR .i64 ((q : Int) + 1)]) (s' := AS.lst 155 [(1, vc (slK l)), (5, vp 5 0), (7, vp 7 0), (9, vc (i6 (k : Int))), (21, vc (i6 ((q : Int) + 1)))] [(5, AObj.row [.s (slT (stepT tt (List.getD l k lopd)))]), (7, AObj.row [.s (slT (stepT tt (List.getD l k lopd)))])]) (by kernel_rfl) ?_ ?_
                  · exact (show InR .i64 ((q : Int) + 1) from (inR64 (by omega) (by omega)))
                  refine AMx.ent_inv (s' := AS.lst 155 [(1, vc (slK l)), (5, vp 5 0), (7, vp 7 0), (9, vc (i6 (k : Int))), (21, vc (i6 ((q : Int) + 1)))] [(5, AObj.row [.s (slT (stepT tt (List.getD l k lopd)))]), (7, AObj.row [.s (slT (stepT tt (List.getD l k lopd)))])]) (ent_proj [1, 5, 7, 9, 21] [5, 7]) ?_
                  refine AMx.inv ⟨_, ?_, q + 1, ?_, rfl, ?_⟩
                  rotate_left
                  · omega
                  · rfl
                  · omega
              · try simp only [decide_eq_true_eq, decide_eq_false_iff_not] at hc7
                refine AMx.exit ?_
                refine AMx.code_exit ?_
                refine AMx.inv_exit ?_
                refine AMx.blk_exit ?_
                refine AMx.blk ?_
                refine AMx.region (ces := []) (ks := [1, 5, 7, 9]) (hs := [5, 7]) (cs := [InR .i64 ((k : Int) + 1)]) (s' := AS.lst 155 [(1, vc (slK l)), (5, vp 5 0), (7, vp 7 0), (9, vc (i6 ((k : Int) + 1)))] [(5, AObj.row [.s (slT (stepT tt (List.getD l k lopd)))]), (7, AObj.row [.s (slT (stepT tt (List.getD l k lopd)))])]) (by kernel_rfl) ?_ ?_
                · exact (show InR .i64 ((k : Int) + 1) from (inR64 (by omega) (by omega)))
                refine AMx.ent_inv (s' := AS.lst 155 [(1, vc (slK l)), (5, vp 5 0), (7, vp 7 0), (9, vc (i6 ((k : Int) + 1)))] [(5, AObj.row [.s (slT (stepT tt (List.getD l k lopd)))]), (7, AObj.row [.s (slT (stepT tt (List.getD l k lopd)))])]) (ent_proj [1, 5, 7, 9] [5, 7]) ?_
                refine AMx.inv ⟨_, ?_, k + 1, stepT tt (List.getD l k lopd), ?_, rfl, ?_⟩
                rotate_left
                · exact ⟨by omega, by rw [whos_step l k (by omega)]; exact ok_step _ hT⟩
                · rfl
                · omega
          · try simp only [decide_eq_true_eq, decide_eq_false_iff_not] at hc5
            exfalso; first | exact hc4 hc5 | exact hc5 hc4 | (rw [hc5] at hc4; cases hc4) | simp_all
        · try simp only [decide_eq_true_eq, decide_eq_false_iff_not] at hc4
          refine AMx.region (ces := []) (ks := [1, 5, 7, 9, 10, 61, 96]) (hs := [5, 7, 10]) (cs := []) (s' := AS.lst 155 [(1, vc (slK l)), (5, vp 5 0), (7, vp 7 0), (9, vc (i6 (k : Int))), (10, vp 10 0), (61, vc (u8 (Int.tmod ((List.getD l k lopd).kind) 7))), (96, vc (bo (decide (Int.tmod ((List.getD l k lopd).kind) 7 = 5))))] [(5, AObj.row [.s (slT tt)]), (7, AObj.row [.s (slT tt)]), (10, AObj.row [.s (u8 ((List.getD l k lopd).kind)), .s (i6 ((List.getD l k lopd).who)), .s (i6 ((List.getD l k lopd).lock)), .s (u8 ((List.getD l k lopd).mode))])]) (by kernel_rfl) ?_ ?_
          · exact trivial
          refine AMx.cond (b := decide (Int.tmod ((List.getD l k lopd).kind) 7 = 5)) (by kernel_rfl) (fun hc9 => ?_) (fun hc9 => ?_)
          · try simp only [decide_eq_true_eq, decide_eq_false_iff_not] at hc9
            refine AMx.seq ?_
            refine AMx.region (ces := [(5, CE.call [] [] (AV.tup [TV.agg [.s (slT ((leaveT tt ((List.getD l k lopd).who) ((List.getD l k lopd).lock)).1))], tc (i6 ((leaveT tt ((List.getD l k lopd).who) ((List.getD l k lopd).lock)).2))]) [])]) (ks := [1, 5, 7, 9, 10, 11, 12]) (hs := [5, 7, 10, 11]) (cs := [Spec Try.prog 54 [TV.agg [.s (slT tt)], tc (i6 ((List.getD l k lopd).who)), tc (i6 ((List.getD l k lopd).lock))] (ofH []) (AV.tup [TV.agg [.s (slT ((leaveT tt ((List.getD l k lopd).who) ((List.getD l k lopd).lock)).1))], tc (i6 ((leaveT tt ((List.getD l k lopd).who) ((List.getD l k lopd).lock)).2))]) (ofH [])]) (s' := AS.lst 155 [(1, vc (slK l)), (5, vp 5 0), (7, vp 7 0), (9, vc (i6 (k : Int))), (10, vp 10 0), (11, vp 11 0), (12, vc (i6 ((leaveT tt ((List.getD l k lopd).who) ((List.getD l k lopd).lock)).2)))] [(5, AObj.row [.s (slT tt)]), (7, AObj.row [.s (slT tt)]), (10, AObj.row [.s (u8 ((List.getD l k lopd).kind)), .s (i6 ((List.getD l k lopd).who)), .s (i6 ((List.getD l k lopd).lock)), .s (u8 ((List.getD l k lopd).mode))]), (11, AObj.row [.s (slT ((leaveT tt ((List.getD l k lopd).who) ((List.getD l k lopd).lock)).1))])]) (by kernel_rfl) ?_ ?_
            · exact (TLeave_c tt ((List.getD l k lopd).who) ((List.getD l k lopd).lock) 61 (by first | exact good_mono hT.good (by omega) | exact good_mono (ok_step _ hT).good (by omega) | exact good_mono (ok_ask hT).good (by omega) | exact good_mono (ok_quit _ (ok_ask hT)).good (by omega)) (by omega))
            refine AMx.seq ?_
            refine AMx.region (ces := [(5, CE.call [] [] (AV.tup [TV.agg [.s (slT ((leaveT tt ((List.getD l k lopd).who) ((List.getD l k lopd).lock)).1))], tc (i6 ((leaveT tt ((List.getD l k lopd).who) ((List.getD l k lopd).lock)).2))]) [])]) (ks := [1, 5, 7, 9, 11, 12, 13, 14]) (hs := [5, 7, 11, 13]) (cs := [Spec Try.prog 55 [TV.agg [.s (slT tt)], tc (i6 ((List.getD l k lopd).who)), tc (i6 ((List.getD l k lopd).lock))] (ofH []) (AV.tup [TV.agg [.s (slT ((leaveT tt ((List.getD l k lopd).who) ((List.getD l k lopd).lock)).1))], tc (i6 ((leaveT tt ((List.getD l k lopd).who) ((List.getD l k lopd).lock)).2))]) (ofH [])]) (s' := AS.lst 155 [(1, vc (slK l)), (5, vp 5 0), (7, vp 7 0), (9, vc (i6 (k : Int))), (11, vp 11 0), (12, vc (i6 ((leaveT tt ((List.getD l k lopd).who) ((List.getD l k lopd).lock)).2))), (13, vp 13 0), (14, vc (i6 ((leaveT tt ((List.getD l k lopd).who) ((List.getD l k lopd).lock)).2)))] [(5, AObj.row [.s (slT tt)]), (7, AObj.row [.s (slT tt)]), (11, AObj.row [.s (slT ((leaveT tt ((List.getD l k lopd).who) ((List.getD l k lopd).lock)).1))]), (13, AObj.row [.s (slT ((leaveT tt ((List.getD l k lopd).who) ((List.getD l k lopd).lock)).1))])]) (by kernel_rfl) ?_ ?_
            · exact (TRLeave_c tt ((List.getD l k lopd).who) ((List.getD l k lopd).lock) 61 (by first | exact good_mono hT.good (by omega) | exact good_mono (ok_step _ hT).good (by omega) | exact good_mono (ok_ask hT).good (by omega) | exact good_mono (ok_quit _ (ok_ask hT)).good (by omega)) (by omega))
            refine AMx.seq ?_
            refine AMx.seq ?_
            refine AMx.region (ces := []) (ks := [1, 5, 7, 9, 11, 13, 119]) (hs := [5, 7, 11, 13]) (cs := []) (s' := AS.lst 155 [(1, vc (slK l)), (5, vp 5 0), (7, vp 7 0), (9, vc (i6 (k : Int))), (11, vp 11 0), (13, vp 13 0), (119, vc (bo (!decide ((leaveT tt ((List.getD l k lopd).who) ((List.getD l k lopd).lock)).2 = (leaveT tt ((List.getD l k lopd).who) ((List.getD l k lopd).lock)).2))))] [(5, AObj.row [.s (slT tt)]), (7, AObj.row [.s (slT tt)]), (11, AObj.row [.s (slT ((leaveT tt ((List.getD l k lopd).who) ((List.getD l k lopd).lock)).1))]), (13, AObj.row [.s (slT ((leaveT tt ((List.getD l k lopd).who) ((List.getD l k lopd).lock)).1))])]) (by kernel_rfl) ?_ ?_
            · exact trivial
            refine AMx.cond (b := !decide ((leaveT tt ((List.getD l k lopd).who) ((List.getD l k lopd).lock)).2 = (leaveT tt ((List.getD l k lopd).who) ((List.getD l k lopd).lock)).2)) (by kernel_rfl) (fun hc10 => ?_) (fun hc10 => ?_)
            · try simp only [decide_eq_true_eq, decide_eq_false_iff_not, Bool.not_eq_true', Bool.not_eq_false'] at hc10
              refine AMx.seq ?_
              refine AMx.region (ces := []) (ks := [4]) (hs := []) (cs := []) (s' := AS.lst 155 [(4, vc (bo false))] []) (by kernel_rfl) ?_ ?_
              · exact trivial
              refine AMx.ret ?_
              exact RetP.mk (r := vc (bo false)) (by kernel_rfl) (by exfalso; simp at hc10)
            · try simp only [decide_eq_true_eq, decide_eq_false_iff_not, Bool.not_eq_true', Bool.not_eq_false'] at hc10
              refine AMx.skip ?_
              refine AMx.region_draw (ces := []) (ros := [(0, [11]), (1, [13]), (2, [5]), (3, [7])]) (ks := [1, 5, 7, 9]) (hs := [5, 7]) (cs := []) (s' := AS.lst 155 [(1, vc (slK l)), (5, vp 5 0), (7, vp 7 0), (9, vc (i6 (k : Int)))] [(5, AObj.row [.s (slT ((leaveT tt ((List.getD l k lopd).who) ((List.getD l k lopd).lock)).1))]), (7, AObj.row [.s (slT ((leaveT tt ((List.getD l k lopd).who) ((List.getD l k lopd).lock)).1))])]) mixed (by kernel_rfl) ?_ ?_
              · exact trivial
              rw [show (leaveT tt ((List.getD l k lopd).who) ((List.getD l k lopd).lock)).1 = stepT tt (List.getD l k lopd) from (by unfold stepT; first | rw [if_pos (by omega)] | rw [if_neg (by omega), if_pos (by omega)] | rw [if_neg (by omega), if_neg (by omega)])]
              refine AMx.blk ?_
              refine AMx.seq ?_
              refine AMx.region (ces := []) (ks := [1, 5, 7, 9, 21]) (hs := [5, 7]) (cs := []) (s' := AS.lst 155 [(1, vc (slK l)), (5, vp 5 0), (7, vp 7 0), (9, vc (i6 (k : Int))), (21, vc (i6 0))] [(5, AObj.row [.s (slT (stepT tt (List.getD l k lopd)))]), (7, AObj.row [.s (slT (stepT tt (List.getD l k lopd)))])]) (by kernel_rfl) ?_ ?_
              · exact trivial
              refine AMx.block ?_
              refine AMx.ent (s' := AS.lst 155 [(1, vc (slK l)), (5, vp 5 0), (7, vp 7 0), (9, vc (i6 (k : Int))), (21, vc (i6 0))] [(5, AObj.row [.s (slT (stepT tt (List.getD l k lopd)))]), (7, AObj.row [.s (slT (stepT tt (List.getD l k lopd)))])]) (ent_proj [1, 5, 7, 9, 21] [5, 7]) ?_
              refine AMx.loop (fun mm ss => ∃ (q : Nat), (q ≤ k + 1) ∧ mm = k + 1 - q ∧ ss = AS.lst 155 [(1, vc (slK l)), (5, vp 5 0), (7, vp 7 0), (9, vc (i6 (k : Int))), (21, vc (i6 (q : Int)))] [(5, AObj.row [.s (slT (stepT tt (List.getD l k lopd)))]), (7, AObj.row [.s (slT (stepT tt (List.getD l k lopd)))])]) ⟨0, ?_, rfl, ?_⟩ ?_
              · omega
              · rfl
              rintro mm ss ⟨q, hI, rfl, rfl⟩
              refine AMx.seq ?_
              refine AMx.seq ?_
              refine AMx.region (ces := []) (ks := [1, 5, 7, 9, 21, 134]) (hs := [5, 7]) (cs := []) (s' := AS.lst 155 [(1, vc (slK l)), (5, vp 5 0), (7, vp 7 0), (9, vc (i6 (k : Int))), (21, vc (i6 (q : Int))), (134, vc (bo (decide ((q : Int) ≤ (k : Int)))))] [(5, AObj.row [.s (slT (stepT tt (List.getD l k lopd)))]), (7, AObj.row [.s (slT (stepT tt (List.getD l k lopd)))])]) (by kernel_rfl) ?_ ?_
              · exact trivial
              refine AMx.cond (b := decide ((q : Int) ≤ (k : Int))) (by kernel_rfl) (fun hc11 => ?_) (fun hc11 => ?_)
              · try simp only [decide_eq_true_eq, decide_eq_false_iff_not] at hc11
                refine AMx.skip ?_
                refine AMx.seq ?_
                refine AMx.block ?_
                refine AMx.seq ?_
                refine AMx.region_draw (ces := [(7, CE.call [] [] (vc (bo true)) [])]) (ros := [(0, [5]), (1, [7])]) (ks := [1, 5, 7, 9, 21, 145]) (hs := [5, 7]) (cs := [(0 : Int) ≤ (q : Int), (q : Int) < List.length l, Spec Try.prog 60 [TV.agg [.s (slT (stepT tt (List.getD l k lopd)))], TV.agg [.s (slT (stepT tt (List.getD l k lopd)))], tc (i6 ((List.getD l q lopd).who))] (ofH []) (vc (bo true)) (ofH [])]) (s' := AS.lst 155 [(1, vc (slK l)), (5, vp 5 0), (7, vp 7 0), (9, vc (i6 (k : Int))), (21, vc (i6 (q : Int))), (145, vc (bo false))] [(5, AObj.row [.s (slT (stepT tt (List.getD l k lopd)))]), (7, AObj.row [.s (slT (stepT tt (List.getD l k lopd)))])]) mixed (by kernel_rfl) ?_ ?_
                · exact ⟨(show (0 : Int) ≤ (q : Int) from (by omega)), (show (q : Int) < List.length l from (by omega)), (like_c (stepT tt (List.getD l k lopd)) ((List.getD l q lopd).who) 61 (by first | exact good_mono hT.good (by omega) | exact good_mono (ok_step _ hT).good (by omega) | exact good_mono (ok_ask hT).good (by omega) | exact good_mono (ok_quit _ (ok_ask hT)).good (by omega)) (by omega))⟩
                refine AMx.cond (b := false) (by kernel_rfl) (fun hc12 => ?_) (fun hc12 => ?_)
                · skip
                  cases hc12
                · skip
                  refine AMx.skip ?_
                  refine AMx.blk ?_
                  refine AMx.region (ces := []) (ks := [1, 5, 7, 9, 21]) (hs := [5, 7]) (cs := [InR .i64 ((q : Int) + 1)]) (s' := AS.lst 155 [(1, vc (slK l)), (5, vp 5 0), (7, vp 7 0), (9, vc (i6 (k : Int))), (21, vc (i6 ((q : Int) + 1)))] [(5, AObj.row [.s (slT (stepT tt (List.getD l k lopd)))]), (7, AObj.row [.s (slT (stepT tt (List.getD l k lopd)))])]) (by kernel_rfl) ?_ ?_
                  · exact (show InR .i64 ((q : Int) + 1) from (inR64 (by omega) (by omega)))
                  refine AMx.ent_inv (s' := AS.lst 155 [(1, vc (slK l)), (5, vp 5 0), (7, vp 7 0), (9, vc (i6 (k : Int))), (21, vc (i6 ((q : Int) + 1)))] [(5, AObj.row [.s (slT (stepT tt (List.getD l k lopd)))]), (7, AObj.row [.s (slT (stepT tt (List.getD l k lopd)))])]) (ent_proj [1, 5, 7, 9, 21] [5, 7]) ?_
                  refine AMx.inv ⟨_, ?_, q + 1, ?_, rfl, ?_⟩
                  rotate_left
                  · omega
                  · rfl
                  · omega
              · try simp only [decide_eq_true_eq, decide_eq_false_iff_not] at hc11
                refine AMx.exit ?_
                refine AMx.code_exit ?_
                refine AMx.inv_exit ?_
                refine AMx.blk_exit ?_
                refine AMx.blk ?_
                refine AMx.region (ces := []) (ks := [1, 5, 7, 9]) (hs := [5, 7]) (cs := [InR .i64 ((k : Int) + 1)]) (s' := AS.lst 155 [(1, vc (slK l)), (5, vp 5 0), (7, vp 7 0), (9, vc (i6 ((k : Int) + 1)))] [(5, AObj.row [.s (slT (stepT tt (List.getD l k lopd)))]), (7, AObj.row [.s (slT (stepT tt (List.getD l k lopd)))])]) (by kernel_rfl) ?_ ?_
                · exact (show InR .i64 ((k : Int) + 1) from (inR64 (by omega) (by omega)))
                refine AMx.ent_inv (s' := AS.lst 155 [(1, vc (slK l)), (5, vp 5 0), (7, vp 7 0), (9, vc (i6 ((k : Int) + 1)))] [(5, AObj.row [.s (slT (stepT tt (List.getD l k lopd)))]), (7, AObj.row [.s (slT (stepT tt (List.getD l k lopd)))])]) (ent_proj [1, 5, 7, 9] [5, 7]) ?_
                refine AMx.inv ⟨_, ?_, k + 1, stepT tt (List.getD l k lopd), ?_, rfl, ?_⟩
                rotate_left
                · exact ⟨by omega, by rw [whos_step l k (by omega)]; exact ok_step _ hT⟩
                · rfl
                · omega
          · try simp only [decide_eq_true_eq, decide_eq_false_iff_not] at hc9
            refine AMx.seq ?_
            refine AMx.region (ces := []) (ks := [1, 5, 7, 9, 10, 122]) (hs := [5, 7, 10]) (cs := []) (s' := AS.lst 155 [(1, vc (slK l)), (5, vp 5 0), (7, vp 7 0), (9, vc (i6 (k : Int))), (10, vp 10 0), (122, vc (bo (decide (Int.tmod ((List.getD l k lopd).kind) 7 = 6))))] [(5, AObj.row [.s (slT tt)]), (7, AObj.row [.s (slT tt)]), (10, AObj.row [.s (u8 ((List.getD l k lopd).kind)), .s (i6 ((List.getD l k lopd).who)), .s (i6 ((List.getD l k lopd).lock)), .s (u8 ((List.getD l k lopd).mode))])]) (by kernel_rfl) ?_ ?_
            · exact trivial
            refine AMx.cond (b := decide (Int.tmod ((List.getD l k lopd).kind) 7 = 6)) (by kernel_rfl) (fun hc13 => ?_) (fun hc13 => ?_)
            · try simp only [decide_eq_true_eq, decide_eq_false_iff_not] at hc13
              refine AMx.region_draw (ces := [(3, CE.call [] [] (AV.t (TV.agg [.s (slT (quitT ((List.getD l k lopd).who) (List.length tt) tt))])) []), (7, CE.call [] [] (AV.t (TV.agg [.s (slT (quitT ((List.getD l k lopd).who) (List.length tt) tt))])) [])]) (ros := [(0, [5]), (2, [10]), (4, [7]), (6, [10]), (8, [5]), (9, [7])]) (ks := [1, 5, 7, 9]) (hs := [5, 7]) (cs := [Spec Try.prog 56 [TV.agg [.s (slT tt)], tc (i6 ((List.getD l k lopd).who))] (ofH []) (AV.t (TV.agg [.s (slT (quitT ((List.getD l k lopd).who) (List.length tt) tt))])) (ofH []), Spec Try.prog 57 [TV.agg [.s (slT tt)], tc (i6 ((List.getD l k lopd).who))] (ofH []) (AV.t (TV.agg [.s (slT (quitT ((List.getD l k lopd).who) (List.length tt) tt))])) (ofH [])]) (s' := AS.lst 155 [(1, vc (slK l)), (5, vp 5 0), (7, vp 7 0), (9, vc (i6 (k : Int)))] [(5, AObj.row [.s (slT (quitT ((List.getD l k lopd).who) (List.length tt) tt))]), (7, AObj.row [.s (slT (quitT ((List.getD l k lopd).who) (List.length tt) tt))])]) mixed (by kernel_rfl) ?_ ?_
              · exact ⟨(TQuit_c tt ((List.getD l k lopd).who) 61 (by first | exact good_mono hT.good (by omega) | exact good_mono (ok_step _ hT).good (by omega) | exact good_mono (ok_ask hT).good (by omega) | exact good_mono (ok_quit _ (ok_ask hT)).good (by omega)) (by omega)), (TRQuit_c tt ((List.getD l k lopd).who) 61 (by first | exact good_mono hT.good (by omega) | exact good_mono (ok_step _ hT).good (by omega) | exact good_mono (ok_ask hT).good (by omega) | exact good_mono (ok_quit _ (ok_ask hT)).good (by omega)) (by omega))⟩
              rw [show quitT ((List.getD l k lopd).who) (List.length tt) tt = stepT tt (List.getD l k lopd) from (by unfold stepT; first | rw [if_pos (by omega)] | rw [if_neg (by omega), if_pos (by omega)] | rw [if_neg (by omega), if_neg (by omega)])]
              refine AMx.blk ?_
              refine AMx.seq ?_
              refine AMx.region (ces := []) (ks := [1, 5, 7, 9, 21]) (hs := [5, 7]) (cs := []) (s' := AS.lst 155 [(1, vc (slK l)), (5, vp 5 0), (7, vp 7 0), (9, vc (i6 (k : Int))), (21, vc (i6 0))] [(5, AObj.row [.s (slT (stepT tt (List.getD l k lopd)))]), (7, AObj.row [.s (slT (stepT tt (List.getD l k lopd)))])]) (by kernel_rfl) ?_ ?_
              · exact trivial
              refine AMx.block ?_
              refine AMx.ent (s' := AS.lst 155 [(1, vc (slK l)), (5, vp 5 0), (7, vp 7 0), (9, vc (i6 (k : Int))), (21, vc (i6 0))] [(5, AObj.row [.s (slT (stepT tt (List.getD l k lopd)))]), (7, AObj.row [.s (slT (stepT tt (List.getD l k lopd)))])]) (ent_proj [1, 5, 7, 9, 21] [5, 7]) ?_
              refine AMx.loop (fun mm ss => ∃ (q : Nat), (q ≤ k + 1) ∧ mm = k + 1 - q ∧ ss = AS.lst 155 [(1, vc (slK l)), (5, vp 5 0), (7, vp 7 0), (9, vc (i6 (k : Int))), (21, vc (i6 (q : Int)))] [(5, AObj.row [.s (slT (stepT tt (List.getD l k lopd)))]), (7, AObj.row [.s (slT (stepT tt (List.getD l k lopd)))])]) ⟨0, ?_, rfl, ?_⟩ ?_
              · omega
              · rfl
              rintro mm ss ⟨q, hI, rfl, rfl⟩
              refine AMx.seq ?_
              refine AMx.seq ?_
              refine AMx.region (ces := []) (ks := [1, 5, 7, 9, 21, 134]) (hs := [5, 7]) (cs := []) (s' := AS.lst 155 [(1, vc (slK l)), (5, vp 5 0), (7, vp 7 0), (9, vc (i6 (k : Int))), (21, vc (i6 (q : Int))), (134, vc (bo (decide ((q : Int) ≤ (k : Int)))))] [(5, AObj.row [.s (slT (stepT tt (List.getD l k lopd)))]), (7, AObj.row [.s (slT (stepT tt (List.getD l k lopd)))])]) (by kernel_rfl) ?_ ?_
              · exact trivial
              refine AMx.cond (b := decide ((q : Int) ≤ (k : Int))) (by kernel_rfl) (fun hc14 => ?_) (fun hc14 => ?_)
              · try simp only [decide_eq_true_eq, decide_eq_false_iff_not] at hc14
                refine AMx.skip ?_
                refine AMx.seq ?_
                refine AMx.block ?_
                refine AMx.seq ?_
                refine AMx.region_draw (ces := [(7, CE.call [] [] (vc (bo true)) [])]) (ros := [(0, [5]), (1, [7])]) (ks := [1, 5, 7, 9, 21, 145]) (hs := [5, 7]) (cs := [(0 : Int) ≤ (q : Int), (q : Int) < List.length l, Spec Try.prog 60 [TV.agg [.s (slT (stepT tt (List.getD l k lopd)))], TV.agg [.s (slT (stepT tt (List.getD l k lopd)))], tc (i6 ((List.getD l q lopd).who))] (ofH []) (vc (bo true)) (ofH [])]) (s' := AS.lst 155 [(1, vc (slK l)), (5, vp 5 0), (7, vp 7 0), (9, vc (i6 (k : Int))), (21, vc (i6 (q : Int))), (145, vc (bo false))] [(5, AObj.row [.s (slT (stepT tt (List.getD l k lopd)))]), (7, AObj.row [.s (slT (stepT tt (List.getD l k lopd)))])]) mixed (by kernel_rfl) ?_ ?_
                · exact ⟨(show (0 : Int) ≤ (q : Int) from (by omega)), (show (q : Int) < List.length l from (by omega)), (like_c (stepT tt (List.getD l k lopd)) ((List.getD l q lopd).who) 61 (by first | exact good_mono hT.good (by omega) | exact good_mono (ok_step _ hT).good (by omega) | exact good_mono (ok_ask hT).good (by omega) | exact good_mono (ok_quit _ (ok_ask hT)).good (by omega)) (by omega))⟩
                refine AMx.cond (b := false) (by kernel_rfl) (fun hc15 => ?_) (fun hc15 => ?_)
                · skip
                  cases hc15
                · skip
                  refine AMx.skip ?_
                  refine AMx.blk ?_
                  refine AMx.region (ces := []) (ks := [1, 5, 7, 9, 21]) (hs := [5, 7]) (cs := [InR .i64 ((q : Int) + 1)]) (s' := AS.lst 155 [(1, vc (slK l)), (5, vp 5 0), (7, vp 7 0), (9, vc (i6 (k : Int))), (21, vc (i6 ((q : Int) + 1)))] [(5, AObj.row [.s (slT (stepT tt (List.getD l k lopd)))]), (7, AObj.row [.s (slT (stepT tt (List.getD l k lopd)))])]) (by kernel_rfl) ?_ ?_
                  · exact (show InR .i64 ((q : Int) + 1) from (inR64 (by omega) (by omega)))
                  refine AMx.ent_inv (s' := AS.lst 155 [(1, vc (slK l)), (5, vp 5 0), (7, vp 7 0), (9, vc (i6 (k : Int))), (21, vc (i6 ((q : Int) + 1)))] [(5, AObj.row [.s (slT (stepT tt (List.getD l k lopd)))]), (7, AObj.row [.s (slT (stepT tt (List.getD l k lopd)))])]) (ent_proj [1, 5, 7, 9, 21] [5, 7]) ?_
                  refine AMx.inv ⟨_, ?_, q + 1, ?_, rfl, ?_⟩
                  rotate_left
                  · omega
                  · rfl
                  · omega
              · try simp only [decide_eq_true_eq, decide_eq_false_iff_not] at hc14
                refine AMx.exit ?_
                refine AMx.code_exit ?_
                refine AMx.inv_exit ?_
                refine AMx.blk_exit ?_
                refine AMx.blk ?_
                refine AMx.region (ces := []) (ks := [1, 5, 7, 9]) (hs := [5, 7]) (cs := [InR .i64 ((k : Int) + 1)]) (s' := AS.lst 155 [(1, vc (slK l)), (5, vp 5 0), (7, vp 7 0), (9, vc (i6 ((k : Int) + 1)))] [(5, AObj.row [.s (slT (stepT tt (List.getD l k lopd)))]), (7, AObj.row [.s (slT (stepT tt (List.getD l k lopd)))])]) (by kernel_rfl) ?_ ?_
                · exact (show InR .i64 ((k : Int) + 1) from (inR64 (by omega) (by omega)))
                refine AMx.ent_inv (s' := AS.lst 155 [(1, vc (slK l)), (5, vp 5 0), (7, vp 7 0), (9, vc (i6 ((k : Int) + 1)))] [(5, AObj.row [.s (slT (stepT tt (List.getD l k lopd)))]), (7, AObj.row [.s (slT (stepT tt (List.getD l k lopd)))])]) (ent_proj [1, 5, 7, 9] [5, 7]) ?_
                refine AMx.inv ⟨_, ?_, k + 1, stepT tt (List.getD l k lopd), ?_, rfl, ?_⟩
                rotate_left
                · exact ⟨by omega, by rw [whos_step l k (by omega)]; exact ok_step _ hT⟩
                · rfl
                · omega
            · try simp only [decide_eq_true_eq, decide_eq_false_iff_not] at hc13
              refine AMx.seq ?_
              refine AMx.region (ces := [(7, CE.call [] [] (AV.tup [TV.agg [.s (slT ((askT tt ((List.getD l k lopd).who) ((List.getD l k lopd).lock) ((List.getD l k lopd).mode)).1))], tc (bo ((askT tt ((List.getD l k lopd).who) ((List.getD l k lopd).lock) ((List.getD l k lopd).mode)).2.1)), tc (i6 ((askT tt ((List.getD l k lopd).who) ((List.getD l k lopd).lock) ((List.getD l k lopd).mode)).2.2))]) [])]) (ks := [1, 5, 7, 9, 10, 15, 16, 17]) (hs := [5, 7, 10, 15]) (cs := [Spec Try.prog 58 [TV.agg [.s (slT tt)], tc (i6 ((List.getD l k lopd).who)), tc (i6 ((List.getD l k lopd).lock)), tc (u8 ((List.getD l k lopd).mode))] (ofH []) (AV.tup [TV.agg [.s (slT ((askT tt ((List.getD l k lopd).who) ((List.getD l k lopd).lock) ((List.getD l k lopd).mode)).1))], tc (bo ((askT tt ((List.getD l k lopd).who) ((List.getD l k lopd).lock) ((List.getD l k lopd).mode)).2.1)), tc (i6 ((askT tt ((List.getD l k lopd).who) ((List.getD l k lopd).lock) ((List.getD l k lopd).mode)).2.2))]) (ofH [])]) (s' := AS.lst 155 [(1, vc (slK l)), (5, vp 5 0), (7, vp 7 0), (9, vc (i6 (k : Int))), (10, vp 10 0), (15, vp 15 0), (16, vc (bo ((askT tt ((List.getD l k lopd).who) ((List.getD l k lopd).lock) ((List.getD l k lopd).mode)).2.1))), (17, vc (i6 ((askT tt ((List.getD l k lopd).who) ((List.getD l k lopd).lock) ((List.getD l k lopd).mode)).2.2)))] [(5, AObj.row [.s (slT tt)]), (7, AObj.row [.s (slT tt)]), (10, AObj.row [.s (u8 ((List.getD l k lopd).kind)), .s (i6 ((List.getD l k lopd).who)), .s (i6 ((List.getD l k lopd).lock)), .s (u8 ((List.getD l k lopd).mode))]), (15, AObj.row [.s (slT ((askT tt ((List.getD l k lopd).who) ((List.getD l k lopd).lock) ((List.getD l k lopd).mode)).1))])]) (by kernel_rfl) ?_ ?_
              · exact (TAsk_c tt ((List.getD l k lopd).who) ((List.getD l k lopd).lock) ((List.getD l k lopd).mode) 61 (by first | exact good_mono hT.good (by omega) | exact good_mono (ok_step _ hT).good (by omega) | exact good_mono (ok_ask hT).good (by omega) | exact good_mono (ok_quit _ (ok_ask hT)).good (by omega)) (by omega))
              refine AMx.seq ?_
              refine AMx.region (ces := [(7, CE.call [] [] (AV.tup [TV.agg [.s (slT ((askT tt ((List.getD l k lopd).who) ((List.getD l k lopd).lock) ((List.getD l k lopd).mode)).1))], tc (bo ((askT tt ((List.getD l k lopd).who) ((List.getD l k lopd).lock) ((List.getD l k lopd).mode)).2.1)), tc (i6 ((askT tt ((List.getD l k lopd).who) ((List.getD l k lopd).lock) ((List.getD l k lopd).mode)).2.2))]) [])]) (ks := [1, 5, 7, 9, 15, 16, 17, 18, 19, 20]) (hs := [5, 7, 15, 18]) (cs := [Spec Try.prog 59 [TV.agg [.s (slT tt)], tc (i6 ((List.getD l k lopd).who)), tc (i6 ((List.getD l k lopd).lock)), tc (u8 ((List.getD l k lopd).mode))] (ofH []) (AV.tup [TV.agg [.s (slT ((askT tt ((List.getD l k lopd).who) ((List.getD l k lopd).lock) ((List.getD l k lopd).mode)).1))], tc (bo ((askT tt ((List.getD l k lopd).who) ((List.getD l k lopd).lock) ((List.getD l k lopd).mode)).2.1)), tc (i6 ((askT tt ((List.getD l k lopd).who) ((List.getD l k lopd).lock) ((List.getD l k lopd).mode)).2.2))]) (ofH [])]) (s' := AS.lst 155 [(1, vc (slK l)), (5, vp 5 0), (7, vp 7 0), (9, vc (i6 (k : Int))), (15, vp 15 0), (16, vc (bo ((askT tt ((List.getD l k lopd).who) ((List.getD l k lopd).lock) ((List.getD l k lopd).mode)).2.1))), (17, vc (i6 ((askT tt ((List.getD l k lopd).who) ((List.getD l k lopd).lock) ((List.getD l k lopd).mode)).2.2))), (18, vp 18 0), (19, vc (bo ((askT tt ((List.getD l k lopd).who) ((List.getD l k lopd).lock) ((List.getD l k lopd).mode)).2.1))), (20, vc (i6 ((askT tt ((List.getD l k lopd).who) ((List.getD l k lopd).lock) ((List.getD l k lopd).mode)).2.2)))] [(5, AObj.row [.s (slT tt)]), (7, AObj.row [.s (slT tt)]), (15, AObj.row [.s (slT ((askT tt ((List.getD l k lopd).who) ((List.getD l k lopd).lock) ((List.getD l k lopd).mode)).1))]), (18, AObj.row [.s (slT ((askT tt ((List.getD l k lopd).who) ((List.getD l k lopd).lock) ((List.getD l k lopd).mode)).1))])]) (by kernel_rfl) ?_ ?_
              · exact (TRAsk_c tt ((List.getD l k lopd).who) ((List.getD l k lopd).lock) ((List.getD l k lopd).mode) 61 (by first | exact good_mono hT.good (by omega) | exact good_mono (ok_step _ hT).good (by omega) | exact good_mono (ok_ask hT).good (by omega) | exact good_mono (ok_quit _ (ok_ask hT)).good (by omega)) (by omega))
              refine AMx.seq ?_
              refine AMx.seq ?_
              refine AMx.region (ces := []) (ks := [1, 5, 7, 9, 15, 18, 93]) (hs := [5, 7, 15, 18]) (cs := [((!(((askT tt ((List.getD l k lopd).who) ((List.getD l k lopd).lock) ((List.getD l k lopd).mode)).2.1) == ((askT tt ((List.getD l k lopd).who) ((List.getD l k lopd).lock) ((List.getD l k lopd).mode)).2.1))) = false) → allP [], ((!(((askT tt ((List.getD l k lopd).who) ((List.getD l k lopd).lock) ((List.getD l k lopd).mode)).2.1) == ((askT tt ((List.getD l k lopd).who) ((List.getD l k lopd).lock) ((List.getD l k lopd).mode)).2.1))) = false) → allP [], ((!(((askT tt ((List.getD l k lopd).who) ((List.getD l k lopd).lock) ((List.getD l k lopd).mode)).2.1) == ((askT tt ((List.getD l k lopd).who) ((List.getD l k lopd).lock) ((List.getD l k lopd).mode)).2.1))) = false) → allP [(!(((askT tt ((List.getD l k lopd).who) ((List.getD l k lopd).lock) ((List.getD l k lopd).mode)).2.1) == ((askT tt ((List.getD l k lopd).who) ((List.getD l k lopd).lock) ((List.getD l k lopd).mode)).2.1))) = false, (!(((askT tt ((List.getD l k lopd).who) ((List.getD l k lopd).lock) ((List.getD l k lopd).mode)).2.1) == ((askT tt ((List.getD l k lopd).who) ((List.getD l k lopd).lock) ((List.getD l k lopd).mode)).2.1))) = false], (!(((askT tt ((List.getD l k lopd).who) ((List.getD l k lopd).lock) ((List.getD l k lopd).mode)).2.1) == ((askT tt ((List.getD l k lopd).who) ((List.getD l k lopd).lock) ((List.getD l k lopd).mode)).2.1))) = false → allP [(!(((askT tt ((List.getD l k lopd).who) ((List.getD l k lopd).lock) ((List.getD l k lopd).mode)).2.1) == ((askT tt ((List.getD l k lopd).who) ((List.getD l k lopd).lock) ((List.getD l k lopd).mode)).2.1))) = false]]) (s' := AS.lst 155 [(1, vc (slK l)), (5, vp 5 0), (7, vp 7 0), (9, vc (i6 (k : Int))), (15, vp 15 0), (18, vp 18 0), (93, vc (bo ((!(((askT tt ((List.getD l k lopd).who) ((List.getD l k lopd).lock) ((List.getD l k lopd).mode)).2.1) == ((askT tt ((List.getD l k lopd).who) ((List.getD l k lopd).lock) ((List.getD l k lopd).mode)).2.1))) || (!decide ((askT tt ((List.getD l k lopd).who) ((List.getD l k lopd).lock) ((List.getD l k lopd).mode)).2.2 = (askT tt ((List.getD l k lopd).who) ((List.getD l k lopd).lock) ((List.getD l k lopd).mode)).2.2)))))] [(5, AObj.row [.s (slT tt)]), (7, AObj.row [.s (slT tt)]), (15, AObj.row [.s (slT ((askT tt ((List.getD l k lopd).who) ((List.getD l k lopd).lock) ((List.getD l k lopd).mode)).1))]), (18, AObj.row [.s (slT ((askT tt ((List.getD l k lopd).who) ((List.getD l k lopd).lock) ((List.getD l k lopd).mode)).1))])]) (by kernel_rfl) ?_ ?_
              · exact ⟨(fun _ => trivial), (fun _ => trivial), (fun hp => ⟨hp, hp⟩), (fun hp2 => (by first | exact hp2 | exact ⟨hp, hp2⟩))⟩
              refine AMx.cond (b := ((!(((askT tt ((List.getD l k lopd).who) ((List.getD l k lopd).lock) ((List.getD l k lopd).mode)).2.1) == ((askT tt ((List.getD l k lopd).who) ((List.getD l k lopd).lock) ((List.getD l k lopd).mode)).2.1))) || (!decide ((askT tt ((List.getD l k lopd).who) ((List.getD l k lopd).lock) ((List.getD l k lopd).mode)).2.2 = (askT tt ((List.getD l k lopd).who) ((List.getD l k lopd).lock) ((List.getD l k lopd).mode)).2.2)))) (by kernel_rfl) (fun hc16 => ?_) (fun hc16 => ?_)
              · try simp only [decide_eq_true_eq, decide_eq_false_iff_not, Bool.or_eq_true, Bool.or_eq_false_iff, Bool.not_eq_true', Bool.not_eq_false'] at hc16
                refine AMx.seq ?_
                refine AMx.region (ces := []) (ks := [4]) (hs := []) (cs := []) (s' := AS.lst 155 [(4, vc (bo false))] []) (by kernel_rfl) ?_ ?_
                · exact trivial
                refine AMx.ret ?_
                exact RetP.mk (r := vc (bo false)) (by kernel_rfl) (by exfalso; simp at hc16)
              · try simp only [decide_eq_true_eq, decide_eq_false_iff_not, Bool.or_eq_true, Bool.or_eq_false_iff, Bool.not_eq_true', Bool.not_eq_false'] at hc16
                refine AMx.skip ?_
                refine AMx.region_draw (ces := []) (ros := [(0, [15]), (1, [18]), (2, [5]), (3, [7])]) (ks := [1, 5, 7, 9]) (hs := [5, 7]) (cs := []) (s' := AS.lst 155 [(1, vc (slK l)), (5, vp 5 0), (7, vp 7 0), (9, vc (i6 (k : Int)))] [(5, AObj.row [.s (slT ((askT tt ((List.getD l k lopd).who) ((List.getD l k lopd).lock) ((List.getD l k lopd).mode)).1))]), (7, AObj.row [.s (slT ((askT tt ((List.getD l k lopd).who) ((List.getD l k lopd).lock) ((List.getD l k lopd).mode)).1))])]) mixed (by kernel_rfl) ?_ ?_
                · exact trivial
                rw [show (askT tt ((List.getD l k lopd).who) ((List.getD l k lopd).lock) ((List.getD l k lopd).mode)).1 = stepT tt (List.getD l k lopd) from (by unfold stepT; first | rw [if_pos (by omega)] | rw [if_neg (by omega), if_pos (by omega)] | rw [if_neg (by omega), if_neg (by omega)])]
                refine AMx.blk ?_
                refine AMx.seq ?_
                refine AMx.region (ces := []) (ks := [1, 5, 7, 9, 21]) (hs := [5, 7]) (cs := []) (s' := AS.lst 155 [(1, vc (slK l)), (5, vp 5 0), (7, vp 7 0), (9, vc (i6 (k : Int))), (21, vc (i6 0))] [(5, AObj.row [.s (slT (stepT tt (List.getD l k lopd)))]), (7, AObj.row [.s (slT (stepT tt (List.getD l k lopd)))])]) (by kernel_rfl) ?_ ?_
                · exact trivial
                refine AMx.block ?_
                refine AMx.ent (s' := AS.lst 155 [(1, vc (slK l)), (5, vp 5 0), (7, vp 7 0), (9, vc (i6 (k : Int))), (21, vc (i6 0))] [(5, AObj.row [.s (slT (stepT tt (List.getD l k lopd)))]), (7, AObj.row [.s (slT (stepT tt (List.getD l k lopd)))])]) (ent_proj [1, 5, 7, 9, 21] [5, 7]) ?_
                refine AMx.loop (fun mm ss => ∃ (q : Nat), (q ≤ k + 1) ∧ mm = k + 1 - q ∧ ss = AS.lst 155 [(1, vc (slK l)), (5, vp 5 0), (7, vp 7 0), (9, vc (i6 (k : Int))), (21, vc (i6 (q : Int)))] [(5, AObj.row [.s (slT (stepT tt (List.getD l k lopd)))]), (7, AObj.row [.s (slT (stepT tt (List.getD l k lopd)))])]) ⟨0, ?_, rfl, ?_⟩ ?_
                · omega
                · rfl
                rintro mm ss ⟨q, hI, rfl, rfl⟩
                refine AMx.seq ?_
                refine AMx.seq ?_
                refine AMx.region (ces := []) (ks := [1, 5, 7, 9, 21, 134]) (hs := [5, 7]) (cs := []) (s' := AS.lst 155 [(1, vc (slK l)), (5, vp 5 0), (7, vp 7 0), (9, vc (i6 (k : Int))), (21, vc (i6 (q : Int))), (134, vc (bo (decide ((q : Int) ≤ (k : Int)))))] [(5, AObj.row [.s (slT (stepT tt (List.getD l k lopd)))]), (7, AObj.row [.s (slT (stepT tt (List.getD l k lopd)))])]) (by kernel_rfl) ?_ ?_
                · exact trivial
                refine AMx.cond (b := decide ((q : Int) ≤ (k : Int))) (by kernel_rfl) (fun hc17 => ?_) (fun hc17 => ?_)
                · try simp only [decide_eq_true_eq, decide_eq_false_iff_not] at hc17
                  refine AMx.skip ?_
                  refine AMx.seq ?_
                  refine AMx.block ?_
                  refine AMx.seq ?_
                  refine AMx.region_draw (ces := [(7, CE.call [] [] (vc (bo true)) [])]) (ros := [(0, [5]), (1, [7])]) (ks := [1, 5, 7, 9, 21, 145]) (hs := [5, 7]) (cs := [(0 : Int) ≤ (q : Int), (q : Int) < List.length l, Spec Try.prog 60 [TV.agg [.s (slT (stepT tt (List.getD l k lopd)))], TV.agg [.s (slT (stepT tt (List.getD l k lopd)))], tc (i6 ((List.getD l q lopd).who))] (ofH []) (vc (bo true)) (ofH [])]) (s' := AS.lst 155 [(1, vc (slK l)), (5, vp 5 0), (7, vp 7 0), (9, vc (i6 (k : Int))), (21, vc (i6 (q : Int))), (145, vc (bo false))] [(5, AObj.row [.s (slT (stepT tt (List.getD l k lopd)))]), (7, AObj.row [.s (slT (stepT tt (List.getD l k lopd)))])]) mixed (by kernel_rfl) ?_ ?_
                  · exact ⟨(show (0 : Int) ≤ (q : Int) from (by omega)), (show (q : Int) < List.length l from (by omega)), (like_c (stepT tt (List.getD l k lopd)) ((List.getD l q lopd).who) 61 (by first | exact good_mono hT.good (by omega) | exact good_mono (ok_step _ hT).good (by omega) | exact good_mono (ok_ask hT).good (by omega) | exact good_mono (ok_quit _ (ok_ask hT)).good (by omega)) (by omega))⟩
                  refine AMx.cond (b := false) (by kernel_rfl) (fun hc18 => ?_) (fun hc18 => ?_)
                  · skip
                    cases hc18
                  · skip
                    refine AMx.skip ?_
                    refine AMx.blk ?_
                    refine AMx.region (ces := []) (ks := [1, 5, 7, 9, 21]) (hs := [5, 7]) (cs := [InR .i64 ((q : Int) + 1)]) (s' := AS.lst 155 [(1, vc (slK l)), (5, vp 5 0), (7, vp 7 0), (9, vc (i6 (k : Int))), (21, vc (i6 ((q : Int) + 1)))] [(5, AObj.row [.s (slT (stepT tt (List.getD l k lopd)))]), (7, AObj.row [.s (slT (stepT tt (List.getD l k lopd)))])]) (by kernel_rfl) ?_ ?_
                    · exact (show InR .i64 ((q : Int) + 1) from (inR64 (by omega) (by omega)))
                    refine AMx.ent_inv (s' := AS.lst 155 [(1, vc (slK l)), (5, vp 5 0), (7, vp 7 0), (9, vc (i6 (k : Int))), (21, vc (i6 ((q : Int) + 1)))] [(5, AObj.row [.s (slT (stepT tt (List.getD l k lopd)))]), (7, AObj.row [.s (slT (stepT tt (List.getD l k lopd)))])]) (ent_proj [1, 5, 7, 9, 21] [5, 7]) ?_
                    refine AMx.inv ⟨_, ?_, q + 1, ?_, rfl, ?_⟩
                    rotate_left
                    · omega
                    · rfl
                    · omega
                · try simp only [decide_eq_true_eq, decide_eq_false_iff_not] at hc17
                  refine AMx.exit ?_
                  refine AMx.code_exit ?_
                  refine AMx.inv_exit ?_
                  refine AMx.blk_exit ?_
                  refine AMx.blk ?_
                  refine AMx.region (ces := []) (ks := [1, 5, 7, 9]) (hs := [5, 7]) (cs := [InR .i64 ((k : Int) + 1)]) (s' := AS.lst 155 [(1, vc (slK l)), (5, vp 5 0), (7, vp 7 0), (9, vc (i6 ((k : Int) + 1)))] [(5, AObj.row [.s (slT (stepT tt (List.getD l k lopd)))]), (7, AObj.row [.s (slT (stepT tt (List.getD l k lopd)))])]) (by kernel_rfl) ?_ ?_
                  · exact (show InR .i64 ((k : Int) + 1) from (inR64 (by omega) (by omega)))
                  refine AMx.ent_inv (s' := AS.lst 155 [(1, vc (slK l)), (5, vp 5 0), (7, vp 7 0), (9, vc (i6 ((k : Int) + 1)))] [(5, AObj.row [.s (slT (stepT tt (List.getD l k lopd)))]), (7, AObj.row [.s (slT (stepT tt (List.getD l k lopd)))])]) (ent_proj [1, 5, 7, 9] [5, 7]) ?_
                  refine AMx.inv ⟨_, ?_, k + 1, stepT tt (List.getD l k lopd), ?_, rfl, ?_⟩
                  rotate_left
                  · exact ⟨by omega, by rw [whos_step l k (by omega)]; exact ok_step _ hT⟩
                  · rfl
                  · omega
      · try simp only [decide_eq_true_eq, decide_eq_false_iff_not] at hc3
        refine AMx.exit ?_
        refine AMx.code_exit ?_
        refine AMx.inv_exit ?_
        refine AMx.blk_exit ?_
        refine AMx.seq ?_
        refine AMx.region_draw (ces := [(1, CE.call [] [] (vc (slI (blockedS tt))) []), (4, CE.call [] [] (vc (slI (blockedS tt))) []), (5, CE.call [] [] (vc (bo (decide (blockedS tt = blockedS tt)))) []), (7, CE.call [] [] (vc (bo true)) [])]) (ros := [(0, [5]), (2, [7])]) (ks := [4]) (hs := []) (cs := [Spec Try.prog 61 [TV.agg [.s (slT tt)]] (ofH []) (vc (slI (blockedS tt))) (ofH []), Spec Try.prog 62 [TV.agg [.s (slT tt)], tc (slK l)] (ofH []) (vc (slI (blockedS tt))) (ofH []), Spec Try.prog 31 [tc (slI (blockedS tt)), tc (slI (blockedS tt))] (ofH []) (vc (bo (decide (blockedS tt = blockedS tt)))) (ofH []), ((decide (blockedS tt = blockedS tt)) = true) → allP [Spec Try.prog 50 [] (ofH []) (vc (bo true)) (ofH [])], (decide (blockedS tt = blockedS tt)) = true → allP [(decide (blockedS tt = blockedS tt)) = true]]) (s' := AS.lst 155 [(4, vc (bo ((decide (blockedS tt = blockedS tt)) && true)))] []) mixed (by kernel_rfl) ?_ ?_
        · exact ⟨(Blocked_c tt 61 (by first | exact good_mono hT.good (by omega) | exact good_mono (ok_step _ hT).good (by omega) | exact good_mono (ok_ask hT).good (by omega) | exact good_mono (ok_quit _ (ok_ask hT)).good (by omega)) (by omega)), (blocked_c tt l 61 (by first | exact good_mono hT.good (by omega) | exact good_mono (ok_step _ hT).good (by omega) | exact good_mono (ok_ask hT).good (by omega) | exact good_mono (ok_quit _ (ok_ask hT)).good (by omega)) (by omega) (by omega) (fun w hw => by have hq := ok_who hT hw; rwa [List.take_of_length_le (by omega)] at hq)), (SameInts_c (blockedS tt) (blockedS tt)), (fun hp => by have hq := hp; (try simp only [decide_eq_true_eq, decide_eq_false_iff_not, Bool.and_eq_true, Bool.or_eq_true, Bool.and_eq_false_iff, Bool.or_eq_false_iff, Bool.not_eq_true', Bool.not_eq_false', Bool.not_eq_true, Bool.not_eq_false] at hq); exact (awake_c)), (fun hp2 => (by first | exact hp2 | exact ⟨hp, hp2⟩))⟩
        refine AMx.ret ?_
        exact RetP.mk (r := vc (bo ((decide (blockedS tt = blockedS tt)) && true))) (by kernel_rfl) (congrArg (fun b => vc (bo b)) (show ((decide (blockedS tt = blockedS tt)) && true) = true from by simp))

end AL.Locks
