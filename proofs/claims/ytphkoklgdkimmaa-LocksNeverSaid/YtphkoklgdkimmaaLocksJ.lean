/- locks: the contracts of its functions, by their walks. No condition. -/
import Derived.Test.YtphkoklgdkimmaaLocksG
import Derived.Test.YtphkoklgdkimmaaLocksN
namespace AL.Locks
open Go Go.Proofs AL AL.Fnv AL.Gate
set_option linter.unusedVariables false
set_option linter.unusedSimpArgs false

theorem f12_body : Try.f12.body = some (.seq (.region 0 (rg Try.f12 0) false) (.seq (.region 1 (rg Try.f12 1) false) (.seq (.seq (.region 2 (rg Try.f12 2) false) (.cond (.tmp 28) (.seq (.region 3 (rg Try.f12 3) false) (.ret)) (.skip))) (.seq (.seq (.region 4 (rg Try.f12 4) false) (.block 0 (.loop (.seq (.seq (.region 5 (rg Try.f12 5) false) (.cond (.tmp 37) (.skip) (.exit 0))) (.seq (.block 1 (.seq (.region 7 (rg Try.f12 7) false) (.seq (.seq (.region 8 (rg Try.f12 8) false) (.block 2 (.seq (.seq (.region 10 (rg Try.f12 10) false) (.cond (.tmp 59) (.skip) (.region 11 (rg Try.f12 11) false))) (.cond (.tmp 59) (.region 12 (rg Try.f12 12) false) (.seq (.region 13 (rg Try.f12 13) false) (.cond (.tmp 71) (.region 14 (rg Try.f12 14) false) (.region 9 (rg Try.f12 9) false))))))) (.seq (.region 15 (rg Try.f12 15) false) (.seq (.seq (.region 16 (rg Try.f12 16) false) (.cond (.tmp 81) (.exit 1) (.skip))) (.seq (.region 17 (rg Try.f12 17) false) (.seq (.seq (.region 18 (rg Try.f12 18) false) (.block 3 (.loop (.seq (.seq (.region 19 (rg Try.f12 19) false) (.cond (.tmp 84) (.skip) (.exit 3))) (.seq (.block 4 (.seq (.region 21 (rg Try.f12 21) true) (.region 22 (rg Try.f12 22) true))) (.region 20 (rg Try.f12 20) false)))))) (.seq (.region 23 (rg Try.f12 23) false) (.cond (.tmp 114) (.seq (.region 24 (rg Try.f12 24) false) (.ret)) (.skip)))))))))) (.region 6 (rg Try.f12 6) false)))))) (.seq (.region 25 (rg Try.f12 25) false) (.ret)))))) := by kernel_rfl

set_option maxRecDepth 100000 in
set_option maxHeartbeats 8000000 in
theorem LocksNever_c (shards : Int) (l : List Lop) : Pure Try.prog 12 [tc (u8 shards), tc (slK l)] (vc (bo true)) := by
  refine Pure.of_body Try.func12 f12_body (by kernel_rfl) Try.ntmps12 (by kernel_rfl) (by kernel_rfl) ?_
  refine AMx.int 0 (n := shards) rfl (fun hmo => ?_)
  simp only [inR8_iff] at hmo
  have hs8 := tmod8 hmo.1
  refine AMx.seq ?_
  refine AMx.region (ces := []) (ks := [0, 1]) (hs := []) (cs := []) (s' := AS.lst 116 [(0, vc (u8 shards)), (1, vc (slK l))] []) (by kernel_rfl) ?_ ?_
  · exact trivial
  refine AMx.seq ?_
  refine AMx.region (ces := [(4, CE.call [] [] (AV.tup [TV.agg [.s (slT ((newS (1 + (Int.tmod shards 8))).1))], tc (i6 ((newS (1 + (Int.tmod shards 8))).2))]) [])]) (ks := [1, 5, 6]) (hs := [5]) (cs := [(8 : Int) ≠ 0, InR .i64 (1 + (Int.tmod shards 8)), Spec Try.prog 51 [tc (i6 (1 + (Int.tmod shards 8)))] (ofH []) (AV.tup [TV.agg [.s (slT ((newS (1 + (Int.tmod shards 8))).1))], tc (i6 ((newS (1 + (Int.tmod shards 8))).2))]) (ofH [])]) (s' := AS.lst 116 [(1, vc (slK l)), (5, vp 5 0), (6, vc (i6 ((newS (1 + (Int.tmod shards 8))).2)))] [(5, AObj.row [.s (slT ((newS (1 + (Int.tmod shards 8))).1))])]) (by kernel_rfl) ?_ ?_
  · exact ⟨(show (8 : Int) ≠ 0 from (by omega)), (show InR .i64 (1 + (Int.tmod shards 8)) from (inR64 (by omega) (by omega))), (New_c (1 + (Int.tmod shards 8)))⟩
  refine AMx.seq ?_
  refine AMx.seq ?_
  refine AMx.region (ces := []) (ks := [1, 5, 6, 28]) (hs := [5]) (cs := [((!decide ((newS (1 + (Int.tmod shards 8))).2 = 0)) = false) → allP [], ((!decide ((newS (1 + (Int.tmod shards 8))).2 = 0)) = false) → allP [(!decide ((newS (1 + (Int.tmod shards 8))).2 = 0)) = false], ((!decide ((newS (1 + (Int.tmod shards 8))).2 = 0)) = false) → allP [(!decide ((newS (1 + (Int.tmod shards 8))).2 = 0)) = false], (!decide ((newS (1 + (Int.tmod shards 8))).2 = 0)) = false → allP [(!decide ((newS (1 + (Int.tmod shards 8))).2 = 0)) = false]]) (s' := AS.lst 116 [(1, vc (slK l)), (5, vp 5 0), (6, vc (i6 ((newS (1 + (Int.tmod shards 8))).2))), (28, vc (bo ((!decide ((newS (1 + (Int.tmod shards 8))).2 = 0)) || (decide (60 < (List.length l : Int))))))] [(5, AObj.row [.s (slT ((newS (1 + (Int.tmod shards 8))).1))])]) (by kernel_rfl) ?_ ?_
  · exact ⟨(fun _ => trivial), (fun hp => hp), (fun hp => hp), (fun hp2 => (by first | exact hp2 | exact ⟨hp, hp2⟩))⟩
  refine AMx.cond (b := ((!decide ((newS (1 + (Int.tmod shards 8))).2 = 0)) || (decide (60 < (List.length l : Int))))) (by kernel_rfl) (fun hc1 => ?_) (fun hc1 => ?_)
  · try simp only [decide_eq_true_eq, decide_eq_false_iff_not, Bool.or_eq_true, Bool.or_eq_false_iff, Bool.not_eq_true', Bool.not_eq_false'] at hc1
    refine AMx.seq ?_
    refine AMx.region (ces := [(3, CE.call [] [] (vc (bo true)) [])]) (ks := [4]) (hs := []) (cs := [((decide ((newS (1 + (Int.tmod shards 8))).2 = 0)) = true) → allP [Spec Try.prog 50 [] (ofH []) (vc (bo true)) (ofH [])], (decide ((newS (1 + (Int.tmod shards 8))).2 = 0)) = true → allP [(decide ((newS (1 + (Int.tmod shards 8))).2 = 0)) = true]]) (s' := AS.lst 116 [(4, vc (bo ((decide ((newS (1 + (Int.tmod shards 8))).2 = 0)) && true)))] []) (by kernel_rfl) ?_ ?_
    · exact ⟨(fun hp => by have hq := hp; (try simp only [decide_eq_true_eq, decide_eq_false_iff_not, Bool.and_eq_true, Bool.or_eq_true, Bool.and_eq_false_iff, Bool.or_eq_false_iff, Bool.not_eq_true', Bool.not_eq_false', Bool.not_eq_true, Bool.not_eq_false] at hq); exact (awake_c)), (fun hp2 => (by first | exact hp2 | exact ⟨hp, hp2⟩))⟩
    refine AMx.ret ?_
    exact RetP.mk (r := vc (bo ((decide ((newS (1 + (Int.tmod shards 8))).2 = 0)) && true))) (by kernel_rfl) (congrArg (fun b => vc (bo b)) (show ((decide ((newS (1 + (Int.tmod shards 8))).2 = 0)) && true) = true from by first | (rw [new_ok _ (by omega)]; rfl) | simp_all))
  · try simp only [decide_eq_true_eq, decide_eq_false_iff_not, Bool.or_eq_true, Bool.or_eq_false_iff, Bool.not_eq_true', Bool.not_eq_false'] at hc1
    refine AMx.skip ?_
    refine AMx.seq ?_
    refine AMx.seq ?_
    refine AMx.region (ces := []) (ks := [1, 5, 7]) (hs := [5]) (cs := []) (s' := AS.lst 116 [(1, vc (slK l)), (5, vp 5 0), (7, vc (i6 0))] [(5, AObj.row [.s (slT ((newS (1 + (Int.tmod shards 8))).1))])]) (by kernel_rfl) ?_ ?_
    · exact trivial
    refine AMx.block ?_
    refine AMx.ent (s' := AS.lst 116 [(1, vc (slK l)), (5, vp 5 0), (7, vc (i6 0))] [(5, AObj.row [.s (slT ((newS (1 + (Int.tmod shards 8))).1))])]) (ent_proj [1, 5, 7] [5]) ?_
    refine AMx.loop (fun mm ss => ∃ (k : Nat) (tt : Tab), (k ≤ l.length ∧ TabOk k (whosS (List.take k l)) tt) ∧ mm = l.length - k ∧ ss = AS.lst 116 [(1, vc (slK l)), (5, vp 5 0), (7, vc (i6 (k : Int)))] [(5, AObj.row [.s (slT tt)])]) ⟨0, (newS (1 + Int.tmod shards 8)).1, ?_, rfl, ?_⟩ ?_
    · exact ⟨by omega, ok_new _⟩
    · rfl
    rintro mm ss ⟨k, tt, ⟨hI, hT⟩, rfl, rfl⟩
    refine AMx.seq ?_
    refine AMx.seq ?_
    refine AMx.region (ces := []) (ks := [1, 5, 7, 37]) (hs := [5]) (cs := []) (s' := AS.lst 116 [(1, vc (slK l)), (5, vp 5 0), (7, vc (i6 (k : Int))), (37, vc (bo (decide ((k : Int) < (List.length l : Int)))))] [(5, AObj.row [.s (slT tt)])]) (by kernel_rfl) ?_ ?_
    · exact trivial
    refine AMx.cond (b := decide ((k : Int) < (List.length l : Int))) (by kernel_rfl) (fun hc2 => ?_) (fun hc2 => ?_)
    · try simp only [decide_eq_true_eq, decide_eq_false_iff_not] at hc2
      refine AMx.skip ?_
      refine AMx.seq ?_
      refine AMx.block ?_
      refine AMx.seq ?_
      refine AMx.region (ces := []) (ks := [1, 5, 7, 8]) (hs := [5, 8]) (cs := [(0 : Int) ≤ (k : Int), (k : Int) < List.length l]) (s' := AS.lst 116 [(1, vc (slK l)), (5, vp 5 0), (7, vc (i6 (k : Int))), (8, vp 8 0)] [(5, AObj.row [.s (slT tt)]), (8, AObj.row [.s (u8 ((List.getD l k lopd).kind)), .s (i6 ((List.getD l k lopd).who)), .s (i6 ((List.getD l k lopd).lock)), .s (u8 ((List.getD l k lopd).mode))])]) (by kernel_rfl) ?_ ?_
      · exact ⟨(show (0 : Int) ≤ (k : Int) from (by omega)), (show (k : Int) < List.length l from (by omega))⟩
      refine AMx.seq ?_
      refine AMx.seq ?_
      refine AMx.region (ces := []) (ks := [1, 5, 7, 8, 46]) (hs := [5, 8]) (cs := [(7 : Int) ≠ 0]) (s' := AS.lst 116 [(1, vc (slK l)), (5, vp 5 0), (7, vc (i6 (k : Int))), (8, vp 8 0), (46, vc (u8 (Int.tmod ((List.getD l k lopd).kind) 7)))] [(5, AObj.row [.s (slT tt)]), (8, AObj.row [.s (u8 ((List.getD l k lopd).kind)), .s (i6 ((List.getD l k lopd).who)), .s (i6 ((List.getD l k lopd).lock)), .s (u8 ((List.getD l k lopd).mode))])]) (by kernel_rfl) ?_ ?_
      · exact (show (7 : Int) ≠ 0 from (by omega))
      refine AMx.block ?_
      refine AMx.seq ?_
      refine AMx.seq ?_
      refine AMx.region (ces := []) (ks := [1, 5, 7, 8, 46, 59]) (hs := [5, 8]) (cs := []) (s' := AS.lst 116 [(1, vc (slK l)), (5, vp 5 0), (7, vc (i6 (k : Int))), (8, vp 8 0), (46, vc (u8 (Int.tmod ((List.getD l k lopd).kind) 7))), (59, vc (bo (decide (Int.tmod ((List.getD l k lopd).kind) 7 = 4))))] [(5, AObj.row [.s (slT tt)]), (8, AObj.row [.s (u8 ((List.getD l k lopd).kind)), .s (i6 ((List.getD l k lopd).who)), .s (i6 ((List.getD l k lopd).lock)), .s (u8 ((List.getD l k lopd).mode))])]) (by kernel_rfl) ?_ ?_
      · exact trivial
      refine AMx.cond (b := decide (Int.tmod ((List.getD l k lopd).kind) 7 = 4)) (by kernel_rfl) (fun hc3 => ?_) (fun hc3 => ?_)
      · try simp only [decide_eq_true_eq, decide_eq_false_iff_not] at hc3
        refine AMx.skip ?_
        refine AMx.cond (b := decide (Int.tmod ((List.getD l k lopd).kind) 7 = 4)) (by kernel_rfl) (fun hc4 => ?_) (fun hc4 => ?_)
        · try simp only [decide_eq_true_eq, decide_eq_false_iff_not] at hc4
          refine AMx.region (ces := [(5, CE.call [] [] (AV.tup [TV.agg [.s (slT ((leaveT tt ((List.getD l k lopd).who) ((List.getD l k lopd).lock)).1))], tc (i6 ((leaveT tt ((List.getD l k lopd).who) ((List.getD l k lopd).lock)).2))]) [])]) (ks := [1, 5, 7]) (hs := [5]) (cs := [Spec Try.prog 54 [TV.agg [.s (slT tt)], tc (i6 ((List.getD l k lopd).who)), tc (i6 ((List.getD l k lopd).lock))] (ofH []) (AV.tup [TV.agg [.s (slT ((leaveT tt ((List.getD l k lopd).who) ((List.getD l k lopd).lock)).1))], tc (i6 ((leaveT tt ((List.getD l k lopd).who) ((List.getD l k lopd).lock)).2))]) (ofH [])]) (s' := AS.lst 116 [(1, vc (slK l)), (5, vp 5 0), (7, vc (i6 (k : Int)))] [(5, AObj.row [.s (slT ((leaveT tt ((List.getD l k lopd).who) ((List.getD l k lopd).lock)).1))])]) (by kernel_rfl) ?_ ?_
          · exact (TLeave_c tt ((List.getD l k lopd).who) ((List.getD l k lopd).lock) 61 (by first | exact good_mono hT.good (by omega) | exact good_mono (ok_step _ hT).good (by omega) | exact good_mono (ok_ask hT).good (by omega) | exact good_mono (ok_quit _ (ok_ask hT)).good (by omega)) (by omega))
          rw [show (leaveT tt ((List.getD l k lopd).who) ((List.getD l k lopd).lock)).1 = stepT tt (List.getD l k lopd) from (by unfold stepT; first | rw [if_pos (by omega)] | rw [if_neg (by omega), if_pos (by omega)] | rw [if_neg (by omega), if_neg (by omega)])]
          refine AMx.blk ?_
          refine AMx.seq ?_
          refine AMx.region (ces := [(1, CE.call [] [] (vc (slI (blockedS (stepT tt (List.getD l k lopd))))) [])]) (ks := [1, 5, 7, 9]) (hs := [5]) (cs := [Spec Try.prog 61 [TV.agg [.s (slT (stepT tt (List.getD l k lopd)))]] (ofH []) (vc (slI (blockedS (stepT tt (List.getD l k lopd))))) (ofH [])]) (s' := AS.lst 116 [(1, vc (slK l)), (5, vp 5 0), (7, vc (i6 (k : Int))), (9, vc (slI (blockedS (stepT tt (List.getD l k lopd)))))] [(5, AObj.row [.s (slT (stepT tt (List.getD l k lopd)))])]) (by kernel_rfl) ?_ ?_
          · exact (Blocked_c (stepT tt (List.getD l k lopd)) 61 (by first | exact good_mono hT.good (by omega) | exact good_mono (ok_step _ hT).good (by omega) | exact good_mono (ok_ask hT).good (by omega) | exact good_mono (ok_quit _ (ok_ask hT)).good (by omega)) (by omega))
          refine AMx.seq ?_
          refine AMx.seq ?_
          refine AMx.region (ces := []) (ks := [1, 5, 7, 81]) (hs := [5]) (cs := []) (s' := AS.lst 116 [(1, vc (slK l)), (5, vp 5 0), (7, vc (i6 (k : Int))), (81, vc (bo (decide ((List.length (blockedS (stepT tt (List.getD l k lopd)) : List Int) : Int) = 0))))] [(5, AObj.row [.s (slT (stepT tt (List.getD l k lopd)))])]) (by kernel_rfl) ?_ ?_
          · exact trivial
          refine AMx.cond (b := decide ((List.length (blockedS (stepT tt (List.getD l k lopd)) : List Int) : Int) = 0)) (by kernel_rfl) (fun hc5 => ?_) (fun hc5 => ?_)
          · try simp only [decide_eq_true_eq, decide_eq_false_iff_not] at hc5
            refine AMx.exit ?_
            refine AMx.code_exit ?_
            refine AMx.blk_exit ?_
            refine AMx.region (ces := []) (ks := [1, 5, 7]) (hs := [5]) (cs := [InR .i64 ((k : Int) + 1)]) (s' := AS.lst 116 [(1, vc (slK l)), (5, vp 5 0), (7, vc (i6 ((k : Int) + 1)))] [(5, AObj.row [.s (slT (stepT tt (List.getD l k lopd)))])]) (by kernel_rfl) ?_ ?_
            · exact (show InR .i64 ((k : Int) + 1) from (inR64 (by omega) (by omega)))
            refine AMx.ent_inv (s' := AS.lst 116 [(1, vc (slK l)), (5, vp 5 0), (7, vc (i6 ((k : Int) + 1)))] [(5, AObj.row [.s (slT (stepT tt (List.getD l k lopd)))])]) (ent_proj [1, 5, 7] [5]) ?_
            refine AMx.inv ⟨_, ?_, k + 1, stepT tt (List.getD l k lopd), ?_, rfl, ?_⟩
            rotate_left
            · exact ⟨by omega, by rw [whos_step l k (by omega)]; exact ok_step _ hT⟩
            · rfl
            · omega
          · try simp only [decide_eq_true_eq, decide_eq_false_iff_not] at hc5
            refine AMx.skip ?_
            refine AMx.seq ?_
            refine AMx.region (ces := []) (ks := [1, 5, 7, 10]) (hs := [5]) (cs := []) (s' := AS.lst 116 [(1, vc (slK l)), (5, vp 5 0), (7, vc (i6 (k : Int))), (10, vc (bo false))] [(5, AObj.row [.s (slT (stepT tt (List.getD l k lopd)))])]) (by kernel_rfl) ?_ ?_
            · exact trivial
            refine AMx.seq ?_
            refine AMx.seq ?_
            refine AMx.region (ces := []) (ks := [1, 5, 7, 10, 11]) (hs := [5]) (cs := []) (s' := AS.lst 116 [(1, vc (slK l)), (5, vp 5 0), (7, vc (i6 (k : Int))), (10, vc (bo false)), (11, vc (i6 0))] [(5, AObj.row [.s (slT (stepT tt (List.getD l k lopd)))])]) (by kernel_rfl) ?_ ?_
            · exact trivial
            refine AMx.block ?_
            refine AMx.ent (s' := AS.lst 116 [(1, vc (slK l)), (5, vp 5 0), (7, vc (i6 (k : Int))), (10, vc (bo false)), (11, vc (i6 0))] [(5, AObj.row [.s (slT (stepT tt (List.getD l k lopd)))])]) (ent_proj [1, 5, 7, 10, 11] [5]) ?_
            refine AMx.loop (fun mm ss => ∃ (q : Nat), (q ≤ k + 1) ∧ mm = k + 1 - q ∧ ss = AS.lst 116 [(1, vc (slK l)), (5, vp 5 0), (7, vc (i6 (k : Int))), (10, vc (bo (goesS (stepT tt (List.getD l k lopd)) (List.take q l)))), (11, vc (i6 (q : Int)))] [(5, AObj.row [.s (slT (stepT tt (List.getD l k lopd)))])]) ⟨0, ?_, rfl, ?_⟩ ?_
            · omega
            · rfl
            rintro mm ss ⟨q, hI, rfl, rfl⟩
            refine AMx.seq ?_
            refine AMx.seq ?_
            refine AMx.region (ces := []) (ks := [1, 5, 7, 10, 11, 84]) (hs := [5]) (cs := []) (s' := AS.lst 116 [(1, vc (slK l)), (5, vp 5 0), (7, vc (i6 (k : Int))), (10, vc (bo (goesS (stepT tt (List.getD l k lopd)) (List.take q l)))), (11, vc (i6 (q : Int))), (84, vc (bo (decide ((q : Int) ≤ (k : Int)))))] [(5, AObj.row [.s (slT (stepT tt (List.getD l k lopd)))])]) (by kernel_rfl) ?_ ?_
            · exact trivial
            refine AMx.cond (b := decide ((q : Int) ≤ (k : Int))) (by kernel_rfl) (fun hc6 => ?_) (fun hc6 => ?_)
            · try simp only [decide_eq_true_eq, decide_eq_false_iff_not] at hc6
              refine AMx.skip ?_
              refine AMx.seq ?_
              refine AMx.block ?_
              refine AMx.seq ?_
              refine AMx.region_draw (ces := [(6, CE.call [] [] (AV.tup [tc (i6 (max 0 (waitIx (stepT tt (List.getD l k lopd)) ((List.getD l q lopd).who)))), tc (bo (decide (0 ≤ waitIx (stepT tt (List.getD l k lopd)) ((List.getD l q lopd).who))))]) [])]) (ros := [(0, [5])]) (ks := [1, 5, 7, 10, 11, 13]) (hs := [5]) (cs := [(0 : Int) ≤ (q : Int), (q : Int) < List.length l, Spec Try.prog 63 [TV.agg [.s (slT (stepT tt (List.getD l k lopd)))], tc (i6 ((List.getD l q lopd).who))] (ofH []) (AV.tup [tc (i6 (max 0 (waitIx (stepT tt (List.getD l k lopd)) ((List.getD l q lopd).who)))), tc (bo (decide (0 ≤ waitIx (stepT tt (List.getD l k lopd)) ((List.getD l q lopd).who))))]) (ofH [])]) (s' := AS.lst 116 [(1, vc (slK l)), (5, vp 5 0), (7, vc (i6 (k : Int))), (10, vc (bo (goesS (stepT tt (List.getD l k lopd)) (List.take q l)))), (11, vc (i6 (q : Int))), (13, vc (bo (decide (0 ≤ waitIx (stepT tt (List.getD l k lopd)) ((List.getD l q lopd).who)))))] [(5, AObj.row [.s (slT (stepT tt (List.getD l k lopd)))])]) mixed (by kernel_rfl) ?_ ?_
              · exact ⟨(show (0 : Int) ≤ (q : Int) from (by omega)), (show (q : Int) < List.length l from (by omega)), (TWaits_c (stepT tt (List.getD l k lopd)) ((List.getD l q lopd).who))⟩
              refine AMx.region_draw (ces := [(11, CE.call [] [] (vc (slI (heldS (stepT tt (List.getD l k lopd)) ((List.getD l q lopd).who) (List.length (stepT tt (List.getD l k lopd)))))) [])]) (ros := [(5, [5])]) (ks := [1, 5, 7, 10, 11]) (hs := [5]) (cs := [((goesS (stepT tt (List.getD l k lopd)) (List.take q l)) = false) → allP [], ((goesS (stepT tt (List.getD l k lopd)) (List.take q l)) = false) → allP [(goesS (stepT tt (List.getD l k lopd)) (List.take q l)) = false], ((goesS (stepT tt (List.getD l k lopd)) (List.take q l)) = false) → allP [(goesS (stepT tt (List.getD l k lopd)) (List.take q l)) = false], (((goesS (stepT tt (List.getD l k lopd)) (List.take q l)) = false) ∧ (!(decide (0 ≤ waitIx (stepT tt (List.getD l k lopd)) ((List.getD l q lopd).who)))) = true) → allP [], (((goesS (stepT tt (List.getD l k lopd)) (List.take q l)) = false) ∧ (!(decide (0 ≤ waitIx (stepT tt (List.getD l k lopd)) ((List.getD l q lopd).who)))) = true) → allP [], (((goesS (stepT tt (List.getD l k lopd)) (List.take q l)) = false) ∧ (!(decide (0 ≤ waitIx (stepT tt (List.getD l k lopd)) ((List.getD l q lopd).who)))) = true) → allP [], (((goesS (stepT tt (List.getD l k lopd)) (List.take q l)) = false) ∧ (!(decide (0 ≤ waitIx (stepT tt (List.getD l k lopd)) ((List.getD l q lopd).who)))) = true) → allP [((goesS (stepT tt (List.getD l k lopd)) (List.take q l)) = false) ∧ (!(decide (0 ≤ waitIx (stepT tt (List.getD l k lopd)) ((List.getD l q lopd).who)))) = true, ((goesS (stepT tt (List.getD l k lopd)) (List.take q l)) = false) ∧ (!(decide (0 ≤ waitIx (stepT tt (List.getD l k lopd)) ((List.getD l q lopd).who)))) = true, (0 : Int) ≤ (q : Int), (q : Int) < List.length l], (((goesS (stepT tt (List.getD l k lopd)) (List.take q l)) = false) ∧ (!(decide (0 ≤ waitIx (stepT tt (List.getD l k lopd)) ((List.getD l q lopd).who)))) = true) → allP [((goesS (stepT tt (List.getD l k lopd)) (List.take q l)) = false) ∧ (!(decide (0 ≤ waitIx (stepT tt (List.getD l k lopd)) ((List.getD l q lopd).who)))) = true], (((goesS (stepT tt (List.getD l k lopd)) (List.take q l)) = false) ∧ (!(decide (0 ≤ waitIx (stepT tt (List.getD l k lopd)) ((List.getD l q lopd).who)))) = true) → allP [((goesS (stepT tt (List.getD l k lopd)) (List.take q l)) = false) ∧ (!(decide (0 ≤ waitIx (stepT tt (List.getD l k lopd)) ((List.getD l q lopd).who)))) = true], (((goesS (stepT tt (List.getD l k lopd)) (List.take q l)) = false) ∧ (!(decide (0 ≤ waitIx (stepT tt (List.getD l k lopd)) ((List.getD l q lopd).who)))) = true) → allP [((goesS (stepT tt (List.getD l k lopd)) (List.take q l)) = false) ∧ (!(decide (0 ≤ waitIx (stepT tt (List.getD l k lopd)) ((List.getD l q lopd).who)))) = true, ((goesS (stepT tt (List.getD l k lopd)) (List.take q l)) = false) ∧ (!(decide (0 ≤ waitIx (stepT tt (List.getD l k lopd)) ((List.getD l q lopd).who)))) = true, Spec Try.prog 64 [TV.agg [.s (slT (stepT tt (List.getD l k lopd)))], tc (i6 ((List.getD l q lopd).who))] (ofH []) (vc (slI (heldS (stepT tt (List.getD l k lopd)) ((List.getD l q lopd).who) (List.length (stepT tt (List.getD l k lopd)))))) (ofH [])], (((goesS (stepT tt (List.getD l k lopd)) (List.take q l)) = false) ∧ (!(decide (0 ≤ waitIx (stepT tt (List.getD l k lopd)) ((List.getD l q lopd).who)))) = true) → allP [((goesS (stepT tt (List.getD l k lopd)) (List.take q l)) = false) ∧ (!(decide (0 ≤ waitIx (stepT tt (List.getD l k lopd)) ((List.getD l q lopd).who)))) = true], (((goesS (stepT tt (List.getD l k lopd)) (List.take q l)) = false) ∧ (!(decide (0 ≤ waitIx (stepT tt (List.getD l k lopd)) ((List.getD l q lopd).who)))) = true) → allP [((goesS (stepT tt (List.getD l k lopd)) (List.take q l)) = false) ∧ (!(decide (0 ≤ waitIx (stepT tt (List.getD l k lopd)) ((List.getD l q lopd).who)))) = true], ((goesS (stepT tt (List.getD l k lopd)) (List.take q l)) = false) → allP [(goesS (stepT tt (List.getD l k lopd)) (List.take q l)) = false, (!(decide (0 ≤ waitIx (stepT tt (List.getD l k lopd)) ((List.getD l q lopd).who)))) = true → allP [((goesS (stepT tt (List.getD l k lopd)) (List.take q l)) = false) ∧ (!(decide (0 ≤ waitIx (stepT tt (List.getD l k lopd)) ((List.getD l q lopd).who)))) = true]], (goesS (stepT tt (List.getD l k lopd)) (List.take q l)) = false → allP [(goesS (stepT tt (List.getD l k lopd)) (List.take q l)) = false]]) (s' := AS.lst 116 [(1, vc (slK l)), (5, vp 5 0), (7, vc (i6 (k : Int))), (10, vc (bo ((goesS (stepT tt (List.getD l k lopd)) (List.take q l)) || ((!(decide (0 ≤ waitIx (stepT tt (List.getD l k lopd)) ((List.getD l q lopd).who)))) && (decide (0 < (List.length (heldS (stepT tt (List.getD l k lopd)) ((List.getD l q lopd).who) (List.length (stepT tt (List.getD l k lopd))) : List Int) : Int))))))), (11, vc (i6 (q : Int)))] [(5, AObj.row [.s (slT (stepT tt (List.getD l k lopd)))])]) mixed (by kernel_rfl) ?_ ?_
              · exact ⟨(fun _ => trivial), (fun hp => hp), (fun hp => hp), (fun _ => trivial), (fun _ => trivial), (fun _ => trivial), (fun hp => by have hq := hp; (try simp only [decide_eq_true_eq, decide_eq_false_iff_not, Bool.and_eq_true, Bool.or_eq_true, Bool.and_eq_false_iff, Bool.or_eq_false_iff, Bool.not_eq_true', Bool.not_eq_false', Bool.not_eq_true, Bool.not_eq_false] at hq); exact ⟨hp, hp, (show (0 : Int) ≤ (q : Int) from (by omega)), (show (q : Int) < List.length l from (by omega))⟩), (fun hp => hp), (fun hp => hp), (fun hp => by have hq := hp; (try simp only [decide_eq_true_eq, decide_eq_false_iff_not, Bool.and_eq_true, Bool.or_eq_true, Bool.and_eq_false_iff, Bool.or_eq_false_iff, Bool.not_eq_true', Bool.not_eq_false', Bool.not_eq_true, Bool.not_eq_false] at hq); exact ⟨hp, hp, (THeld_c (stepT tt (List.getD l k lopd)) ((List.getD l q lopd).who) (good_len (n := 61) (by first | exact good_mono hT.good (by omega) | exact good_mono (ok_step _ hT).good (by omega) | exact good_mono (ok_ask hT).good (by omega) | exact good_mono (ok_quit _ (ok_ask hT)).good (by omega))))⟩), (fun hp => hp), (fun hp => hp), (fun hp => by have hq := hp; (try simp only [decide_eq_true_eq, decide_eq_false_iff_not, Bool.and_eq_true, Bool.or_eq_true, Bool.and_eq_false_iff, Bool.or_eq_false_iff, Bool.not_eq_true', Bool.not_eq_false', Bool.not_eq_true, Bool.not_eq_false] at hq); exact ⟨hp, (fun hp2 => (by first | exact hp2 | exact ⟨hp, hp2⟩))⟩), (fun hp2 => (by first | exact hp2 | exact ⟨hp, hp2⟩))⟩
              refine AMx.blk ?_
              refine AMx.region (ces := []) (ks := [1, 5, 7, 10, 11]) (hs := [5]) (cs := [InR .i64 ((q : Int) + 1)]) (s' := AS.lst 116 [(1, vc (slK l)), (5, vp 5 0), (7, vc (i6 (k : Int))), (10, vc (bo ((goesS (stepT tt (List.getD l k lopd)) (List.take q l)) || ((!(decide (0 ≤ waitIx (stepT tt (List.getD l k lopd)) ((List.getD l q lopd).who)))) && (decide (0 < (List.length (heldS (stepT tt (List.getD l k lopd)) ((List.getD l q lopd).who) (List.length (stepT tt (List.getD l k lopd))) : List Int) : Int))))))), (11, vc (i6 ((q : Int) + 1)))] [(5, AObj.row [.s (slT (stepT tt (List.getD l k lopd)))])]) (by kernel_rfl) ?_ ?_
              · exact (show InR .i64 ((q : Int) + 1) from (inR64 (by omega) (by omega)))
              refine AMx.ent_inv (s' := AS.lst 116 [(1, vc (slK l)), (5, vp 5 0), (7, vc (i6 (k : Int))), (10, vc (bo ((goesS (stepT tt (List.getD l k lopd)) (List.take q l)) || ((!(decide (0 ≤ waitIx (stepT tt (List.getD l k lopd)) ((List.getD l q lopd).who)))) && (decide (0 < (List.length (heldS (stepT tt (List.getD l k lopd)) ((List.getD l q lopd).who) (List.length (stepT tt (List.getD l k lopd))) : List Int) : Int))))))), (11, vc (i6 ((q : Int) + 1)))] [(5, AObj.row [.s (slT (stepT tt (List.getD l k lopd)))])]) (ent_proj [1, 5, 7, 10, 11] [5]) ?_
              refine AMx.inv ⟨_, ?_, q + 1, ?_, rfl, ?_⟩
              rotate_left
              · omega
              · rw [← goes_step _ l q (by omega)]; rfl
              · omega
            · try simp only [decide_eq_true_eq, decide_eq_false_iff_not] at hc6
              refine AMx.exit ?_
              refine AMx.code_exit ?_
              refine AMx.inv_exit ?_
              refine AMx.blk_exit ?_
              refine AMx.seq ?_
              refine AMx.region (ces := []) (ks := [1, 5, 7, 114]) (hs := [5]) (cs := []) (s' := AS.lst 116 [(1, vc (slK l)), (5, vp 5 0), (7, vc (i6 (k : Int))), (114, vc (bo (!(goesS (stepT tt (List.getD l k lopd)) (List.take q l)))))] [(5, AObj.row [.s (slT (stepT tt (List.getD l k lopd)))])]) (by kernel_rfl) ?_ ?_
              · exact trivial
              refine AMx.cond (b := !(goesS (stepT tt (List.getD l k lopd)) (List.take q l))) (by kernel_rfl) (fun hc7 => ?_) (fun hc7 => ?_)
              · try simp only [decide_eq_true_eq, decide_eq_false_iff_not, Bool.not_eq_true', Bool.not_eq_false'] at hc7
                refine AMx.seq ?_
                refine AMx.region (ces := []) (ks := [4]) (hs := []) (cs := []) (s' := AS.lst 116 [(4, vc (bo false))] []) (by kernel_rfl) ?_ ?_
                · exact trivial
                refine AMx.ret ?_
                exact RetP.mk (r := vc (bo false)) (by kernel_rfl) (by exfalso; have hT2 := ok_step (List.getD l k lopd) hT; rw [← whos_step l k (by omega)] at hT2; have hv := goes_never hT2 (by assumption); have hq : q = k + 1 := (by omega); subst hq; have hz := hc7; rw [hv] at hz; cases hz)
              · try simp only [decide_eq_true_eq, decide_eq_false_iff_not, Bool.not_eq_true', Bool.not_eq_false'] at hc7
                refine AMx.skip ?_
                refine AMx.blk ?_
                refine AMx.region (ces := []) (ks := [1, 5, 7]) (hs := [5]) (cs := [InR .i64 ((k : Int) + 1)]) (s' := AS.lst 116 [(1, vc (slK l)), (5, vp 5 0), (7, vc (i6 ((k : Int) + 1)))] [(5, AObj.row [.s (slT (stepT tt (List.getD l k lopd)))])]) (by kernel_rfl) ?_ ?_
                · exact (show InR .i64 ((k : Int) + 1) from (inR64 (by omega) (by omega)))
                refine AMx.ent_inv (s' := AS.lst 116 [(1, vc (slK l)), (5, vp 5 0), (7, vc (i6 ((k : Int) + 1)))] [(5, AObj.row [.s (slT (stepT tt (List.getD l k lopd)))])]) (ent_proj [1, 5, 7] [5]) ?_
                refine AMx.inv ⟨_, ?_, k + 1, stepT tt (List.getD l k lopd), ?_, rfl, ?_⟩
                rotate_left
                · exact ⟨by omega, by rw [whos_step l k (by omega)]; exact ok_step _ hT⟩
                · rfl
                · omega
        · try simp only [decide_eq_true_eq, decide_eq_false_iff_not] at hc4
          exfalso; first | exact hc3 hc4 | exact hc4 hc3 | (rw [hc4] at hc3; cases hc3) | simp_all
      · try simp only [decide_eq_true_eq, decide_eq_false_iff_not] at hc3
        refine AMx.region (ces := []) (ks := [1, 5, 7, 8, 46, 59]) (hs := [5, 8]) (cs := []) (s' := AS.lst 116 [(1, vc (slK l)), (5, vp 5 0), (7, vc (i6 (k : Int))), (8, vp 8 0), (46, vc (u8 (Int.tmod ((List.getD l k lopd).kind) 7))), (59, vc (bo (decide (Int.tmod ((List.getD l k lopd).kind) 7 = 5))))] [(5, AObj.row [.s (slT tt)]), (8, AObj.row [.s (u8 ((List.getD l k lopd).kind)), .s (i6 ((List.getD l k lopd).who)), .s (i6 ((List.getD l k lopd).lock)), .s (u8 ((List.getD l k lopd).mode))])]) (by kernel_rfl) ?_ ?_
        · exact trivial
        refine AMx.cond (b := decide (Int.tmod ((List.getD l k lopd).kind) 7 = 5)) (by kernel_rfl) (fun hc8 => ?_) (fun hc8 => ?_)
        · try simp only [decide_eq_true_eq, decide_eq_false_iff_not] at hc8
          refine AMx.region (ces := [(5, CE.call [] [] (AV.tup [TV.agg [.s (slT ((leaveT tt ((List.getD l k lopd).who) ((List.getD l k lopd).lock)).1))], tc (i6 ((leaveT tt ((List.getD l k lopd).who) ((List.getD l k lopd).lock)).2))]) [])]) (ks := [1, 5, 7]) (hs := [5]) (cs := [Spec Try.prog 54 [TV.agg [.s (slT tt)], tc (i6 ((List.getD l k lopd).who)), tc (i6 ((List.getD l k lopd).lock))] (ofH []) (AV.tup [TV.agg [.s (slT ((leaveT tt ((List.getD l k lopd).who) ((List.getD l k lopd).lock)).1))], tc (i6 ((leaveT tt ((List.getD l k lopd).who) ((List.getD l k lopd).lock)).2))]) (ofH [])]) (s' := AS.lst 116 [(1, vc (slK l)), (5, vp 5 0), (7, vc (i6 (k : Int)))] [(5, AObj.row [.s (slT ((leaveT tt ((List.getD l k lopd).who) ((List.getD l k lopd).lock)).1))])]) (by kernel_rfl) ?_ ?_
          · exact (TLeave_c tt ((List.getD l k lopd).who) ((List.getD l k lopd).lock) 61 (by first | exact good_mono hT.good (by omega) | exact good_mono (ok_step _ hT).good (by omega) | exact good_mono (ok_ask hT).good (by omega) | exact good_mono (ok_quit _ (ok_ask hT)).good (by omega)) (by omega))
          rw [show (leaveT tt ((List.getD l k lopd).who) ((List.getD l k lopd).lock)).1 = stepT tt (List.getD l k lopd) from (by unfold stepT; first | rw [if_pos (by omega)] | rw [if_neg (by omega), if_pos (by omega)] | rw [if_neg (by omega), if_neg (by omega)])]
          refine AMx.blk ?_
          refine AMx.seq ?_
          refine AMx.region (ces := [(1, CE.call [] [] (vc (slI (blockedS (stepT tt (List.getD l k lopd))))) [])]) (ks := [1, 5, 7, 9]) (hs := [5]) (cs := [Spec Try.prog 61 [TV.agg [.s (slT (stepT tt (List.getD l k lopd)))]] (ofH []) (vc (slI (blockedS (stepT tt (List.getD l k lopd))))) (ofH [])]) (s' := AS.lst 116 [(1, vc (slK l)), (5, vp 5 0), (7, vc (i6 (k : Int))), (9, vc (slI (blockedS (stepT tt (List.getD l k lopd)))))] [(5, AObj.row [.s (slT (stepT tt (List.getD l k lopd)))])]) (by kernel_rfl) ?_ ?_
          · exact (Blocked_c (stepT tt (List.getD l k lopd)) 61 (by first | exact good_mono hT.good (by omega) | exact good_mono (ok_step _ hT).good (by omega) | exact good_mono (ok_ask hT).good (by omega) | exact good_mono (ok_quit _ (ok_ask hT)).good (by omega)) (by omega))
          refine AMx.seq ?_
          refine AMx.seq ?_
          refine AMx.region (ces := []) (ks := [1, 5, 7, 81]) (hs := [5]) (cs := []) (s' := AS.lst 116 [(1, vc (slK l)), (5, vp 5 0), (7, vc (i6 (k : Int))), (81, vc (bo (decide ((List.length (blockedS (stepT tt (List.getD l k lopd)) : List Int) : Int) = 0))))] [(5, AObj.row [.s (slT (stepT tt (List.getD l k lopd)))])]) (by kernel_rfl) ?_ ?_
          · exact trivial
          refine AMx.cond (b := decide ((List.length (blockedS (stepT tt (List.getD l k lopd)) : List Int) : Int) = 0)) (by kernel_rfl) (fun hc9 => ?_) (fun hc9 => ?_)
          · try simp only [decide_eq_true_eq, decide_eq_false_iff_not] at hc9
            refine AMx.exit ?_
            refine AMx.code_exit ?_
            refine AMx.blk_exit ?_
            refine AMx.region (ces := []) (ks := [1, 5, 7]) (hs := [5]) (cs := [InR .i64 ((k : Int) + 1)]) (s' := AS.lst 116 [(1, vc (slK l)), (5, vp 5 0), (7, vc (i6 ((k : Int) + 1)))] [(5, AObj.row [.s (slT (stepT tt (List.getD l k lopd)))])]) (by kernel_rfl) ?_ ?_
            · exact (show InR .i64 ((k : Int) + 1) from (inR64 (by omega) (by omega)))
            refine AMx.ent_inv (s' := AS.lst 116 [(1, vc (slK l)), (5, vp 5 0), (7, vc (i6 ((k : Int) + 1)))] [(5, AObj.row [.s (slT (stepT tt (List.getD l k lopd)))])]) (ent_proj [1, 5, 7] [5]) ?_
            refine AMx.inv ⟨_, ?_, k + 1, stepT tt (List.getD l k lopd), ?_, rfl, ?_⟩
            rotate_left
            · exact ⟨by omega, by rw [whos_step l k (by omega)]; exact ok_step _ hT⟩
            · rfl
            · omega
          · try simp only [decide_eq_true_eq, decide_eq_false_iff_not] at hc9
            refine AMx.skip ?_
            refine AMx.seq ?_
            refine AMx.region (ces := []) (ks := [1, 5, 7, 10]) (hs := [5]) (cs := []) (s' := AS.lst 116 [(1, vc (slK l)), (5, vp 5 0), (7, vc (i6 (k : Int))), (10, vc (bo false))] [(5, AObj.row [.s (slT (stepT tt (List.getD l k lopd)))])]) (by kernel_rfl) ?_ ?_
            · exact trivial
            refine AMx.seq ?_
            refine AMx.seq ?_
            refine AMx.region (ces := []) (ks := [1, 5, 7, 10, 11]) (hs := [5]) (cs := []) (s' := AS.lst 116 [(1, vc (slK l)), (5, vp 5 0), (7, vc (i6 (k : Int))), (10, vc (bo false)), (11, vc (i6 0))] [(5, AObj.row [.s (slT (stepT tt (List.getD l k lopd)))])]) (by kernel_rfl) ?_ ?_
            · exact trivial
            refine AMx.block ?_
            refine AMx.ent (s' := AS.lst 116 [(1, vc (slK l)), (5, vp 5 0), (7, vc (i6 (k : Int))), (10, vc (bo false)), (11, vc (i6 0))] [(5, AObj.row [.s (slT (stepT tt (List.getD l k lopd)))])]) (ent_proj [1, 5, 7, 10, 11] [5]) ?_
            refine AMx.loop (fun mm ss => ∃ (q : Nat), (q ≤ k + 1) ∧ mm = k + 1 - q ∧ ss = AS.lst 116 [(1, vc (slK l)), (5, vp 5 0), (7, vc (i6 (k : Int))), (10, vc (bo (goesS (stepT tt (List.getD l k lopd)) (List.take q l)))), (11, vc (i6 (q : Int)))] [(5, AObj.row [.s (slT (stepT tt (List.getD l k lopd)))])]) ⟨0, ?_, rfl, ?_⟩ ?_
            · omega
            · rfl
            rintro mm ss ⟨q, hI, rfl, rfl⟩
            refine AMx.seq ?_
            refine AMx.seq ?_
            refine AMx.region (ces := []) (ks := [1, 5, 7, 10, 11, 84]) (hs := [5]) (cs := []) (s' := AS.lst 116 [(1, vc (slK l)), (5, vp 5 0), (7, vc (i6 (k : Int))), (10, vc (bo (goesS (stepT tt (List.getD l k lopd)) (List.take q l)))), (11, vc (i6 (q : Int))), (84, vc (bo (decide ((q : Int) ≤ (k : Int)))))] [(5, AObj.row [.s (slT (stepT tt (List.getD l k lopd)))])]) (by kernel_rfl) ?_ ?_
            · exact trivial
            refine AMx.cond (b := decide ((q : Int) ≤ (k : Int))) (by kernel_rfl) (fun hc10 => ?_) (fun hc10 => ?_)
            · try simp only [decide_eq_true_eq, decide_eq_false_iff_not] at hc10
              refine AMx.skip ?_
              refine AMx.seq ?_
              refine AMx.block ?_
              refine AMx.seq ?_
              refine AMx.region_draw (ces := [(6, CE.call [] [] (AV.tup [tc (i6 (max 0 (waitIx (stepT tt (List.getD l k lopd)) ((List.getD l q lopd).who)))), tc (bo (decide (0 ≤ waitIx (stepT tt (List.getD l k lopd)) ((List.getD l q lopd).who))))]) [])]) (ros := [(0, [5])]) (ks := [1, 5, 7, 10, 11, 13]) (hs := [5]) (cs := [(0 : Int) ≤ (q : Int), (q : Int) < List.length l, Spec Try.prog 63 [TV.agg [.s (slT (stepT tt (List.getD l k lopd)))], tc (i6 ((List.getD l q lopd).who))] (ofH []) (AV.tup [tc (i6 (max 0 (waitIx (stepT tt (List.getD l k lopd)) ((List.getD l q lopd).who)))), tc (bo (decide (0 ≤ waitIx (stepT tt (List.getD l k lopd)) ((List.getD l q lopd).who))))]) (ofH [])]) (s' := AS.lst 116 [(1, vc (slK l)), (5, vp 5 0), (7, vc (i6 (k : Int))), (10, vc (bo (goesS (stepT tt (List.getD l k lopd)) (List.take q l)))), (11, vc (i6 (q : Int))), (13, vc (bo (decide (0 ≤ waitIx (stepT tt (List.getD l k lopd)) ((List.getD l q lopd).who)))))] [(5, AObj.row [.s (slT (stepT tt (List.getD l k lopd)))])]) mixed (by kernel_rfl) ?_ ?_
              · exact ⟨(show (0 : Int) ≤ (q : Int) from (by omega)), (show (q : Int) < List.length l from (by omega)), (TWaits_c (stepT tt (List.getD l k lopd)) ((List.getD l q lopd).who))⟩
              refine AMx.region_draw (ces := [(11, CE.call [] [] (vc (slI (heldS (stepT tt (List.getD l k lopd)) ((List.getD l q lopd).who) (List.length (stepT tt (List.getD l k lopd)))))) [])]) (ros := [(5, [5])]) (ks := [1, 5, 7, 10, 11]) (hs := [5]) (cs := [((goesS (stepT tt (List.getD l k lopd)) (List.take q l)) = false) → allP [], ((goesS (stepT tt (List.getD l k lopd)) (List.take q l)) = false) → allP [(goesS (stepT tt (List.getD l k lopd)) (List.take q l)) = false], ((goesS (stepT tt (List.getD l k lopd)) (List.take q l)) = false) → allP [(goesS (stepT tt (List.getD l k lopd)) (List.take q l)) = false], (((goesS (stepT tt (List.getD l k lopd)) (List.take q l)) = false) ∧ (!(decide (0 ≤ waitIx (stepT tt (List.getD l k lopd)) ((List.getD l q lopd).who)))) = true) → allP [], (((goesS (stepT tt (List.getD l k lopd)) (List.take q l)) = false) ∧ (!(decide (0 ≤ waitIx (stepT tt (List.getD l k lopd)) ((List.getD l q lopd).who)))) = true) → allP [], (((goesS (stepT tt (List.getD l k lopd)) (List.take q l)) = false) ∧ (!(decide (0 ≤ waitIx (stepT tt (List.getD l k lopd)) ((List.getD l q lopd).who)))) = true) → allP [], (((goesS (stepT tt (List.getD l k lopd)) (List.take q l)) = false) ∧ (!(decide (0 ≤ waitIx (stepT tt (List.getD l k lopd)) ((List.getD l q lopd).who)))) = true) → allP [((goesS (stepT tt (List.getD l k lopd)) (List.take q l)) = false) ∧ (!(decide (0 ≤ waitIx (stepT tt (List.getD l k lopd)) ((List.getD l q lopd).who)))) = true, ((goesS (stepT tt (List.getD l k lopd)) (List.take q l)) = false) ∧ (!(decide (0 ≤ waitIx (stepT tt (List.getD l k lopd)) ((List.getD l q lopd).who)))) = true, (0 : Int) ≤ (q : Int), (q : Int) < List.length l], (((goesS (stepT tt (List.getD l k lopd)) (List.take q l)) = false) ∧ (!(decide (0 ≤ waitIx (stepT tt (List.getD l k lopd)) ((List.getD l q lopd).who)))) = true) → allP [((goesS (stepT tt (List.getD l k lopd)) (List.take q l)) = false) ∧ (!(decide (0 ≤ waitIx (stepT tt (List.getD l k lopd)) ((List.getD l q lopd).who)))) = true], (((goesS (stepT tt (List.getD l k lopd)) (List.take q l)) = false) ∧ (!(decide (0 ≤ waitIx (stepT tt (List.getD l k lopd)) ((List.getD l q lopd).who)))) = true) → allP [((goesS (stepT tt (List.getD l k lopd)) (List.take q l)) = false) ∧ (!(decide (0 ≤ waitIx (stepT tt (List.getD l k lopd)) ((List.getD l q lopd).who)))) = true], (((goesS (stepT tt (List.getD l k lopd)) (List.take q l)) = false) ∧ (!(decide (0 ≤ waitIx (stepT tt (List.getD l k lopd)) ((List.getD l q lopd).who)))) = true) → allP [((goesS (stepT tt (List.getD l k lopd)) (List.take q l)) = false) ∧ (!(decide (0 ≤ waitIx (stepT tt (List.getD l k lopd)) ((List.getD l q lopd).who)))) = true, ((goesS (stepT tt (List.getD l k lopd)) (List.take q l)) = false) ∧ (!(decide (0 ≤ waitIx (stepT tt (List.getD l k lopd)) ((List.getD l q lopd).who)))) = true, Spec Try.prog 64 [TV.agg [.s (slT (stepT tt (List.getD l k lopd)))], tc (i6 ((List.getD l q lopd).who))] (ofH []) (vc (slI (heldS (stepT tt (List.getD l k lopd)) ((List.getD l q lopd).who) (List.length (stepT tt (List.getD l k lopd)))))) (ofH [])], (((goesS (stepT tt (List.getD l k lopd)) (List.take q l)) = false) ∧ (!(decide (0 ≤ waitIx (stepT tt (List.getD l k lopd)) ((List.getD l q lopd).who)))) = true) → allP [((goesS (stepT tt (List.getD l k lopd)) (List.take q l)) = false) ∧ (!(decide (0 ≤ waitIx (stepT tt (List.getD l k lopd)) ((List.getD l q lopd).who)))) = true], (((goesS (stepT tt (List.getD l k lopd)) (List.take q l)) = false) ∧ (!(decide (0 ≤ waitIx (stepT tt (List.getD l k lopd)) ((List.getD l q lopd).who)))) = true) → allP [((goesS (stepT tt (List.getD l k lopd)) (List.take q l)) = false) ∧ (!(decide (0 ≤ waitIx (stepT tt (List.getD l k lopd)) ((List.getD l q lopd).who)))) = true], ((goesS (stepT tt (List.getD l k lopd)) (List.take q l)) = false) → allP [(goesS (stepT tt (List.getD l k lopd)) (List.take q l)) = false, (!(decide (0 ≤ waitIx (stepT tt (List.getD l k lopd)) ((List.getD l q lopd).who)))) = true → allP [((goesS (stepT tt (List.getD l k lopd)) (List.take q l)) = false) ∧ (!(decide (0 ≤ waitIx (stepT tt (List.getD l k lopd)) ((List.getD l q lopd).who)))) = true]], (goesS (stepT tt (List.getD l k lopd)) (List.take q l)) = false → allP [(goesS (stepT tt (List.getD l k lopd)) (List.take q l)) = false]]) (s' := AS.lst 116 [(1, vc (slK l)), (5, vp 5 0), (7, vc (i6 (k : Int))), (10, vc (bo ((goesS (stepT tt (List.getD l k lopd)) (List.take q l)) || ((!(decide (0 ≤ waitIx (stepT tt (List.getD l k lopd)) ((List.getD l q lopd).who)))) && (decide (0 < (List.length (heldS (stepT tt (List.getD l k lopd)) ((List.getD l q lopd).who) (List.length (stepT tt (List.getD l k lopd))) : List Int) : Int))))))), (11, vc (i6 (q : Int)))] [(5, AObj.row [.s (slT (stepT tt (List.getD l k lopd)))])]) mixed (by kernel_rfl) ?_ ?_
              · exact ⟨(fun _ => trivial), (fun hp => hp), (fun hp => hp), (fun _ => trivial), (fun _ => trivial), (fun _ => trivial), (fun hp => by have hq := hp; (try simp only [decide_eq_true_eq, decide_eq_false_iff_not, Bool.and_eq_true, Bool.or_eq_true, Bool.and_eq_false_iff, Bool.or_eq_false_iff, Bool.not_eq_true', Bool.not_eq_false', Bool.not_eq_true, Bool.not_eq_false] at hq); exact ⟨hp, hp, (show (0 : Int) ≤ (q : Int) from (by omega)), (show (q : Int) < List.length l from (by omega))⟩), (fun hp => hp), (fun hp => hp), (fun hp => by have hq := hp; (try simp only [decide_eq_true_eq, decide_eq_false_iff_not, Bool.and_eq_true, Bool.or_eq_true, Bool.and_eq_false_iff, Bool.or_eq_false_iff, Bool.not_eq_true', Bool.not_eq_false', Bool.not_eq_true, Bool.not_eq_false] at hq); exact ⟨hp, hp, (THeld_c (stepT tt (List.getD l k lopd)) ((List.getD l q lopd).who) (good_len (n := 61) (by first | exact good_mono hT.good (by omega) | exact good_mono (ok_step _ hT).good (by omega) | exact good_mono (ok_ask hT).good (by omega) | exact good_mono (ok_quit _ (ok_ask hT)).good (by omega))))⟩), (fun hp => hp), (fun hp => hp), (fun hp => by have hq := hp; (try simp only [decide_eq_true_eq, decide_eq_false_iff_not, Bool.and_eq_true, Bool.or_eq_true, Bool.and_eq_false_iff, Bool.or_eq_false_iff, Bool.not_eq_true', Bool.not_eq_false', Bool.not_eq_true, Bool.not_eq_false] at hq); exact ⟨hp, (fun hp2 => (by first | exact hp2 | exact ⟨hp, hp2⟩))⟩), (fun hp2 => (by first | exact hp2 | exact ⟨hp, hp2⟩))⟩
              refine AMx.blk ?_
              refine AMx.region (ces := []) (ks := [1, 5, 7, 10, 11]) (hs := [5]) (cs := [InR .i64 ((q : Int) + 1)]) (s' := AS.lst 116 [(1, vc (slK l)), (5, vp 5 0), (7, vc (i6 (k : Int))), (10, vc (bo ((goesS (stepT tt (List.getD l k lopd)) (List.take q l)) || ((!(decide (0 ≤ waitIx (stepT tt (List.getD l k lopd)) ((List.getD l q lopd).who)))) && (decide (0 < (List.length (heldS (stepT tt (List.getD l k lopd)) ((List.getD l q lopd).who) (List.length (stepT tt (List.getD l k lopd))) : List Int) : Int))))))), (11, vc (i6 ((q : Int) + 1)))] [(5, AObj.row [.s (slT (stepT tt (List.getD l k lopd)))])]) (by kernel_rfl) ?_ ?_
              · exact (show InR .i64 ((q : Int) + 1) from (inR64 (by omega) (by omega)))
              refine AMx.ent_inv (s' := AS.lst 116 [(1, vc (slK l)), (5, vp 5 0), (7, vc (i6 (k : Int))), (10, vc (bo ((goesS (stepT tt (List.getD l k lopd)) (List.take q l)) || ((!(decide (0 ≤ waitIx (stepT tt (List.getD l k lopd)) ((List.getD l q lopd).who)))) && (decide (0 < (List.length (heldS (stepT tt (List.getD l k lopd)) ((List.getD l q lopd).who) (List.length (stepT tt (List.getD l k lopd))) : List Int) : Int))))))), (11, vc (i6 ((q : Int) + 1)))] [(5, AObj.row [.s (slT (stepT tt (List.getD l k lopd)))])]) (ent_proj [1, 5, 7, 10, 11] [5]) ?_
              refine AMx.inv ⟨_, ?_, q + 1, ?_, rfl, ?_⟩
              rotate_left
              · omega
              · rw [← goes_step _ l q (by omega)]; rfl
              · omega
            · try simp only [decide_eq_true_eq, decide_eq_false_iff_not] at hc10
              refine AMx.exit ?_
              refine AMx.code_exit ?_
              refine AMx.inv_exit ?_
              refine AMx.blk_exit ?_
              refine AMx.seq ?_
              refine AMx.region (ces := []) (ks := [1, 5, 7, 114]) (hs := [5]) (cs := []) (s' := AS.lst 116 [(1, vc (slK l)), (5, vp 5 0), (7, vc (i6 (k : Int))), (114, vc (bo (!(goesS (stepT tt (List.getD l k lopd)) (List.take q l)))))] [(5, AObj.row [.s (slT (stepT tt (List.getD l k lopd)))])]) (by kernel_rfl) ?_ ?_
              · exact trivial
              refine AMx.cond (b := !(goesS (stepT tt (List.getD l k lopd)) (List.take q l))) (by kernel_rfl) (fun hc11 => ?_) (fun hc11 => ?_)
              · try simp only [decide_eq_true_eq, decide_eq_false_iff_not, Bool.not_eq_true', Bool.not_eq_false'] at hc11
                refine AMx.seq ?_
                refine AMx.region (ces := []) (ks := [4]) (hs := []) (cs := []) (s' := AS.lst 116 [(4, vc (bo false))] []) (by kernel_rfl) ?_ ?_
                · exact trivial
                refine AMx.ret ?_
                exact RetP.mk (r := vc (bo false)) (by kernel_rfl) (by exfalso; have hT2 := ok_step (List.getD l k lopd) hT; rw [← whos_step l k (by omega)] at hT2; have hv := goes_never hT2 (by assumption); have hq : q = k + 1 := (by omega); subst hq; have hz := hc11; rw [hv] at hz; cases hz)
              · try simp only [decide_eq_true_eq, decide_eq_false_iff_not, Bool.not_eq_true', Bool.not_eq_false'] at hc11
                refine AMx.skip ?_
                refine AMx.blk ?_
                refine AMx.region (ces := []) (ks := [1, 5, 7]) (hs := [5]) (cs := [InR .i64 ((k : Int) + 1)]) (s' := AS.lst 116 [(1, vc (slK l)), (5, vp 5 0), (7, vc (i6 ((k : Int) + 1)))] [(5, AObj.row [.s (slT (stepT tt (List.getD l k lopd)))])]) (by kernel_rfl) ?_ ?_
                · exact (show InR .i64 ((k : Int) + 1) from (inR64 (by omega) (by omega)))
                refine AMx.ent_inv (s' := AS.lst 116 [(1, vc (slK l)), (5, vp 5 0), (7, vc (i6 ((k : Int) + 1)))] [(5, AObj.row [.s (slT (stepT tt (List.getD l k lopd)))])]) (ent_proj [1, 5, 7] [5]) ?_
                refine AMx.inv ⟨_, ?_, k + 1, stepT tt (List.getD l k lopd), ?_, rfl, ?_⟩
                rotate_left
                · exact ⟨by omega, by rw [whos_step l k (by omega)]; exact ok_step _ hT⟩
                · rfl
                · omega
        · try simp only [decide_eq_true_eq, decide_eq_false_iff_not] at hc8
          refine AMx.seq ?_
          refine AMx.region (ces := []) (ks := [1, 5, 7, 8, 71]) (hs := [5, 8]) (cs := []) (s' := AS.lst 116 [(1, vc (slK l)), (5, vp 5 0), (7, vc (i6 (k : Int))), (8, vp 8 0), (71, vc (bo (decide (Int.tmod ((List.getD l k lopd).kind) 7 = 6))))] [(5, AObj.row [.s (slT tt)]), (8, AObj.row [.s (u8 ((List.getD l k lopd).kind)), .s (i6 ((List.getD l k lopd).who)), .s (i6 ((List.getD l k lopd).lock)), .s (u8 ((List.getD l k lopd).mode))])]) (by kernel_rfl) ?_ ?_
          · exact trivial
          refine AMx.cond (b := decide (Int.tmod ((List.getD l k lopd).kind) 7 = 6)) (by kernel_rfl) (fun hc12 => ?_) (fun hc12 => ?_)
          · try simp only [decide_eq_true_eq, decide_eq_false_iff_not] at hc12
            refine AMx.region (ces := [(3, CE.call [] [] (AV.t (TV.agg [.s (slT (quitT ((List.getD l k lopd).who) (List.length tt) tt))])) [])]) (ks := [1, 5, 7]) (hs := [5]) (cs := [Spec Try.prog 56 [TV.agg [.s (slT tt)], tc (i6 ((List.getD l k lopd).who))] (ofH []) (AV.t (TV.agg [.s (slT (quitT ((List.getD l k lopd).who) (List.length tt) tt))])) (ofH [])]) (s' := AS.lst 116 [(1, vc (slK l)), (5, vp 5 0), (7, vc (i6 (k : Int)))] [(5, AObj.row [.s (slT (quitT ((List.getD l k lopd).who) (List.length tt) tt))])]) (by kernel_rfl) ?_ ?_
            · exact (TQuit_c tt ((List.getD l k lopd).who) 61 (by first | exact good_mono hT.good (by omega) | exact good_mono (ok_step _ hT).good (by omega) | exact good_mono (ok_ask hT).good (by omega) | exact good_mono (ok_quit _ (ok_ask hT)).good (by omega)) (by omega))
            rw [show quitT ((List.getD l k lopd).who) (List.length tt) tt = stepT tt (List.getD l k lopd) from (by unfold stepT; first | rw [if_pos (by omega)] | rw [if_neg (by omega), if_pos (by omega)] | rw [if_neg (by omega), if_neg (by omega)])]
            refine AMx.blk ?_
            refine AMx.seq ?_
            refine AMx.region (ces := [(1, CE.call [] [] (vc (slI (blockedS (stepT tt (List.getD l k lopd))))) [])]) (ks := [1, 5, 7, 9]) (hs := [5]) (cs := [Spec Try.prog 61 [TV.agg [.s (slT (stepT tt (List.getD l k lopd)))]] (ofH []) (vc (slI (blockedS (stepT tt (List.getD l k lopd))))) (ofH [])]) (s' := AS.lst 116 [(1, vc (slK l)), (5, vp 5 0), (7, vc (i6 (k : Int))), (9, vc (slI (blockedS (stepT tt (List.getD l k lopd)))))] [(5, AObj.row [.s (slT (stepT tt (List.getD l k lopd)))])]) (by kernel_rfl) ?_ ?_
            · exact (Blocked_c (stepT tt (List.getD l k lopd)) 61 (by first | exact good_mono hT.good (by omega) | exact good_mono (ok_step _ hT).good (by omega) | exact good_mono (ok_ask hT).good (by omega) | exact good_mono (ok_quit _ (ok_ask hT)).good (by omega)) (by omega))
            refine AMx.seq ?_
            refine AMx.seq ?_
            refine AMx.region (ces := []) (ks := [1, 5, 7, 81]) (hs := [5]) (cs := []) (s' := AS.lst 116 [(1, vc (slK l)), (5, vp 5 0), (7, vc (i6 (k : Int))), (81, vc (bo (decide ((List.length (blockedS (stepT tt (List.getD l k lopd)) : List Int) : Int) = 0))))] [(5, AObj.row [.s (slT (stepT tt (List.getD l k lopd)))])]) (by kernel_rfl) ?_ ?_
            · exact trivial
            refine AMx.cond (b := decide ((List.length (blockedS (stepT tt (List.getD l k lopd)) : List Int) : Int) = 0)) (by kernel_rfl) (fun hc13 => ?_) (fun hc13 => ?_)
            · try simp only [decide_eq_true_eq, decide_eq_false_iff_not] at hc13
              refine AMx.exit ?_
              refine AMx.code_exit ?_
              refine AMx.blk_exit ?_
              refine AMx.region (ces := []) (ks := [1, 5, 7]) (hs := [5]) (cs := [InR .i64 ((k : Int) + 1)]) (s' := AS.lst 116 [(1, vc (slK l)), (5, vp 5 0), (7, vc (i6 ((k : Int) + 1)))] [(5, AObj.row [.s (slT (stepT tt (List.getD l k lopd)))])]) (by kernel_rfl) ?_ ?_
              · exact (show InR .i64 ((k : Int) + 1) from (inR64 (by omega) (by omega)))
              refine AMx.ent_inv (s' := AS.lst 116 [(1, vc (slK l)), (5, vp 5 0), (7, vc (i6 ((k : Int) + 1)))] [(5, AObj.row [.s (slT (stepT tt (List.getD l k lopd)))])]) (ent_proj [1, 5, 7] [5]) ?_
              refine AMx.inv ⟨_, ?_, k + 1, stepT tt (List.getD l k lopd), ?_, rfl, ?_⟩
              rotate_left
              · exact ⟨by omega, by rw [whos_step l k (by omega)]; exact ok_step _ hT⟩
              · rfl
              · omega
            · try simp only [decide_eq_true_eq, decide_eq_false_iff_not] at hc13
              refine AMx.skip ?_
              refine AMx.seq ?_
              refine AMx.region (ces := []) (ks := [1, 5, 7, 10]) (hs := [5]) (cs := []) (s' := AS.lst 116 [(1, vc (slK l)), (5, vp 5 0), (7, vc (i6 (k : Int))), (10, vc (bo false))] [(5, AObj.row [.s (slT (stepT tt (List.getD l k lopd)))])]) (by kernel_rfl) ?_ ?_
              · exact trivial
              refine AMx.seq ?_
              refine AMx.seq ?_
              refine AMx.region (ces := []) (ks := [1, 5, 7, 10, 11]) (hs := [5]) (cs := []) (s' := AS.lst 116 [(1, vc (slK l)), (5, vp 5 0), (7, vc (i6 (k : Int))), (10, vc (bo false)), (11, vc (i6 0))] [(5, AObj.row [.s (slT (stepT tt (List.getD l k lopd)))])]) (by kernel_rfl) ?_ ?_
              · exact trivial
              refine AMx.block ?_
              refine AMx.ent (s' := AS.lst 116 [(1, vc (slK l)), (5, vp 5 0), (7, vc (i6 (k : Int))), (10, vc (bo false)), (11, vc (i6 0))] [(5, AObj.row [.s (slT (stepT tt (List.getD l k lopd)))])]) (ent_proj [1, 5, 7, 10, 11] [5]) ?_
              refine AMx.loop (fun mm ss => ∃ (q : Nat), (q ≤ k + 1) ∧ mm = k + 1 - q ∧ ss = AS.lst 116 [(1, vc (slK l)), (5, vp 5 0), (7, vc (i6 (k : Int))), (10, vc (bo (goesS (stepT tt (List.getD l k lopd)) (List.take q l)))), (11, vc (i6 (q : Int)))] [(5, AObj.row [.s (slT (stepT tt (List.getD l k lopd)))])]) ⟨0, ?_, rfl, ?_⟩ ?_
              · omega
              · rfl
              rintro mm ss ⟨q, hI, rfl, rfl⟩
              refine AMx.seq ?_
              refine AMx.seq ?_
              refine AMx.region (ces := []) (ks := [1, 5, 7, 10, 11, 84]) (hs := [5]) (cs := []) (s' := AS.lst 116 [(1, vc (slK l)), (5, vp 5 0), (7, vc (i6 (k : Int))), (10, vc (bo (goesS (stepT tt (List.getD l k lopd)) (List.take q l)))), (11, vc (i6 (q : Int))), (84, vc (bo (decide ((q : Int) ≤ (k : Int)))))] [(5, AObj.row [.s (slT (stepT tt (List.getD l k lopd)))])]) (by kernel_rfl) ?_ ?_
              · exact trivial
              refine AMx.cond (b := decide ((q : Int) ≤ (k : Int))) (by kernel_rfl) (fun hc14 => ?_) (fun hc14 => ?_)
              · try simp only [decide_eq_true_eq, decide_eq_false_iff_not] at hc14
                refine AMx.skip ?_
                refine AMx.seq ?_
                refine AMx.block ?_
                refine AMx.seq ?_
                refine AMx.region_draw (ces := [(6, CE.call [] [] (AV.tup [tc (i6 (max 0 (waitIx (stepT tt (List.getD l k lopd)) ((List.getD l q lopd).who)))), tc (bo (decide (0 ≤ waitIx (stepT tt (List.getD l k lopd)) ((List.getD l q lopd).who))))]) [])]) (ros := [(0, [5])]) (ks := [1, 5, 7, 10, 11, 13]) (hs := [5]) (cs := [(0 : Int) ≤ (q : Int), (q : Int) < List.length l, Spec Try.prog 63 [TV.agg [.s (slT (stepT tt (List.getD l k lopd)))], tc (i6 ((List.getD l q lopd).who))] (ofH []) (AV.tup [tc (i6 (max 0 (waitIx (stepT tt (List.getD l k lopd)) ((List.getD l q lopd).who)))), tc (bo (decide (0 ≤ waitIx (stepT tt (List.getD l k lopd)) ((List.getD l q lopd).who))))]) (ofH [])]) (s' := AS.lst 116 [(1, vc (slK l)), (5, vp 5 0), (7, vc (i6 (k : Int))), (10, vc (bo (goesS (stepT tt (List.getD l k lopd)) (List.take q l)))), (11, vc (i6 (q : Int))), (13, vc (bo (decide (0 ≤ waitIx (stepT tt (List.getD l k lopd)) ((List.getD l q lopd).who)))))] [(5, AObj.row [.s (slT (stepT tt (List.getD l k lopd)))])]) mixed (by kernel_rfl) ?_ ?_
                · exact ⟨(show (0 : Int) ≤ (q : Int) from (by omega)), (show (q : Int) < List.length l from (by omega)), (TWaits_c (stepT tt (List.getD l k lopd)) ((List.getD l q lopd).who))⟩
                refine AMx.region_draw (ces := [(11, CE.call [] [] (vc (slI (heldS (stepT tt (List.getD l k lopd)) ((List.getD l q lopd).who) (List.length (stepT tt (List.getD l k lopd)))))) [])]) (ros := [(5, [5])]) (ks := [1, 5, 7, 10, 11]) (hs := [5]) (cs := [((goesS (stepT tt (List.getD l k lopd)) (List.take q l)) = false) → allP [], ((goesS (stepT tt (List.getD l k lopd)) (List.take q l)) = false) → allP [(goesS (stepT tt (List.getD l k lopd)) (List.take q l)) = false], ((goesS (stepT tt (List.getD l k lopd)) (List.take q l)) = false) → allP [(goesS (stepT tt (List.getD l k lopd)) (List.take q l)) = false], (((goesS (stepT tt (List.getD l k lopd)) (List.take q l)) = false) ∧ (!(decide (0 ≤ waitIx (stepT tt (List.getD l k lopd)) ((List.getD l q lopd).who)))) = true) → allP [], (((goesS (stepT tt (List.getD l k lopd)) (List.take q l)) = false) ∧ (!(decide (0 ≤ waitIx (stepT tt (List.getD l k lopd)) ((List.getD l q lopd).who)))) = true) → allP [], (((goesS (stepT tt (List.getD l k lopd)) (List.take q l)) = false) ∧ (!(decide (0 ≤ waitIx (stepT tt (List.getD l k lopd)) ((List.getD l q lopd).who)))) = true) → allP [], (((goesS (stepT tt (List.getD l k lopd)) (List.take q l)) = false) ∧ (!(decide (0 ≤ waitIx (stepT tt (List.getD l k lopd)) ((List.getD l q lopd).who)))) = true) → allP [((goesS (stepT tt (List.getD l k lopd)) (List.take q l)) = false) ∧ (!(decide (0 ≤ waitIx (stepT tt (List.getD l k lopd)) ((List.getD l q lopd).who)))) = true, ((goesS (stepT tt (List.getD l k lopd)) (List.take q l)) = false) ∧ (!(decide (0 ≤ waitIx (stepT tt (List.getD l k lopd)) ((List.getD l q lopd).who)))) = true, (0 : Int) ≤ (q : Int), (q : Int) < List.length l], (((goesS (stepT tt (List.getD l k lopd)) (List.take q l)) = false) ∧ (!(decide (0 ≤ waitIx (stepT tt (List.getD l k lopd)) ((List.getD l q lopd).who)))) = true) → allP [((goesS (stepT tt (List.getD l k lopd)) (List.take q l)) = false) ∧ (!(decide (0 ≤ waitIx (stepT tt (List.getD l k lopd)) ((List.getD l q lopd).who)))) = true], (((goesS (stepT tt (List.getD l k lopd)) (List.take q l)) = false) ∧ (!(decide (0 ≤ waitIx (stepT tt (List.getD l k lopd)) ((List.getD l q lopd).who)))) = true) → allP [((goesS (stepT tt (List.getD l k lopd)) (List.take q l)) = false) ∧ (!(decide (0 ≤ waitIx (stepT tt (List.getD l k lopd)) ((List.getD l q lopd).who)))) = true], (((goesS (stepT tt (List.getD l k lopd)) (List.take q l)) = false) ∧ (!(decide (0 ≤ waitIx (stepT tt (List.getD l k lopd)) ((List.getD l q lopd).who)))) = true) → allP [((goesS (stepT tt (List.getD l k lopd)) (List.take q l)) = false) ∧ (!(decide (0 ≤ waitIx (stepT tt (List.getD l k lopd)) ((List.getD l q lopd).who)))) = true, ((goesS (stepT tt (List.getD l k lopd)) (List.take q l)) = false) ∧ (!(decide (0 ≤ waitIx (stepT tt (List.getD l k lopd)) ((List.getD l q lopd).who)))) = true, Spec Try.prog 64 [TV.agg [.s (slT (stepT tt (List.getD l k lopd)))], tc (i6 ((List.getD l q lopd).who))] (ofH []) (vc (slI (heldS (stepT tt (List.getD l k lopd)) ((List.getD l q lopd).who) (List.length (stepT tt (List.getD l k lopd)))))) (ofH [])], (((goesS (stepT tt (List.getD l k lopd)) (List.take q l)) = false) ∧ (!(decide (0 ≤ waitIx (stepT tt (List.getD l k lopd)) ((List.getD l q lopd).who)))) = true) → allP [((goesS (stepT tt (List.getD l k lopd)) (List.take q l)) = false) ∧ (!(decide (0 ≤ waitIx (stepT tt (List.getD l k lopd)) ((List.getD l q lopd).who)))) = true], (((goesS (stepT tt (List.getD l k lopd)) (List.take q l)) = false) ∧ (!(decide (0 ≤ waitIx (stepT tt (List.getD l k lopd)) ((List.getD l q lopd).who)))) = true) → allP [((goesS (stepT tt (List.getD l k lopd)) (List.take q l)) = false) ∧ (!(decide (0 ≤ waitIx (stepT tt (List.getD l k lopd)) ((List.getD l q lopd).who)))) = true], ((goesS (stepT tt (List.getD l k lopd)) (List.take q l)) = false) → allP [(goesS (stepT tt (List.getD l k lopd)) (List.take q l)) = false, (!(decide (0 ≤ waitIx (stepT tt (List.getD l k lopd)) ((List.getD l q lopd).who)))) = true → allP [((goesS (stepT tt (List.getD l k lopd)) (List.take q l)) = false) ∧ (!(decide (0 ≤ waitIx (stepT tt (List.getD l k lopd)) ((List.getD l q lopd).who)))) = true]], (goesS (stepT tt (List.getD l k lopd)) (List.take q l)) = false → allP [(goesS (stepT tt (List.getD l k lopd)) (List.take q l)) = false]]) (s' := AS.lst 116 [(1, vc (slK l)), (5, vp 5 0), (7, vc (i6 (k : Int))), (10, vc (bo ((goesS (stepT tt (List.getD l k lopd)) (List.take q l)) || ((!(decide (0 ≤ waitIx (stepT tt (List.getD l k lopd)) ((List.getD l q lopd).who)))) && (decide (0 < (List.length (heldS (stepT tt (List.getD l k lopd)) ((List.getD l q lopd).who) (List.length (stepT tt (List.getD l k lopd))) : List Int) : Int))))))), (11, vc (i6 (q : Int)))] [(5, AObj.row [.s (slT (stepT tt (List.getD l k lopd)))])]) mixed (by kernel_rfl) ?_ ?_
                · exact ⟨(fun _ => trivial), (fun hp => hp), (fun hp => hp), (fun _ => trivial), (fun _ => trivial), (fun _ => trivial), (fun hp => by have hq := hp; (try simp only [decide_eq_true_eq, decide_eq_false_iff_not, Bool.and_eq_true, Bool.or_eq_true, Bool.and_eq_false_iff, Bool.or_eq_false_iff, Bool.not_eq_true', Bool.not_eq_false', Bool.not_eq_true, Bool.not_eq_false] at hq); exact ⟨hp, hp, (show (0 : Int) ≤ (q : Int) from (by omega)), (show (q : Int) < List.length l from (by omega))⟩), (fun hp => hp), (fun hp => hp), (fun hp => by have hq := hp; (try simp only [decide_eq_true_eq, decide_eq_false_iff_not, Bool.and_eq_true, Bool.or_eq_true, Bool.and_eq_false_iff, Bool.or_eq_false_iff, Bool.not_eq_true', Bool.not_eq_false', Bool.not_eq_true, Bool.not_eq_false] at hq); exact ⟨hp, hp, (THeld_c (stepT tt (List.getD l k lopd)) ((List.getD l q lopd).who) (good_len (n := 61) (by first | exact good_mono hT.good (by omega) | exact good_mono (ok_step _ hT).good (by omega) | exact good_mono (ok_ask hT).good (by omega) | exact good_mono (ok_quit _ (ok_ask hT)).good (by omega))))⟩), (fun hp => hp), (fun hp => hp), (fun hp => by have hq := hp; (try simp only [decide_eq_true_eq, decide_eq_false_iff_not, Bool.and_eq_true, Bool.or_eq_true, Bool.and_eq_false_iff, Bool.or_eq_false_iff, Bool.not_eq_true', Bool.not_eq_false', Bool.not_eq_true, Bool.not_eq_false] at hq); exact ⟨hp, (fun hp2 => (by first | exact hp2 | exact ⟨hp, hp2⟩))⟩), (fun hp2 => (by first | exact hp2 | exact ⟨hp, hp2⟩))⟩
                refine AMx.blk ?_
                refine AMx.region (ces := []) (ks := [1, 5, 7, 10, 11]) (hs := [5]) (cs := [InR .i64 ((q : Int) + 1)]) (s' := AS.lst 116 [(1, vc (slK l)), (5, vp 5 0), (7, vc (i6 (k : Int))), (10, vc (bo ((goesS (stepT tt (List.getD l k lopd)) (List.take q l)) || ((!(decide (0 ≤ waitIx (stepT tt (List.getD l k lopd)) ((List.getD l q lopd).who)))) && (decide (0 < (List.length (heldS (stepT tt (List.getD l k lopd)) ((List.getD l q lopd).who) (List.length (stepT tt (List.getD l k lopd))) : List Int) : Int))))))), (11, vc (i6 ((q : Int) + 1)))] [(5, AObj.row [.s (slT (stepT tt (List.getD l k lopd)))])]) (by kernel_rfl) ?_ ?_
                · exact (show InR .i64 ((q : Int) + 1) from (inR64 (by omega) (by omega)))
                refine AMx.ent_inv (s' := AS.lst 116 [(1, vc (slK l)), (5, vp 5 0), (7, vc (i6 (k : Int))), (10, vc (bo ((goesS (stepT tt (List.getD l k lopd)) (List.take q l)) || ((!(decide (0 ≤ waitIx (stepT tt (List.getD l k lopd)) ((List.getD l q lopd).who)))) && (decide (0 < (List.length (heldS (stepT tt (List.getD l k lopd)) ((List.getD l q lopd).who) (List.length (stepT tt (List.getD l k lopd))) : List Int) : Int))))))), (11, vc (i6 ((q : Int) + 1)))] [(5, AObj.row [.s (slT (stepT tt (List.getD l k lopd)))])]) (ent_proj [1, 5, 7, 10, 11] [5]) ?_
                refine AMx.inv ⟨_, ?_, q + 1, ?_, rfl, ?_⟩
                rotate_left
                · omega
                · rw [← goes_step _ l q (by omega)]; rfl
                · omega
              · try simp only [decide_eq_true_eq, decide_eq_false_iff_not] at hc14
                refine AMx.exit ?_
                refine AMx.code_exit ?_
                refine AMx.inv_exit ?_
                refine AMx.blk_exit ?_
                refine AMx.seq ?_
                refine AMx.region (ces := []) (ks := [1, 5, 7, 114]) (hs := [5]) (cs := []) (s' := AS.lst 116 [(1, vc (slK l)), (5, vp 5 0), (7, vc (i6 (k : Int))), (114, vc (bo (!(goesS (stepT tt (List.getD l k lopd)) (List.take q l)))))] [(5, AObj.row [.s (slT (stepT tt (List.getD l k lopd)))])]) (by kernel_rfl) ?_ ?_
                · exact trivial
                refine AMx.cond (b := !(goesS (stepT tt (List.getD l k lopd)) (List.take q l))) (by kernel_rfl) (fun hc15 => ?_) (fun hc15 => ?_)
                · try simp only [decide_eq_true_eq, decide_eq_false_iff_not, Bool.not_eq_true', Bool.not_eq_false'] at hc15
                  refine AMx.seq ?_
                  refine AMx.region (ces := []) (ks := [4]) (hs := []) (cs := []) (s' := AS.lst 116 [(4, vc (bo false))] []) (by kernel_rfl) ?_ ?_
                  · exact trivial
                  refine AMx.ret ?_
                  exact RetP.mk (r := vc (bo false)) (by kernel_rfl) (by exfalso; have hT2 := ok_step (List.getD l k lopd) hT; rw [← whos_step l k (by omega)] at hT2; have hv := goes_never hT2 (by assumption); have hq : q = k + 1 := (by omega); subst hq; have hz := hc15; rw [hv] at hz; cases hz)
                · try simp only [decide_eq_true_eq, decide_eq_false_iff_not, Bool.not_eq_true', Bool.not_eq_false'] at hc15
                  refine AMx.skip ?_
                  refine AMx.blk ?_
                  refine AMx.region (ces := []) (ks := [1, 5, 7]) (hs := [5]) (cs := [InR .i64 ((k : Int) + 1)]) (s' := AS.lst 116 [(1, vc (slK l)), (5, vp 5 0), (7, vc (i6 ((k : Int) + 1)))] [(5, AObj.row [.s (slT (stepT tt (List.getD l k lopd)))])]) (by kernel_rfl) ?_ ?_
                  · exact (show InR .i64 ((k : Int) + 1) from (inR64 (by omega) (by omega)))
                  refine AMx.ent_inv (s' := AS.lst 116 [(1, vc (slK l)), (5, vp 5 0), (7, vc (i6 ((k : Int) + 1)))] [(5, AObj.row [.s (slT (stepT tt (List.getD l k lopd)))])]) (ent_proj [1, 5, 7] [5]) ?_
                  refine AMx.inv ⟨_, ?_, k + 1, stepT tt (List.getD l k lopd), ?_, rfl, ?_⟩
                  rotate_left
                  · exact ⟨by omega, by rw [whos_step l k (by omega)]; exact ok_step _ hT⟩
                  · rfl
                  · omega
          · try simp only [decide_eq_true_eq, decide_eq_false_iff_not] at hc12
            refine AMx.region (ces := [(7, CE.call [] [] (AV.tup [TV.agg [.s (slT ((askT tt ((List.getD l k lopd).who) ((List.getD l k lopd).lock) ((List.getD l k lopd).mode)).1))], tc (bo ((askT tt ((List.getD l k lopd).who) ((List.getD l k lopd).lock) ((List.getD l k lopd).mode)).2.1)), tc (i6 ((askT tt ((List.getD l k lopd).who) ((List.getD l k lopd).lock) ((List.getD l k lopd).mode)).2.2))]) [])]) (ks := [1, 5, 7]) (hs := [5]) (cs := [Spec Try.prog 58 [TV.agg [.s (slT tt)], tc (i6 ((List.getD l k lopd).who)), tc (i6 ((List.getD l k lopd).lock)), tc (u8 ((List.getD l k lopd).mode))] (ofH []) (AV.tup [TV.agg [.s (slT ((askT tt ((List.getD l k lopd).who) ((List.getD l k lopd).lock) ((List.getD l k lopd).mode)).1))], tc (bo ((askT tt ((List.getD l k lopd).who) ((List.getD l k lopd).lock) ((List.getD l k lopd).mode)).2.1)), tc (i6 ((askT tt ((List.getD l k lopd).who) ((List.getD l k lopd).lock) ((List.getD l k lopd).mode)).2.2))]) (ofH [])]) (s' := AS.lst 116 [(1, vc (slK l)), (5, vp 5 0), (7, vc (i6 (k : Int)))] [(5, AObj.row [.s (slT ((askT tt ((List.getD l k lopd).who) ((List.getD l k lopd).lock) ((List.getD l k lopd).mode)).1))])]) (by kernel_rfl) ?_ ?_
            · exact (TAsk_c tt ((List.getD l k lopd).who) ((List.getD l k lopd).lock) ((List.getD l k lopd).mode) 61 (by first | exact good_mono hT.good (by omega) | exact good_mono (ok_step _ hT).good (by omega) | exact good_mono (ok_ask hT).good (by omega) | exact good_mono (ok_quit _ (ok_ask hT)).good (by omega)) (by omega))
            rw [show (askT tt ((List.getD l k lopd).who) ((List.getD l k lopd).lock) ((List.getD l k lopd).mode)).1 = stepT tt (List.getD l k lopd) from (by unfold stepT; first | rw [if_pos (by omega)] | rw [if_neg (by omega), if_pos (by omega)] | rw [if_neg (by omega), if_neg (by omega)])]
            refine AMx.blk ?_
            refine AMx.seq ?_
            refine AMx.region (ces := [(1, CE.call [] [] (vc (slI (blockedS (stepT tt (List.getD l k lopd))))) [])]) (ks := [1, 5, 7, 9]) (hs := [5]) (cs := [Spec Try.prog 61 [TV.agg [.s (slT (stepT tt (List.getD l k lopd)))]] (ofH []) (vc (slI (blockedS (stepT tt (List.getD l k lopd))))) (ofH [])]) (s' := AS.lst 116 [(1, vc (slK l)), (5, vp 5 0), (7, vc (i6 (k : Int))), (9, vc (slI (blockedS (stepT tt (List.getD l k lopd)))))] [(5, AObj.row [.s (slT (stepT tt (List.getD l k lopd)))])]) (by kernel_rfl) ?_ ?_
            · exact (Blocked_c (stepT tt (List.getD l k lopd)) 61 (by first | exact good_mono hT.good (by omega) | exact good_mono (ok_step _ hT).good (by omega) | exact good_mono (ok_ask hT).good (by omega) | exact good_mono (ok_quit _ (ok_ask hT)).good (by omega)) (by omega))
            refine AMx.seq ?_
            refine AMx.seq ?_
            refine AMx.region (ces := []) (ks := [1, 5, 7, 81]) (hs := [5]) (cs := []) (s' := AS.lst 116 [(1, vc (slK l)), (5, vp 5 0), (7, vc (i6 (k : Int))), (81, vc (bo (decide ((List.length (blockedS (stepT tt (List.getD l k lopd)) : List Int) : Int) = 0))))] [(5, AObj.row [.s (slT (stepT tt (List.getD l k lopd)))])]) (by kernel_rfl) ?_ ?_
            · exact trivial
            refine AMx.cond (b := decide ((List.length (blockedS (stepT tt (List.getD l k lopd)) : List Int) : Int) = 0)) (by kernel_rfl) (fun hc16 => ?_) (fun hc16 => ?_)
            · try simp only [decide_eq_true_eq, decide_eq_false_iff_not] at hc16
              refine AMx.exit ?_
              refine AMx.code_exit ?_
              refine AMx.blk_exit ?_
              refine AMx.region (ces := []) (ks := [1, 5, 7]) (hs := [5]) (cs := [InR .i64 ((k : Int) + 1)]) (s' := AS.lst 116 [(1, vc (slK l)), (5, vp 5 0), (7, vc (i6 ((k : Int) + 1)))] [(5, AObj.row [.s (slT (stepT tt (List.getD l k lopd)))])]) (by kernel_rfl) ?_ ?_
              · exact (show InR .i64 ((k : Int) + 1) from (inR64 (by omega) (by omega)))
              refine AMx.ent_inv (s' := AS.lst 116 [(1, vc (slK l)), (5, vp 5 0), (7, vc (i6 ((k : Int) + 1)))] [(5, AObj.row [.s (slT (stepT tt (List.getD l k lopd)))])]) (ent_proj [1, 5, 7] [5]) ?_
              refine AMx.inv ⟨_, ?_, k + 1, stepT tt (List.getD l k lopd), ?_, rfl, ?_⟩
              rotate_left
              · exact ⟨by omega, by rw [whos_step l k (by omega)]; exact ok_step _ hT⟩
              · rfl
              · omega
            · try simp only [decide_eq_true_eq, decide_eq_false_iff_not] at hc16
              refine AMx.skip ?_
              refine AMx.seq ?_
              refine AMx.region (ces := []) (ks := [1, 5, 7, 10]) (hs := [5]) (cs := []) (s' := AS.lst 116 [(1, vc (slK l)), (5, vp 5 0), (7, vc (i6 (k : Int))), (10, vc (bo false))] [(5, AObj.row [.s (slT (stepT tt (List.getD l k lopd)))])]) (by kernel_rfl) ?_ ?_
              · exact trivial
              refine AMx.seq ?_
              refine AMx.seq ?_
              refine AMx.region (ces := []) (ks := [1, 5, 7, 10, 11]) (hs := [5]) (cs := []) (s' := AS.lst 116 [(1, vc (slK l)), (5, vp 5 0), (7, vc (i6 (k : Int))), (10, vc (bo false)), (11, vc (i6 0))] [(5, AObj.row [.s (slT (stepT tt (List.getD l k lopd)))])]) (by kernel_rfl) ?_ ?_
              · exact trivial
              refine AMx.block ?_
              refine AMx.ent (s' := AS.lst 116 [(1, vc (slK l)), (5, vp 5 0), (7, vc (i6 (k : Int))), (10, vc (bo false)), (11, vc (i6 0))] [(5, AObj.row [.s (slT (stepT tt (List.getD l k lopd)))])]) (ent_proj [1, 5, 7, 10, 11] [5]) ?_
              refine AMx.loop (fun mm ss => ∃ (q : Nat), (q ≤ k + 1) ∧ mm = k + 1 - q ∧ ss = AS.lst 116 [(1, vc (slK l)), (5, vp 5 0), (7, vc (i6 (k : Int))), (10, vc (bo (goesS (stepT tt (List.getD l k lopd)) (List.take q l)))), (11, vc (i6 (q : Int)))] [(5, AObj.row [.s (slT (stepT tt (List.getD l k lopd)))])]) ⟨0, ?_, rfl, ?_⟩ ?_
              · omega
              · rfl
              rintro mm ss ⟨q, hI, rfl, rfl⟩
              refine AMx.seq ?_
              refine AMx.seq ?_
              refine AMx.region (ces := []) (ks := [1, 5, 7, 10, 11, 84]) (hs := [5]) (cs := []) (s' := AS.lst 116 [(1, vc (slK l)), (5, vp 5 0), (7, vc (i6 (k : Int))), (10, vc (bo (goesS (stepT tt (List.getD l k lopd)) (List.take q l)))), (11, vc (i6 (q : Int))), (84, vc (bo (decide ((q : Int) ≤ (k : Int)))))] [(5, AObj.row [.s (slT (stepT tt (List.getD l k lopd)))])]) (by kernel_rfl) ?_ ?_
              · exact trivial
              refine AMx.cond (b := decide ((q : Int) ≤ (k : Int))) (by kernel_rfl) (fun hc17 => ?_) (fun hc17 => ?_)
              · try simp only [decide_eq_true_eq, decide_eq_false_iff_not] at hc17
                refine AMx.skip ?_
                refine AMx.seq ?_
                refine AMx.block ?_
                refine AMx.seq ?_
                refine AMx.region_draw (ces := [(6, CE.call [] [] (AV.tup [tc (i6 (max 0 (waitIx (stepT tt (List.getD l k lopd)) ((List.getD l q lopd).who)))), tc (bo (decide (0 ≤ waitIx (stepT tt (List.getD l k lopd)) ((List.getD l q lopd).who))))]) [])]) (ros := [(0, [5])]) (ks := [1, 5, 7, 10, 11, 13]) (hs := [5]) (cs := [(0 : Int) ≤ (q : Int), (q : Int) < List.length l, Spec Try.prog 63 [TV.agg [.s (slT (stepT tt (List.getD l k lopd)))], tc (i6 ((List.getD l q lopd).who))] (ofH []) (AV.tup [tc (i6 (max 0 (waitIx (stepT tt (List.getD l k lopd)) ((List.getD l q lopd).who)))), tc (bo (decide (0 ≤ waitIx (stepT tt (List.getD l k lopd)) ((List.getD l q lopd).who))))]) (ofH [])]) (s' := AS.lst 116 [(1, vc (slK l)), (5, vp 5 0), (7, vc (i6 (k : Int))), (10, vc (bo (goesS (stepT tt (List.getD l k lopd)) (List.take q l)))), (11, vc (i6 (q : Int))), (13, vc (bo (decide (0 ≤ waitIx (stepT tt (List.getD l k lopd)) ((List.getD l q lopd).who)))))] [(5, AObj.row [.s (slT (stepT tt (List.getD l k lopd)))])]) mixed (by kernel_rfl) ?_ ?_
                · exact ⟨(show (0 : Int) ≤ (q : Int) from (by omega)), (show (q : Int) < List.length l from (by omega)), (TWaits_c (stepT tt (List.getD l k lopd)) ((List.getD l q lopd).who))⟩
                refine AMx.region_draw (ces := [(11, CE.call [] [] (vc (slI (heldS (stepT tt (List.getD l k lopd)) ((List.getD l q lopd).who) (List.length (stepT tt (List.getD l k lopd)))))) [])]) (ros := [(5, [5])]) (ks := [1, 5, 7, 10, 11]) (hs := [5]) (cs := [((goesS (stepT tt (List.getD l k lopd)) (List.take q l)) = false) → allP [], ((goesS (stepT tt (List.getD l k lopd)) (List.take q l)) = false) → allP [(goesS (stepT tt (List.getD l k lopd)) (List.take q l)) = false], ((goesS (stepT tt (List.getD l k lopd)) (List.take q l)) = false) → allP [(goesS (stepT tt (List.getD l k lopd)) (List.take q l)) = false], (((goesS (stepT tt (List.getD l k lopd)) (List.take q l)) = false) ∧ (!(decide (0 ≤ waitIx (stepT tt (List.getD l k lopd)) ((List.getD l q lopd).who)))) = true) → allP [], (((goesS (stepT tt (List.getD l k lopd)) (List.take q l)) = false) ∧ (!(decide (0 ≤ waitIx (stepT tt (List.getD l k lopd)) ((List.getD l q lopd).who)))) = true) → allP [], (((goesS (stepT tt (List.getD l k lopd)) (List.take q l)) = false) ∧ (!(decide (0 ≤ waitIx (stepT tt (List.getD l k lopd)) ((List.getD l q lopd).who)))) = true) → allP [], (((goesS (stepT tt (List.getD l k lopd)) (List.take q l)) = false) ∧ (!(decide (0 ≤ waitIx (stepT tt (List.getD l k lopd)) ((List.getD l q lopd).who)))) = true) → allP [((goesS (stepT tt (List.getD l k lopd)) (List.take q l)) = false) ∧ (!(decide (0 ≤ waitIx (stepT tt (List.getD l k lopd)) ((List.getD l q lopd).who)))) = true, ((goesS (stepT tt (List.getD l k lopd)) (List.take q l)) = false) ∧ (!(decide (0 ≤ waitIx (stepT tt (List.getD l k lopd)) ((List.getD l q lopd).who)))) = true, (0 : Int) ≤ (q : Int), (q : Int) < List.length l], (((goesS (stepT tt (List.getD l k lopd)) (List.take q l)) = false) ∧ (!(decide (0 ≤ waitIx (stepT tt (List.getD l k lopd)) ((List.getD l q lopd).who)))) = true) → allP [((goesS (stepT tt (List.getD l k lopd)) (List.take q l)) = false) ∧ (!(decide (0 ≤ waitIx (stepT tt (List.getD l k lopd)) ((List.getD l q lopd).who)))) = true], (((goesS (stepT tt (List.getD l k lopd)) (List.take q l)) = false) ∧ (!(decide (0 ≤ waitIx (stepT tt (List.getD l k lopd)) ((List.getD l q lopd).who)))) = true) → allP [((goesS (stepT tt (List.getD l k lopd)) (List.take q l)) = false) ∧ (!(decide (0 ≤ waitIx (stepT tt (List.getD l k lopd)) ((List.getD l q lopd).who)))) = true], (((goesS (stepT tt (List.getD l k lopd)) (List.take q l)) = false) ∧ (!(decide (0 ≤ waitIx (stepT tt (List.getD l k lopd)) ((List.getD l q lopd).who)))) = true) → allP [((goesS (stepT tt (List.getD l k lopd)) (List.take q l)) = false) ∧ (!(decide (0 ≤ waitIx (stepT tt (List.getD l k lopd)) ((List.getD l q lopd).who)))) = true, ((goesS (stepT tt (List.getD l k lopd)) (List.take q l)) = false) ∧ (!(decide (0 ≤ waitIx (stepT tt (List.getD l k lopd)) ((List.getD l q lopd).who)))) = true, Spec Try.prog 64 [TV.agg [.s (slT (stepT tt (List.getD l k lopd)))], tc (i6 ((List.getD l q lopd).who))] (ofH []) (vc (slI (heldS (stepT tt (List.getD l k lopd)) ((List.getD l q lopd).who) (List.length (stepT tt (List.getD l k lopd)))))) (ofH [])], (((goesS (stepT tt (List.getD l k lopd)) (List.take q l)) = false) ∧ (!(decide (0 ≤ waitIx (stepT tt (List.getD l k lopd)) ((List.getD l q lopd).who)))) = true) → allP [((goesS (stepT tt (List.getD l k lopd)) (List.take q l)) = false) ∧ (!(decide (0 ≤ waitIx (stepT tt (List.getD l k lopd)) ((List.getD l q lopd).who)))) = true], (((goesS (stepT tt (List.getD l k lopd)) (List.take q l)) = false) ∧ (!(decide (0 ≤ waitIx (stepT tt (List.getD l k lopd)) ((List.getD l q lopd).who)))) = true) → allP [((goesS (stepT tt (List.getD l k lopd)) (List.take q l)) = false) ∧ (!(decide (0 ≤ waitIx (stepT tt (List.getD l k lopd)) ((List.getD l q lopd).who)))) = true], ((goesS (stepT tt (List.getD l k lopd)) (List.take q l)) = false) → allP [(goesS (stepT tt (List.getD l k lopd)) (List.take q l)) = false, (!(decide (0 ≤ waitIx (stepT tt (List.getD l k lopd)) ((List.getD l q lopd).who)))) = true → allP [((goesS (stepT tt (List.getD l k lopd)) (List.take q l)) = false) ∧ (!(decide (0 ≤ waitIx (stepT tt (List.getD l k lopd)) ((List.getD l q lopd).who)))) = true]], (goesS (stepT tt (List.getD l k lopd)) (List.take q l)) = false → allP [(goesS (stepT tt (List.getD l k lopd)) (List.take q l)) = false]]) (s' := AS.lst 116 [(1, vc (slK l)), (5, vp 5 0), (7, vc (i6 (k : Int))), (10, vc (bo ((goesS (stepT tt (List.getD l k lopd)) (List.take q l)) || ((!(decide (0 ≤ waitIx (stepT tt (List.getD l k lopd)) ((List.getD l q lopd).who)))) && (decide (0 < (List.length (heldS (stepT tt (List.getD l k lopd)) ((List.getD l q lopd).who) (List.length (stepT tt (List.getD l k lopd))) : List Int) : Int))))))), (11, vc (i6 (q : Int)))] [(5, AObj.row [.s (slT (stepT tt (List.getD l k lopd)))])]) mixed (by kernel_rfl) ?_ ?_
                · exact ⟨(fun _ => trivial), (fun hp => hp), (fun hp => hp), (fun _ => trivial), (fun _ => trivial), (fun _ => trivial), (fun hp => by have hq := hp; (try simp only [decide_eq_true_eq, decide_eq_false_iff_not, Bool.and_eq_true, Bool.or_eq_true, Bool.and_eq_false_iff, Bool.or_eq_false_iff, Bool.not_eq_true', Bool.not_eq_false', Bool.not_eq_true, Bool.not_eq_false] at hq); exact ⟨hp, hp, (show (0 : Int) ≤ (q : Int) from (by omega)), (show (q : Int) < List.length l from (by omega))⟩), (fun hp => hp), (fun hp => hp), (fun hp => by have hq := hp; (try simp only [decide_eq_true_eq, decide_eq_false_iff_not, Bool.and_eq_true, Bool.or_eq_true, Bool.and_eq_false_iff, Bool.or_eq_false_iff, Bool.not_eq_true', Bool.not_eq_false', Bool.not_eq_true, Bool.not_eq_false] at hq); exact ⟨hp, hp, (THeld_c (stepT tt (List.getD l k lopd)) ((List.getD l q lopd).who) (good_len (n := 61) (by first | exact good_mono hT.good (by omega) | exact good_mono (ok_step _ hT).good (by omega) | exact good_mono (ok_ask hT).good (by omega) | exact good_mono (ok_quit _ (ok_ask hT)).good (by omega))))⟩), (fun hp => hp), (fun hp => hp), (fun hp => by have hq := hp; (try simp only [decide_eq_true_eq, decide_eq_false_iff_not, Bool.and_eq_true, Bool.or_eq_true, Bool.and_eq_false_iff, Bool.or_eq_false_iff, Bool.not_eq_true', Bool.not_eq_false', Bool.not_eq_true, Bool.not_eq_false] at hq); exact ⟨hp, (fun hp2 => (by first | exact hp2 | exact ⟨hp, hp2⟩))⟩), (fun hp2 => (by first | exact hp2 | exact ⟨hp, hp2⟩))⟩
                refine AMx.blk ?_
                refine AMx.region (ces := []) (ks := [1, 5, 7, 10, 11]) (hs := [5]) (cs := [InR .i64 ((q : Int) + 1)]) (s' := AS.lst 116 [(1, vc (slK l)), (5, vp 5 0), (7, vc (i6 (k : Int))), (10, vc (bo ((goesS (stepT tt (List.getD l k lopd)) (List.take q l)) || ((!(decide (0 ≤ waitIx (stepT tt (List.getD l k lopd)) ((List.getD l q lopd).who)))) && (decide (0 < (List.length (heldS (stepT tt (List.getD l k lopd)) ((List.getD l q lopd).who) (List.length (stepT tt (List.getD l k lopd))) : List Int) : Int))))))), (11, vc (i6 ((q : Int) + 1)))] [(5, AObj.row [.s (slT (stepT tt (List.getD l k lopd)))])]) (by kernel_rfl) ?_ ?_
                · exact (show InR .i64 ((q : Int) + 1) from (inR64 (by omega) (by omega)))
                refine AMx.ent_inv (s' := AS.lst 116 [(1, vc (slK l)), (5, vp 5 0), (7, vc (i6 (k : Int))), (10, vc (bo ((goesS (stepT tt (List.getD l k lopd)) (List.take q l)) || ((!(decide (0 ≤ waitIx (stepT tt (List.getD l k lopd)) ((List.getD l q lopd).who)))) && (decide (0 < (List.length (heldS (stepT tt (List.getD l k lopd)) ((List.getD l q lopd).who) (List.length (stepT tt (List.getD l k lopd))) : List Int) : Int))))))), (11, vc (i6 ((q : Int) + 1)))] [(5, AObj.row [.s (slT (stepT tt (List.getD l k lopd)))])]) (ent_proj [1, 5, 7, 10, 11] [5]) ?_
                refine AMx.inv ⟨_, ?_, q + 1, ?_, rfl, ?_⟩
                rotate_left
                · omega
                · rw [← goes_step _ l q (by omega)]; rfl
                · omega
              · try simp only [decide_eq_true_eq, decide_eq_false_iff_not] at hc17
                refine AMx.exit ?_
                refine AMx.code_exit ?_
                refine AMx.inv_exit ?_
                refine AMx.blk_exit ?_
                refine AMx.seq ?_
                refine AMx.region (ces := []) (ks := [1, 5, 7, 114]) (hs := [5]) (cs := []) (s' := AS.lst 116 [(1, vc (slK l)), (5, vp 5 0), (7, vc (i6 (k : Int))), (114, vc (bo (!(goesS (stepT tt (List.getD l k lopd)) (List.take q l)))))] [(5, AObj.row [.s (slT (stepT tt (List.getD l k lopd)))])]) (by kernel_rfl) ?_ ?_
                · exact trivial
                refine AMx.cond (b := !(goesS (stepT tt (List.getD l k lopd)) (List.take q l))) (by kernel_rfl) (fun hc18 => ?_) (fun hc18 => ?_)
                · try simp only [decide_eq_true_eq, decide_eq_false_iff_not, Bool.not_eq_true', Bool.not_eq_false'] at hc18
                  refine AMx.seq ?_
                  refine AMx.region (ces := []) (ks := [4]) (hs := []) (cs := []) (s' := AS.lst 116 [(4, vc (bo false))] []) (by kernel_rfl) ?_ ?_
                  · exact trivial
                  refine AMx.ret ?_
                  exact RetP.mk (r := vc (bo false)) (by kernel_rfl) (by exfalso; have hT2 := ok_step (List.getD l k lopd) hT; rw [← whos_step l k (by omega)] at hT2; have hv := goes_never hT2 (by assumption); have hq : q = k + 1 := (by omega); subst hq; have hz := hc18; rw [hv] at hz; cases hz)
                · try simp only [decide_eq_true_eq, decide_eq_false_iff_not, Bool.not_eq_true', Bool.not_eq_false'] at hc18
                  refine AMx.skip ?_
                  refine AMx.blk ?_
                  refine AMx.region (ces := []) (ks := [1, 5, 7]) (hs := [5]) (cs := [InR .i64 ((k : Int) + 1)]) (s' := AS.lst 116 [(1, vc (slK l)), (5, vp 5 0), (7, vc (i6 ((k : Int) + 1)))] [(5, AObj.row [.s (slT (stepT tt (List.getD l k lopd)))])]) (by kernel_rfl) ?_ ?_
                  · exact (show InR .i64 ((k : Int) + 1) from (inR64 (by omega) (by omega)))
                  refine AMx.ent_inv (s' := AS.lst 116 [(1, vc (slK l)), (5, vp 5 0), (7, vc (i6 ((k : Int) + 1)))] [(5, AObj.row [.s (slT (stepT tt (List.getD l k lopd)))])]) (ent_proj [1, 5, 7] [5]) ?_
                  refine AMx.inv ⟨_, ?_, k + 1, stepT tt (List.getD l k lopd), ?_, rfl, ?_⟩
                  rotate_left
                  · exact ⟨by omega, by rw [whos_step l k (by omega)]; exact ok_step _ hT⟩
                  · rfl
                  · omega
    · try simp only [decide_eq_true_eq, decide_eq_false_iff_not] at hc2
      refine AMx.exit ?_
      refine AMx.code_exit ?_
      refine AMx.inv_exit ?_
      refine AMx.blk_exit ?_
      refine AMx.seq ?_
      refine AMx.region (ces := [(0, CE.call [] [] (vc (bo true)) [])]) (ks := [4]) (hs := []) (cs := [Spec Try.prog 50 [] (ofH []) (vc (bo true)) (ofH [])]) (s' := AS.lst 116 [(4, vc (bo true))] []) (by kernel_rfl) ?_ ?_
      · exact (awake_c)
      refine AMx.ret ?_
      exact RetP.mk (r := vc (bo true)) (by kernel_rfl) rfl

end AL.Locks
