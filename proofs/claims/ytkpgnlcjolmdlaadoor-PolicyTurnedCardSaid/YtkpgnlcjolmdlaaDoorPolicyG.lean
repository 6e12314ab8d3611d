/- policy: the contracts of its functions, by their walks. No condition. -/
import Derived.Test.YtkpgnlcjolmdlaaDoorPolicyB
namespace AL.Policy
open Go Go.Proofs AL AL.Rune
set_option linter.unusedVariables false
set_option linter.unusedSimpArgs false

theorem f24_body : Tryd.f24.body = some (.seq (.region 0 (rg Tryd.f24 0) false) (.seq (.seq (.region 1 (rg Tryd.f24 1) false) (.cond (.tmp 16) (.seq (.region 2 (rg Tryd.f24 2) false) (.ret)) (.skip))) (.seq (.seq (.region 3 (rg Tryd.f24 3) false) (.block 0 (.loop (.seq (.region 4 (rg Tryd.f24 4) false) (.seq (.cond (.tmp 21) (.skip) (.exit 0)) (.seq (.block 1 (.seq (.region 5 (rg Tryd.f24 5) false) (.seq (.region 6 (rg Tryd.f24 6) false) (.block 2 (.loop (.seq (.region 7 (rg Tryd.f24 7) false) (.seq (.cond (.tmp 26) (.skip) (.exit 2)) (.seq (.block 3 (.seq (.region 8 (rg Tryd.f24 8) false) (.seq (.region 9 (rg Tryd.f24 9) true) (.cond (.tmp 37) (.seq (.region 10 (rg Tryd.f24 10) false) (.ret)) (.skip))))) (.region 11 (rg Tryd.f24 11) false))))))))) (.region 12 (rg Tryd.f24 12) false))))))) (.seq (.region 13 (rg Tryd.f24 13) false) (.ret))))) := by kernel_rfl

set_option maxRecDepth 100000 in
set_option maxHeartbeats 8000000 in
theorem Covers_c (a b : List RuleV) : Pure Tryd.prog 24 [tc (slP a), tc (slP b)] (vc (bo (coversS a b))) := by
  refine Pure.of_body Tryd.func24 f24_body (by kernel_rfl) Tryd.ntmps24 (by kernel_rfl) (by kernel_rfl) ?_
  refine AMx.seq ?_
  refine AMx.region (ces := []) (ks := [0, 1]) (hs := []) (cs := []) (s' := AS.lst 40 [(0, vc (slP a)), (1, vc (slP b))] []) (by kernel_rfl) ?_ ?_
  · exact trivial
  refine AMx.seq ?_
  refine AMx.seq ?_
  refine AMx.region (ces := [(1, CE.call [] [] (vc (i6 (checkP a))) []), (5, CE.call [] [] (vc (i6 (checkP b))) [])]) (ks := [0, 1, 16]) (hs := []) (cs := [Spec Tryd.prog 11 [tc (slP a)] (ofH []) (vc (i6 (checkP a))) (ofH []), ((!decide (checkP a = 0)) = false) → allP [], ((!decide (checkP a = 0)) = false) → allP [(!decide (checkP a = 0)) = false, Spec Tryd.prog 11 [tc (slP b)] (ofH []) (vc (i6 (checkP b))) (ofH [])], ((!decide (checkP a = 0)) = false) → allP [(!decide (checkP a = 0)) = false], (!decide (checkP a = 0)) = false → allP [(!decide (checkP a = 0)) = false]]) (s' := AS.lst 40 [(0, vc (slP a)), (1, vc (slP b)), (16, vc (bo ((!decide (checkP a = 0)) || (!decide (checkP b = 0)))))] []) (by kernel_rfl) ?_ ?_
  · exact ⟨(Check_c a), (fun _ => trivial), (fun hp => by have hq := hp; (try simp only [decide_eq_true_eq, decide_eq_false_iff_not, Bool.and_eq_true, Bool.or_eq_true, Bool.and_eq_false_iff, Bool.or_eq_false_iff, Bool.not_eq_true', Bool.not_eq_false', Bool.not_eq_true, Bool.not_eq_false] at hq); exact ⟨hp, (Check_c b)⟩), (fun hp => hp), (fun hp2 => (by first | exact hp2 | exact ⟨hp, hp2⟩))⟩
  refine AMx.cond (b := ((!decide (checkP a = 0)) || (!decide (checkP b = 0)))) (by kernel_rfl) (fun hc1 => ?_) (fun hc1 => ?_)
  · try simp only [decide_eq_true_eq, decide_eq_false_iff_not, Bool.or_eq_true, Bool.or_eq_false_iff, Bool.not_eq_true', Bool.not_eq_false'] at hc1
    refine AMx.seq ?_
    refine AMx.region (ces := []) (ks := [4]) (hs := []) (cs := []) (s' := AS.lst 40 [(4, vc (bo false))] []) (by kernel_rfl) ?_ ?_
    · exact trivial
    refine AMx.ret ?_
    exact RetP.mk (r := vc (bo false)) (by kernel_rfl) (by first | (rw [covers_no (by omega)]; done) | (rw [covers_bad (l := a) (.inl rfl) (k := j) (by omega) (by assumption)]; done) | (rw [covers_bad (l := b) (.inr rfl) (k := j) (by omega) (by assumption)]))
  · try simp only [decide_eq_true_eq, decide_eq_false_iff_not, Bool.or_eq_true, Bool.or_eq_false_iff, Bool.not_eq_true', Bool.not_eq_false'] at hc1
    refine AMx.skip ?_
    refine AMx.seq ?_
    refine AMx.seq ?_
    refine AMx.region (ces := []) (ks := [0, 1, 19, 20]) (hs := []) (cs := []) (s' := AS.lst 40 [(0, vc (slP a)), (1, vc (slP b)), (19, AV.t (TV.agg [.s (slP a), .s (slP b)])), (20, vc (i6 0))] []) (by kernel_rfl) ?_ ?_
    · exact trivial
    refine AMx.block ?_
    refine AMx.ent (s' := AS.lst 40 [(0, vc (slP a)), (1, vc (slP b)), (19, AV.t (TV.agg [.s (slP a), .s (slP b)])), (20, vc (i6 0))] []) (ent_proj [0, 1, 19, 20] []) ?_
    refine AMx.loop (fun mm ss => ∃ (k : Nat), (k ≤ 2 ∧ (k = 0 ∨ coverS a b (prefS a) = true) ∧ (k ≤ 1 ∨ coverS a b (prefS b) = true)) ∧ mm = 2 - k ∧ ss = AS.lst 40 [(0, vc (slP a)), (1, vc (slP b)), (19, AV.t (TV.agg [.s (slP a), .s (slP b)])), (20, vc (i6 (k : Int)))] []) ⟨0, ?_, rfl, ?_⟩ ?_
    · exact ⟨by omega, .inl rfl, .inl (by omega)⟩
    · rfl
    rintro mm ss ⟨k, ⟨hI, hA, hB⟩, rfl, rfl⟩
    rcases (show k = 0 ∨ k = 1 ∨ k = 2 by omega) with rfl | rfl | rfl
    · skip
      refine AMx.seq ?_
      refine AMx.region (ces := []) (ks := [0, 1, 19, 20, 21]) (hs := []) (cs := []) (s' := AS.lst 40 [(0, vc (slP a)), (1, vc (slP b)), (19, AV.t (TV.agg [.s (slP a), .s (slP b)])), (20, vc (i6 0)), (21, vc (bo true))] []) (by kernel_rfl) ?_ ?_
      · exact trivial
      refine AMx.seq ?_
      refine AMx.cond (b := true) (by kernel_rfl) (fun hc2 => ?_) (fun hc2 => ?_)
      · skip
        refine AMx.skip ?_
        refine AMx.seq ?_
        refine AMx.block ?_
        refine AMx.seq ?_
        refine AMx.region (ces := []) (ks := [0, 1, 6, 19, 20]) (hs := []) (cs := [(0 : Int) ≤ 0, (0 : Int) < 2]) (s' := AS.lst 40 [(0, vc (slP a)), (1, vc (slP b)), (6, vc (slP a)), (19, AV.t (TV.agg [.s (slP a), .s (slP b)])), (20, vc (i6 0))] []) (by kernel_rfl) ?_ ?_
        · exact ⟨(show (0 : Int) ≤ 0 from (by first | omega | (have q1 := check_len (l := a) (by omega); have q2 := check_len (l := b) (by omega); omega))), (show (0 : Int) < 2 from (by first | omega | (have q1 := check_len (l := a) (by omega); have q2 := check_len (l := b) (by omega); omega)))⟩
        refine AMx.seq ?_
        refine AMx.region (ces := []) (ks := [0, 1, 19, 20, 23, 24, 25]) (hs := []) (cs := []) (s' := AS.lst 40 [(0, vc (slP a)), (1, vc (slP b)), (19, AV.t (TV.agg [.s (slP a), .s (slP b)])), (20, vc (i6 0)), (23, vc (slP a)), (24, vc (i6 (List.length a : Int))), (25, vc (i6 0))] []) (by kernel_rfl) ?_ ?_
        · exact trivial
        refine AMx.block ?_
        refine AMx.ent (s' := AS.lst 40 [(0, vc (slP a)), (1, vc (slP b)), (19, AV.t (TV.agg [.s (slP a), .s (slP b)])), (20, vc (i6 0)), (23, vc (slP a)), (24, vc (i6 (List.length a : Int))), (25, vc (i6 0))] []) (ent_proj [0, 1, 19, 20, 23, 24, 25] []) ?_
        refine AMx.loop (fun mm ss => ∃ (j : Nat), (j ≤ a.length ∧ coverS a b (prefS (List.take j a)) = true) ∧ mm = a.length - j ∧ ss = AS.lst 40 [(0, vc (slP a)), (1, vc (slP b)), (19, AV.t (TV.agg [.s (slP a), .s (slP b)])), (20, vc (i6 0)), (23, vc (slP a)), (24, vc (i6 (List.length a : Int))), (25, vc (i6 (j : Int)))] []) ⟨0, ?_, rfl, ?_⟩ ?_
        · exact ⟨Nat.zero_le _, rfl⟩
        · rfl
        rintro mm ss ⟨j, ⟨hJ, hC⟩, rfl, rfl⟩
        refine AMx.seq ?_
        refine AMx.region (ces := []) (ks := [0, 1, 19, 20, 23, 24, 25, 26]) (hs := []) (cs := []) (s' := AS.lst 40 [(0, vc (slP a)), (1, vc (slP b)), (19, AV.t (TV.agg [.s (slP a), .s (slP b)])), (20, vc (i6 0)), (23, vc (slP a)), (24, vc (i6 (List.length a : Int))), (25, vc (i6 (j : Int))), (26, vc (bo (decide ((j : Int) < (List.length a : Int)))))] []) (by kernel_rfl) ?_ ?_
        · exact trivial
        refine AMx.seq ?_
        refine AMx.cond (b := decide ((j : Int) < (List.length a : Int))) (by kernel_rfl) (fun hc3 => ?_) (fun hc3 => ?_)
        · try simp only [decide_eq_true_eq, decide_eq_false_iff_not] at hc3
          refine AMx.skip ?_
          refine AMx.seq ?_
          refine AMx.block ?_
          refine AMx.seq ?_
          refine AMx.region (ces := []) (ks := [0, 1, 8, 19, 20, 23, 24, 25]) (hs := [8]) (cs := [(0 : Int) ≤ (j : Int), (j : Int) < List.length a]) (s' := AS.lst 40 [(0, vc (slP a)), (1, vc (slP b)), (8, vp 8 0), (19, AV.t (TV.agg [.s (slP a), .s (slP b)])), (20, vc (i6 0)), (23, vc (slP a)), (24, vc (i6 (List.length a : Int))), (25, vc (i6 (j : Int)))] [(8, AObj.row [.s (st ((List.getD a j ([], 0)).1)), .s (u8 ((List.getD a j ([], 0)).2))])]) (by kernel_rfl) ?_ ?_
          · exact ⟨(show (0 : Int) ≤ (j : Int) from (by first | omega | (have q1 := check_len (l := a) (by omega); have q2 := check_len (l := b) (by omega); omega))), (show (j : Int) < List.length a from (by first | omega | (have q1 := check_len (l := a) (by omega); have q2 := check_len (l := b) (by omega); omega)))⟩
          refine AMx.seq ?_
          refine AMx.region_draw (ces := [(6, CE.call [] [] (vc (u8 (capsP a ((List.getD a j ([], 0)).1)))) []), (7, CE.call [] [] (vc (bo (allowsS b ((List.getD a j ([], 0)).1) (capsP a ((List.getD a j ([], 0)).1))))) [])]) (ros := [(2, [8]), (5, [8])]) (ks := [0, 1, 19, 20, 23, 24, 25, 37]) (hs := []) (cs := [Spec Tryd.prog 13 [tc (slP a), tc (st ((List.getD a j ([], 0)).1))] (ofH []) (vc (u8 (capsP a ((List.getD a j ([], 0)).1)))) (ofH []), Spec Tryd.prog 15 [tc (slP b), tc (st ((List.getD a j ([], 0)).1)), tc (u8 (capsP a ((List.getD a j ([], 0)).1)))] (ofH []) (vc (bo (allowsS b ((List.getD a j ([], 0)).1) (capsP a ((List.getD a j ([], 0)).1))))) (ofH [])]) (s' := AS.lst 40 [(0, vc (slP a)), (1, vc (slP b)), (19, AV.t (TV.agg [.s (slP a), .s (slP b)])), (20, vc (i6 0)), (23, vc (slP a)), (24, vc (i6 (List.length a : Int))), (25, vc (i6 (j : Int))), (37, vc (bo (!(allowsS b ((List.getD a j ([], 0)).1) (capsP a ((List.getD a j ([], 0)).1))))))] []) mixed (by kernel_rfl) ?_ ?_
          · exact ⟨(Caps_c a ((List.getD a j ([], 0)).1) (by first | omega | (have q1 := check_len (l := a) (by omega); have q2 := check_len (l := b) (by omega); omega))), (Allows_c b ((List.getD a j ([], 0)).1) (capsP a ((List.getD a j ([], 0)).1)) (by first | omega | (have q1 := check_len (l := a) (by omega); have q2 := check_len (l := b) (by omega); omega)))⟩
          refine AMx.cond (b := !(allowsS b ((List.getD a j ([], 0)).1) (capsP a ((List.getD a j ([], 0)).1)))) (by kernel_rfl) (fun hc4 => ?_) (fun hc4 => ?_)
          · try simp only [decide_eq_true_eq, decide_eq_false_iff_not, Bool.not_eq_true', Bool.not_eq_false'] at hc4
            refine AMx.seq ?_
            refine AMx.region (ces := []) (ks := [4]) (hs := []) (cs := []) (s' := AS.lst 40 [(4, vc (bo false))] []) (by kernel_rfl) ?_ ?_
            · exact trivial
            refine AMx.ret ?_
            exact RetP.mk (r := vc (bo false)) (by kernel_rfl) (by first | (rw [covers_no (by omega)]; done) | (rw [covers_bad (l := a) (.inl rfl) (k := j) (by omega) (by assumption)]; done) | (rw [covers_bad (l := b) (.inr rfl) (k := j) (by omega) (by assumption)]))
          · try simp only [decide_eq_true_eq, decide_eq_false_iff_not, Bool.not_eq_true', Bool.not_eq_false'] at hc4
            refine AMx.skip ?_
            refine AMx.blk ?_
            refine AMx.region (ces := []) (ks := [0, 1, 19, 20, 23, 24, 25]) (hs := []) (cs := [InR .i64 ((j : Int) + 1)]) (s' := AS.lst 40 [(0, vc (slP a)), (1, vc (slP b)), (19, AV.t (TV.agg [.s (slP a), .s (slP b)])), (20, vc (i6 0)), (23, vc (slP a)), (24, vc (i6 (List.length a : Int))), (25, vc (i6 ((j : Int) + 1)))] []) (by kernel_rfl) ?_ ?_
            · exact (show InR .i64 ((j : Int) + 1) from (inR64 (by first | omega | (have q1 := check_len (l := a) (by omega); have q2 := check_len (l := b) (by omega); omega)) (by first | omega | (have q1 := check_len (l := a) (by omega); have q2 := check_len (l := b) (by omega); omega))))
            refine AMx.ent_inv (s' := AS.lst 40 [(0, vc (slP a)), (1, vc (slP b)), (19, AV.t (TV.agg [.s (slP a), .s (slP b)])), (20, vc (i6 0)), (23, vc (slP a)), (24, vc (i6 (List.length a : Int))), (25, vc (i6 ((j : Int) + 1)))] []) (ent_proj [0, 1, 19, 20, 23, 24, 25] []) ?_
            refine AMx.inv ⟨_, ?_, j + 1, ?_, rfl, ?_⟩
            rotate_left
            · exact ⟨by omega, cover_next (by omega) hC (by assumption)⟩
            · rfl
            · omega
        · try simp only [decide_eq_true_eq, decide_eq_false_iff_not] at hc3
          refine AMx.exit ?_
          refine AMx.code_exit ?_
          refine AMx.inv_exit ?_
          refine AMx.blk_exit ?_
          refine AMx.blk ?_
          refine AMx.region (ces := []) (ks := [0, 1, 19, 20]) (hs := []) (cs := [InR .i64 (0 + 1)]) (s' := AS.lst 40 [(0, vc (slP a)), (1, vc (slP b)), (19, AV.t (TV.agg [.s (slP a), .s (slP b)])), (20, vc (i6 (0 + 1)))] []) (by kernel_rfl) ?_ ?_
          · exact (show InR .i64 (0 + 1) from (inR64 (by first | omega | (have q1 := check_len (l := a) (by omega); have q2 := check_len (l := b) (by omega); omega)) (by first | omega | (have q1 := check_len (l := a) (by omega); have q2 := check_len (l := b) (by omega); omega))))
          refine AMx.ent_inv (s' := AS.lst 40 [(0, vc (slP a)), (1, vc (slP b)), (19, AV.t (TV.agg [.s (slP a), .s (slP b)])), (20, vc (i6 (0 + 1)))] []) (ent_proj [0, 1, 19, 20] []) ?_
          refine AMx.inv ⟨_, ?_, 1, ?_, rfl, ?_⟩
          rotate_left
          · exact ⟨by omega, .inr (by rw [List.take_of_length_le (by omega)] at hC; exact hC), .inl (by omega)⟩
          · rfl
          · omega
      · skip
        cases hc2
    · skip
      refine AMx.seq ?_
      refine AMx.region (ces := []) (ks := [0, 1, 19, 20, 21]) (hs := []) (cs := []) (s' := AS.lst 40 [(0, vc (slP a)), (1, vc (slP b)), (19, AV.t (TV.agg [.s (slP a), .s (slP b)])), (20, vc (i6 1)), (21, vc (bo true))] []) (by kernel_rfl) ?_ ?_
      · exact trivial
      refine AMx.seq ?_
      refine AMx.cond (b := true) (by kernel_rfl) (fun hc5 => ?_) (fun hc5 => ?_)
      · skip
        refine AMx.skip ?_
        refine AMx.seq ?_
        refine AMx.block ?_
        refine AMx.seq ?_
        refine AMx.region (ces := []) (ks := [0, 1, 6, 19, 20]) (hs := []) (cs := [(0 : Int) ≤ 1, (1 : Int) < 2]) (s' := AS.lst 40 [(0, vc (slP a)), (1, vc (slP b)), (6, vc (slP b)), (19, AV.t (TV.agg [.s (slP a), .s (slP b)])), (20, vc (i6 1))] []) (by kernel_rfl) ?_ ?_
        · exact ⟨(show (0 : Int) ≤ 1 from (by first | omega | (have q1 := check_len (l := a) (by omega); have q2 := check_len (l := b) (by omega); omega))), (show (1 : Int) < 2 from (by first | omega | (have q1 := check_len (l := a) (by omega); have q2 := check_len (l := b) (by omega); omega)))⟩
        refine AMx.seq ?_
        refine AMx.region (ces := []) (ks := [0, 1, 19, 20, 23, 24, 25]) (hs := []) (cs := []) (s' := AS.lst 40 [(0, vc (slP a)), (1, vc (slP b)), (19, AV.t (TV.agg [.s (slP a), .s (slP b)])), (20, vc (i6 1)), (23, vc (slP b)), (24, vc (i6 (List.length b : Int))), (25, vc (i6 0))] []) (by kernel_rfl) ?_ ?_
        · exact trivial
        refine AMx.block ?_
        refine AMx.ent (s' := AS.lst 40 [(0, vc (slP a)), (1, vc (slP b)), (19, AV.t (TV.agg [.s (slP a), .s (slP b)])), (20, vc (i6 1)), (23, vc (slP b)), (24, vc (i6 (List.length b : Int))), (25, vc (i6 0))] []) (ent_proj [0, 1, 19, 20, 23, 24, 25] []) ?_
        refine AMx.loop (fun mm ss => ∃ (j : Nat), (j ≤ b.length ∧ coverS a b (prefS (List.take j b)) = true) ∧ mm = b.length - j ∧ ss = AS.lst 40 [(0, vc (slP a)), (1, vc (slP b)), (19, AV.t (TV.agg [.s (slP a), .s (slP b)])), (20, vc (i6 1)), (23, vc (slP b)), (24, vc (i6 (List.length b : Int))), (25, vc (i6 (j : Int)))] []) ⟨0, ?_, rfl, ?_⟩ ?_
        · exact ⟨Nat.zero_le _, rfl⟩
        · rfl
        rintro mm ss ⟨j, ⟨hJ, hC⟩, rfl, rfl⟩
        refine AMx.seq ?_
        refine AMx.region (ces := []) (ks := [0, 1, 19, 20, 23, 24, 25, 26]) (hs := []) (cs := []) (s' := AS.lst 40 [(0, vc (slP a)), (1, vc (slP b)), (19, AV.t (TV.agg [.s (slP a), .s (slP b)])), (20, vc (i6 1)), (23, vc (slP b)), (24, vc (i6 (List.length b : Int))), (25, vc (i6 (j : Int))), (26, vc (bo (decide ((j : Int) < (List.length b : Int)))))] []) (by kernel_rfl) ?_ ?_
        · exact trivial
        refine AMx.seq ?_
        refine AMx.cond (b := decide ((j : Int) < (List.length b : Int))) (by kernel_rfl) (fun hc6 => ?_) (fun hc6 => ?_)
        · try simp only [decide_eq_true_eq, decide_eq_false_iff_not] at hc6
          refine AMx.skip ?_
          refine AMx.seq ?_
          refine AMx.block ?_
          refine AMx.seq ?_
          refine AMx.region (ces := []) (ks := [0, 1, 8, 19, 20, 23, 24, 25]) (hs := [8]) (cs := [(0 : Int) ≤ (j : Int), (j : Int) < List.length b]) (s' := AS.lst 40 [(0, vc (slP a)), (1, vc (slP b)), (8, vp 8 0), (19, AV.t (TV.agg [.s (slP a), .s (slP b)])), (20, vc (i6 1)), (23, vc (slP b)), (24, vc (i6 (List.length b : Int))), (25, vc (i6 (j : Int)))] [(8, AObj.row [.s (st ((List.getD b j ([], 0)).1)), .s (u8 ((List.getD b j ([], 0)).2))])]) (by kernel_rfl) ?_ ?_
          · exact ⟨(show (0 : Int) ≤ (j : Int) from (by first | omega | (have q1 := check_len (l := a) (by omega); have q2 := check_len (l := b) (by omega); omega))), (show (j : Int) < List.length b from (by first | omega | (have q1 := check_len (l := a) (by omega); have q2 := check_len (l := b) (by omega); omega)))⟩
          refine AMx.seq ?_
          refine AMx.region_draw (ces := [(6, CE.call [] [] (vc (u8 (capsP a ((List.getD b j ([], 0)).1)))) []), (7, CE.call [] [] (vc (bo (allowsS b ((List.getD b j ([], 0)).1) (capsP a ((List.getD b j ([], 0)).1))))) [])]) (ros := [(2, [8]), (5, [8])]) (ks := [0, 1, 19, 20, 23, 24, 25, 37]) (hs := []) (cs := [Spec Tryd.prog 13 [tc (slP a), tc (st ((List.getD b j ([], 0)).1))] (ofH []) (vc (u8 (capsP a ((List.getD b j ([], 0)).1)))) (ofH []), Spec Tryd.prog 15 [tc (slP b), tc (st ((List.getD b j ([], 0)).1)), tc (u8 (capsP a ((List.getD b j ([], 0)).1)))] (ofH []) (vc (bo (allowsS b ((List.getD b j ([], 0)).1) (capsP a ((List.getD b j ([], 0)).1))))) (ofH [])]) (s' := AS.lst 40 [(0, vc (slP a)), (1, vc (slP b)), (19, AV.t (TV.agg [.s (slP a), .s (slP b)])), (20, vc (i6 1)), (23, vc (slP b)), (24, vc (i6 (List.length b : Int))), (25, vc (i6 (j : Int))), (37, vc (bo (!(allowsS b ((List.getD b j ([], 0)).1) (capsP a ((List.getD b j ([], 0)).1))))))] []) mixed (by kernel_rfl) ?_ ?_
          · exact ⟨(Caps_c a ((List.getD b j ([], 0)).1) (by first | omega | (have q1 := check_len (l := a) (by omega); have q2 := check_len (l := b) (by omega); omega))), (Allows_c b ((List.getD b j ([], 0)).1) (capsP a ((List.getD b j ([], 0)).1)) (by first | omega | (have q1 := check_len (l := a) (by omega); have q2 := check_len (l := b) (by omega); omega)))⟩
          refine AMx.cond (b := !(allowsS b ((List.getD b j ([], 0)).1) (capsP a ((List.getD b j ([], 0)).1)))) (by kernel_rfl) (fun hc7 => ?_) (fun hc7 => ?_)
          · try simp only [decide_eq_true_eq, decide_eq_false_iff_not, Bool.not_eq_true', Bool.not_eq_false'] at hc7
            refine AMx.seq ?_
            refine AMx.region (ces := []) (ks := [4]) (hs := []) (cs := []) (s' := AS.lst 40 [(4, vc (bo false))] []) (by kernel_rfl) ?_ ?_
            · exact trivial
            refine AMx.ret ?_
            exact RetP.mk (r := vc (bo false)) (by kernel_rfl) (by first | (rw [covers_no (by omega)]; done) | (rw [covers_bad (l := a) (.inl rfl) (k := j) (by omega) (by assumption)]; done) | (rw [covers_bad (l := b) (.inr rfl) (k := j) (by omega) (by assumption)]))
          · try simp only [decide_eq_true_eq, decide_eq_false_iff_not, Bool.not_eq_true', Bool.not_eq_false'] at hc7
            refine AMx.skip ?_
            refine AMx.blk ?_
            refine AMx.region (ces := []) (ks := [0, 1, 19, 20, 23, 24, 25]) (hs := []) (cs := [InR .i64 ((j : Int) + 1)]) (s' := AS.lst 40 [(0, vc (slP a)), (1, vc (slP b)), (19, AV.t (TV.agg [.s (slP a), .s (slP b)])), (20, vc (i6 1)), (23, vc (slP b)), (24, vc (i6 (List.length b : Int))), (25, vc (i6 ((j : Int) + 1)))] []) (by kernel_rfl) ?_ ?_
            · exact (show InR .i64 ((j : Int) + 1) from (inR64 (by first | omega | (have q1 := check_len (l := a) (by omega); have q2 := check_len (l := b) (by omega); omega)) (by first | omega | (have q1 := check_len (l := a) (by omega); have q2 := check_len (l := b) (by omega); omega))))
            refine AMx.ent_inv (s' := AS.lst 40 [(0, vc (slP a)), (1, vc (slP b)), (19, AV.t (TV.agg [.s (slP a), .s (slP b)])), (20, vc (i6 1)), (23, vc (slP b)), (24, vc (i6 (List.length b : Int))), (25, vc (i6 ((j : Int) + 1)))] []) (ent_proj [0, 1, 19, 20, 23, 24, 25] []) ?_
            refine AMx.inv ⟨_, ?_, j + 1, ?_, rfl, ?_⟩
            rotate_left
            · exact ⟨by omega, cover_next (by omega) hC (by assumption)⟩
            · rfl
            · omega
        · try simp only [decide_eq_true_eq, decide_eq_false_iff_not] at hc6
          refine AMx.exit ?_
          refine AMx.code_exit ?_
          refine AMx.inv_exit ?_
          refine AMx.blk_exit ?_
          refine AMx.blk ?_
          refine AMx.region (ces := []) (ks := [0, 1, 19, 20]) (hs := []) (cs := [InR .i64 (1 + 1)]) (s' := AS.lst 40 [(0, vc (slP a)), (1, vc (slP b)), (19, AV.t (TV.agg [.s (slP a), .s (slP b)])), (20, vc (i6 (1 + 1)))] []) (by kernel_rfl) ?_ ?_
          · exact (show InR .i64 (1 + 1) from (inR64 (by first | omega | (have q1 := check_len (l := a) (by omega); have q2 := check_len (l := b) (by omega); omega)) (by first | omega | (have q1 := check_len (l := a) (by omega); have q2 := check_len (l := b) (by omega); omega))))
          refine AMx.ent_inv (s' := AS.lst 40 [(0, vc (slP a)), (1, vc (slP b)), (19, AV.t (TV.agg [.s (slP a), .s (slP b)])), (20, vc (i6 (1 + 1)))] []) (ent_proj [0, 1, 19, 20] []) ?_
          refine AMx.inv ⟨_, ?_, 2, ?_, rfl, ?_⟩
          rotate_left
          · exact ⟨by omega, .inr (hA.resolve_left (by omega)), .inr (by rw [List.take_of_length_le (by omega)] at hC; exact hC)⟩
          · rfl
          · omega
      · skip
        cases hc5
    · skip
      refine AMx.seq ?_
      refine AMx.region (ces := []) (ks := [0, 1, 19, 20, 21]) (hs := []) (cs := []) (s' := AS.lst 40 [(0, vc (slP a)), (1, vc (slP b)), (19, AV.t (TV.agg [.s (slP a), .s (slP b)])), (20, vc (i6 2)), (21, vc (bo false))] []) (by kernel_rfl) ?_ ?_
      · exact trivial
      refine AMx.seq ?_
      refine AMx.cond (b := false) (by kernel_rfl) (fun hc8 => ?_) (fun hc8 => ?_)
      · skip
        cases hc8
      · skip
        refine AMx.exit ?_
        refine AMx.code_exit ?_
        refine AMx.inv_exit ?_
        refine AMx.blk_exit ?_
        refine AMx.seq ?_
        refine AMx.region (ces := []) (ks := [4]) (hs := []) (cs := []) (s' := AS.lst 40 [(4, vc (bo true))] []) (by kernel_rfl) ?_ ?_
        · exact trivial
        refine AMx.ret ?_
        exact RetP.mk (r := vc (bo true)) (by kernel_rfl) (by rw [covers_yes (by omega) (by omega) (hA.resolve_left (by omega)) (hB.resolve_left (by omega))])

end AL.Policy
