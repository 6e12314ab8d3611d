/- policy: the contracts of its functions, by their walks. No condition. -/
import Derived.Test.YtkpgnlcjolmdlaaDoorPolicyC
import Derived.Test.YtkpgnlcjolmdlaaDoorPolicyE
namespace AL.Policy
open Go Go.Proofs AL AL.Rune
set_option linter.unusedVariables false
set_option linter.unusedSimpArgs false

theorem f38_body : Tryd.f38.body = some (.seq (.region 0 (rg Tryd.f38 0) false) (.seq (.region 1 (rg Tryd.f38 1) false) (.seq (.seq (.region 2 (rg Tryd.f38 2) false) (.block 0 (.loop (.seq (.seq (.region 3 (rg Tryd.f38 3) false) (.cond (.tmp 12) (.skip) (.exit 0))) (.seq (.block 1 (.seq (.region 5 (rg Tryd.f38 5) false) (.cond (.tmp 18) (.region 6 (rg Tryd.f38 6) false) (.skip)))) (.region 4 (rg Tryd.f38 4) false)))))) (.seq (.seq (.region 7 (rg Tryd.f38 7) false) (.cond (.tmp 21) (.seq (.region 8 (rg Tryd.f38 8) false) (.ret)) (.skip))) (.seq (.seq (.region 9 (rg Tryd.f38 9) false) (.block 2 (.loop (.seq (.seq (.region 10 (rg Tryd.f38 10) false) (.cond (.tmp 24) (.skip) (.exit 2))) (.seq (.block 3 (.seq (.region 12 (rg Tryd.f38 12) false) (.seq (.region 13 (rg Tryd.f38 13) false) (.cond (.tmp 36) (.seq (.region 14 (rg Tryd.f38 14) false) (.ret)) (.skip))))) (.region 11 (rg Tryd.f38 11) false)))))) (.seq (.region 15 (rg Tryd.f38 15) false) (.ret))))))) := by kernel_rfl

set_option maxRecDepth 100000 in
set_option maxHeartbeats 8000000 in
theorem scan_c (s : Bytes) (hb : s.length ≤ 100000) : Pure Tryd.prog 38 [tc (st s)] (AV.tup [TV.agg [.s (st (((scanP s).1).1)), .s (u8 (((scanP s).1).2))], tc (bo ((scanP s).2))]) := by
  refine Pure.of_body Tryd.func38 f38_body (by kernel_rfl) Tryd.ntmps38 (by kernel_rfl) (by kernel_rfl) ?_
  refine AMx.seq ?_
  refine AMx.region (ces := []) (ks := [0, 2]) (hs := [2]) (cs := []) (s' := AS.lst 39 [(0, vc (st s)), (2, vp 2 0)] [(2, AObj.row [.s (st []), .s (u8 0)])]) (by kernel_rfl) ?_ ?_
  · exact trivial
  refine AMx.seq ?_
  refine AMx.region (ces := []) (ks := [0, 2, 4]) (hs := [2]) (cs := []) (s' := AS.lst 39 [(0, vc (st s)), (2, vp 2 0), (4, vc (i6 (-1)))] [(2, AObj.row [.s (st []), .s (u8 0)])]) (by kernel_rfl) ?_ ?_
  · exact trivial
  refine AMx.seq ?_
  refine AMx.seq ?_
  refine AMx.region (ces := []) (ks := [0, 2, 4, 5]) (hs := [2]) (cs := [InR .i64 ((List.length s : Int) - 1)]) (s' := AS.lst 39 [(0, vc (st s)), (2, vp 2 0), (4, vc (i6 (-1))), (5, vc (i6 ((List.length s : Int) - 1)))] [(2, AObj.row [.s (st []), .s (u8 0)])]) (by kernel_rfl) ?_ ?_
  · exact (show InR .i64 ((List.length s : Int) - 1) from (inR64 (by first | omega | (have hz := first_rng hF; first | omega | (simp only [List.length_take]; omega))) (by first | omega | (have hz := first_rng hF; first | omega | (simp only [List.length_take]; omega)))))
  refine AMx.block ?_
  refine AMx.ent (s' := AS.lst 39 [(0, vc (st s)), (2, vp 2 0), (4, vc (i6 (-1))), (5, vc (i6 ((List.length s : Int) - 1)))] [(2, AObj.row [.s (st []), .s (u8 0)])]) (ent_proj [0, 2, 4, 5] [2]) ?_
  refine AMx.loop (fun mm ss => ∃ (k : Nat) (a : Int), (k ≤ s.length ∧ FirstAt s k a) ∧ mm = 1 + k ∧ ss = AS.lst 39 [(0, vc (st s)), (2, vp 2 0), (4, vc (i6 a)), (5, vc (i6 ((k : Int) - 1)))] [(2, AObj.row [.s (st []), .s (u8 0)])]) ⟨s.length, -1, ?_, rfl, ?_⟩ ?_
  · exact ⟨Nat.le_refl _, first_start s⟩
  · rfl
  rintro mm ss ⟨k, a, ⟨hI, hF⟩, rfl, rfl⟩
  refine AMx.seq ?_
  refine AMx.seq ?_
  refine AMx.region (ces := []) (ks := [0, 2, 4, 5, 12]) (hs := [2]) (cs := []) (s' := AS.lst 39 [(0, vc (st s)), (2, vp 2 0), (4, vc (i6 a)), (5, vc (i6 ((k : Int) - 1))), (12, vc (bo (decide (0 ≤ (k : Int) - 1))))] [(2, AObj.row [.s (st []), .s (u8 0)])]) (by kernel_rfl) ?_ ?_
  · exact trivial
  refine AMx.cond (b := decide (0 ≤ (k : Int) - 1)) (by kernel_rfl) (fun hc1 => ?_) (fun hc1 => ?_)
  · try simp only [decide_eq_true_eq, decide_eq_false_iff_not] at hc1
    refine AMx.skip ?_
    refine AMx.seq ?_
    refine AMx.block ?_
    refine AMx.seq ?_
    refine AMx.region (ces := []) (ks := [0, 2, 4, 5, 18]) (hs := [2]) (cs := [(0 : Int) ≤ (k : Int) - 1, (k : Int) - 1 < List.length s]) (s' := AS.lst 39 [(0, vc (st s)), (2, vp 2 0), (4, vc (i6 a)), (5, vc (i6 ((k : Int) - 1))), (18, vc (bo (decide (((List.getD s ((k : Int) - 1).toNat 0).toNat : Int) = 58))))] [(2, AObj.row [.s (st []), .s (u8 0)])]) (by kernel_rfl) ?_ ?_
    · exact ⟨(show (0 : Int) ≤ (k : Int) - 1 from (by first | omega | (have hz := first_rng hF; first | omega | (simp only [List.length_take]; omega)))), (show (k : Int) - 1 < List.length s from (by first | omega | (have hz := first_rng hF; first | omega | (simp only [List.length_take]; omega))))⟩
    refine AMx.cond (b := decide (((List.getD s ((k : Int) - 1).toNat 0).toNat : Int) = 58)) (by kernel_rfl) (fun hc2 => ?_) (fun hc2 => ?_)
    · try simp only [decide_eq_true_eq, decide_eq_false_iff_not] at hc2
      refine AMx.region (ces := []) (ks := [0, 2, 4, 5]) (hs := [2]) (cs := []) (s' := AS.lst 39 [(0, vc (st s)), (2, vp 2 0), (4, vc (i6 ((k : Int) - 1))), (5, vc (i6 ((k : Int) - 1)))] [(2, AObj.row [.s (st []), .s (u8 0)])]) (by kernel_rfl) ?_ ?_
      · exact trivial
      refine AMx.blk ?_
      refine AMx.region (ces := []) (ks := [0, 2, 4, 5]) (hs := [2]) (cs := [InR .i64 (((k : Int) - 1) - 1)]) (s' := AS.lst 39 [(0, vc (st s)), (2, vp 2 0), (4, vc (i6 ((k : Int) - 1))), (5, vc (i6 (((k : Int) - 1) - 1)))] [(2, AObj.row [.s (st []), .s (u8 0)])]) (by kernel_rfl) ?_ ?_
      · exact (show InR .i64 (((k : Int) - 1) - 1) from (inR64 (by first | omega | (have hz := first_rng hF; first | omega | (simp only [List.length_take]; omega))) (by first | omega | (have hz := first_rng hF; first | omega | (simp only [List.length_take]; omega)))))
      refine AMx.ent_inv (s' := AS.lst 39 [(0, vc (st s)), (2, vp 2 0), (4, vc (i6 ((k : Int) - 1))), (5, vc (i6 (((k : Int) - 1) - 1)))] [(2, AObj.row [.s (st []), .s (u8 0)])]) (ent_proj [0, 2, 4, 5] [2]) ?_
      refine AMx.inv ⟨_, ?_, k - 1, (k : Int) - 1, ?_, rfl, ?_⟩
      rotate_left
      · exact ⟨by omega, first_hit (a := a) (by omega) hI hc2⟩
      · rw [show ((k - 1 : Nat) : Int) - 1 = (k : Int) - 1 - 1 by omega] <;> rfl
      · omega
    · try simp only [decide_eq_true_eq, decide_eq_false_iff_not] at hc2
      refine AMx.skip ?_
      refine AMx.blk ?_
      refine AMx.region (ces := []) (ks := [0, 2, 4, 5]) (hs := [2]) (cs := [InR .i64 (((k : Int) - 1) - 1)]) (s' := AS.lst 39 [(0, vc (st s)), (2, vp 2 0), (4, vc (i6 a)), (5, vc (i6 (((k : Int) - 1) - 1)))] [(2, AObj.row [.s (st []), .s (u8 0)])]) (by kernel_rfl) ?_ ?_
      · exact (show InR .i64 (((k : Int) - 1) - 1) from (inR64 (by first | omega | (have hz := first_rng hF; first | omega | (simp only [List.length_take]; omega))) (by first | omega | (have hz := first_rng hF; first | omega | (simp only [List.length_take]; omega)))))
      refine AMx.ent_inv (s' := AS.lst 39 [(0, vc (st s)), (2, vp 2 0), (4, vc (i6 a)), (5, vc (i6 (((k : Int) - 1) - 1)))] [(2, AObj.row [.s (st []), .s (u8 0)])]) (ent_proj [0, 2, 4, 5] [2]) ?_
      refine AMx.inv ⟨_, ?_, k - 1, a, ?_, rfl, ?_⟩
      rotate_left
      · exact ⟨by omega, first_not hF (by omega) hI hc2⟩
      · rw [show ((k - 1 : Nat) : Int) - 1 = (k : Int) - 1 - 1 by omega] <;> rfl
      · omega
  · try simp only [decide_eq_true_eq, decide_eq_false_iff_not] at hc1
    refine AMx.exit ?_
    refine AMx.code_exit ?_
    refine AMx.inv_exit ?_
    refine AMx.blk_exit ?_
    refine AMx.seq ?_
    refine AMx.seq ?_
    refine AMx.region (ces := []) (ks := [0, 2, 4, 21]) (hs := [2]) (cs := []) (s' := AS.lst 39 [(0, vc (st s)), (2, vp 2 0), (4, vc (i6 a)), (21, vc (bo (decide (a < 0))))] [(2, AObj.row [.s (st []), .s (u8 0)])]) (by kernel_rfl) ?_ ?_
    · exact trivial
    refine AMx.cond (b := decide (a < 0)) (by kernel_rfl) (fun hc3 => ?_) (fun hc3 => ?_)
    · try simp only [decide_eq_true_eq, decide_eq_false_iff_not] at hc3
      refine AMx.seq ?_
      refine AMx.region (ces := []) (ks := [2, 3]) (hs := [2]) (cs := []) (s' := AS.lst 39 [(2, vp 2 0), (3, vc (bo false))] [(2, AObj.row [.s (st []), .s (u8 0)])]) (by kernel_rfl) ?_ ?_
      · exact trivial
      refine AMx.ret ?_
      exact RetP.mk (r := AV.tup [TV.agg [.s (st []), .s (u8 0)], tc (bo false)]) (by kernel_rfl) (by rw [show scanP s = ((([], 0) : RuleV), false) from by obtain rfl : k = 0 := (by omega); first | (rw [scan_neg hF (by omega)]; done) | (rw [scan_hit (n := n) hF (by omega) (by omega) (by assumption)]; done) | (rw [scan_end hF (by omega) (fun m hm => hM m (by omega))])])
    · try simp only [decide_eq_true_eq, decide_eq_false_iff_not] at hc3
      refine AMx.skip ?_
      refine AMx.seq ?_
      refine AMx.seq ?_
      refine AMx.region (ces := []) (ks := [0, 2, 4, 6]) (hs := [2]) (cs := []) (s' := AS.lst 39 [(0, vc (st s)), (2, vp 2 0), (4, vc (i6 a)), (6, vc (i6 0))] [(2, AObj.row [.s (st []), .s (u8 0)])]) (by kernel_rfl) ?_ ?_
      · exact trivial
      refine AMx.block ?_
      refine AMx.ent (s' := AS.lst 39 [(0, vc (st s)), (2, vp 2 0), (4, vc (i6 a)), (6, vc (i6 0))] [(2, AObj.row [.s (st []), .s (u8 0)])]) (ent_proj [0, 2, 4, 6] [2]) ?_
      refine AMx.loop (fun mm ss => ∃ (n : Nat), (n ≤ 64 ∧ ∀ m : Nat, m < n → ¬ pieceS (List.take a.toNat s, (m : Int)) = s) ∧ mm = 64 - n ∧ ss = AS.lst 39 [(0, vc (st s)), (2, vp 2 0), (4, vc (i6 a)), (6, vc (i6 (n : Int)))] [(2, AObj.row [.s (st []), .s (u8 0)])]) ⟨0, ?_, rfl, ?_⟩ ?_
      · exact ⟨Nat.zero_le _, fun m hm => by omega⟩
      · rfl
      rintro mm ss ⟨n, ⟨hN, hM⟩, rfl, rfl⟩
      refine AMx.seq ?_
      refine AMx.seq ?_
      refine AMx.region (ces := []) (ks := [0, 2, 4, 6, 24]) (hs := [2]) (cs := []) (s' := AS.lst 39 [(0, vc (st s)), (2, vp 2 0), (4, vc (i6 a)), (6, vc (i6 (n : Int))), (24, vc (bo (decide ((n : Int) ≤ 63))))] [(2, AObj.row [.s (st []), .s (u8 0)])]) (by kernel_rfl) ?_ ?_
      · exact trivial
      refine AMx.cond (b := decide ((n : Int) ≤ 63)) (by kernel_rfl) (fun hc4 => ?_) (fun hc4 => ?_)
      · try simp only [decide_eq_true_eq, decide_eq_false_iff_not] at hc4
        refine AMx.skip ?_
        refine AMx.seq ?_
        refine AMx.block ?_
        refine AMx.seq ?_
        refine AMx.region (ces := []) (ks := [0, 2, 4, 6, 7]) (hs := [2, 7]) (cs := [0 ≤ a, a ≤ List.length s]) (s' := AS.lst 39 [(0, vc (st s)), (2, vp 2 0), (4, vc (i6 a)), (6, vc (i6 (n : Int))), (7, vp 7 0)] [(2, AObj.row [.s (st []), .s (u8 0)]), (7, AObj.row [.s (st (List.take (a).toNat s)), .s (u8 (IntKind.wrap .u8 ((n : Int))))])]) (by kernel_rfl) ?_ ?_
        · exact ⟨(show 0 ≤ a from (by first | omega | (have hz := first_rng hF; first | omega | (simp only [List.length_take]; omega)))), (show a ≤ List.length s from (by first | omega | (have hz := first_rng hF; first | omega | (simp only [List.length_take]; omega))))⟩
        rw [show IntKind.wrap .u8 ((n : Int)) = (n : Int) from wrap_byte (by omega)]
        refine AMx.seq ?_
        refine AMx.region (ces := [(1, CE.call [] [] (vc (st (pieceS ((List.take (a).toNat s, (n : Int)) : RuleV)))) [])]) (ks := [0, 2, 4, 6, 7, 36]) (hs := [2, 7]) (cs := [Spec Tryd.prog 34 [TV.agg [.s (st (List.take (a).toNat s)), .s (u8 (n : Int))]] (ofH []) (vc (st (pieceS ((List.take (a).toNat s, (n : Int)) : RuleV)))) (ofH [])]) (s' := AS.lst 39 [(0, vc (st s)), (2, vp 2 0), (4, vc (i6 a)), (6, vc (i6 (n : Int))), (7, vp 7 0), (36, vc (bo (decide (pieceS ((List.take (a).toNat s, (n : Int)) : RuleV) = s))))] [(2, AObj.row [.s (st []), .s (u8 0)]), (7, AObj.row [.s (st (List.take (a).toNat s)), .s (u8 (n : Int))])]) (by kernel_rfl) ?_ ?_
        · exact (one_c ((List.take (a).toNat s, (n : Int)) : RuleV) (by first | omega | (have hz := first_rng hF; first | omega | (simp only [List.length_take]; omega))))
        refine AMx.cond (b := decide (pieceS ((List.take (a).toNat s, (n : Int)) : RuleV) = s)) (by kernel_rfl) (fun hc5 => ?_) (fun hc5 => ?_)
        · try simp only [decide_eq_true_eq, decide_eq_false_iff_not] at hc5
          refine AMx.seq ?_
          refine AMx.region (ces := []) (ks := [2, 3]) (hs := [2]) (cs := []) (s' := AS.lst 39 [(2, vp 2 0), (3, vc (bo true))] [(2, AObj.row [.s (st (List.take (a).toNat s)), .s (u8 (n : Int))])]) (by kernel_rfl) ?_ ?_
          · exact trivial
          refine AMx.ret ?_
          exact RetP.mk (r := AV.tup [TV.agg [.s (st (List.take (a).toNat s)), .s (u8 (n : Int))], tc (bo true)]) (by kernel_rfl) (by rw [show scanP s = (((List.take (a).toNat s, (n : Int)) : RuleV), true) from by obtain rfl : k = 0 := (by omega); first | (rw [scan_neg hF (by omega)]; done) | (rw [scan_hit (n := n) hF (by omega) (by omega) (by assumption)]; done) | (rw [scan_end hF (by omega) (fun m hm => hM m (by omega))])])
        · try simp only [decide_eq_true_eq, decide_eq_false_iff_not] at hc5
          refine AMx.skip ?_
          refine AMx.blk ?_
          refine AMx.region (ces := []) (ks := [0, 2, 4, 6]) (hs := [2]) (cs := [InR .i64 ((n : Int) + 1)]) (s' := AS.lst 39 [(0, vc (st s)), (2, vp 2 0), (4, vc (i6 a)), (6, vc (i6 ((n : Int) + 1)))] [(2, AObj.row [.s (st []), .s (u8 0)])]) (by kernel_rfl) ?_ ?_
          · exact (show InR .i64 ((n : Int) + 1) from (inR64 (by first | omega | (have hz := first_rng hF; first | omega | (simp only [List.length_take]; omega))) (by first | omega | (have hz := first_rng hF; first | omega | (simp only [List.length_take]; omega)))))
          refine AMx.ent_inv (s' := AS.lst 39 [(0, vc (st s)), (2, vp 2 0), (4, vc (i6 a)), (6, vc (i6 ((n : Int) + 1)))] [(2, AObj.row [.s (st []), .s (u8 0)])]) (ent_proj [0, 2, 4, 6] [2]) ?_
          refine AMx.inv ⟨_, ?_, n + 1, ?_, rfl, ?_⟩
          rotate_left
          · exact ⟨by omega, fun m hm => by rcases Nat.lt_or_ge m n with q | q; exact hM m q; rw [show m = n by omega]; assumption⟩
          · rfl
          · omega
      · try simp only [decide_eq_true_eq, decide_eq_false_iff_not] at hc4
        refine AMx.exit ?_
        refine AMx.code_exit ?_
        refine AMx.inv_exit ?_
        refine AMx.blk_exit ?_
        refine AMx.seq ?_
        refine AMx.region (ces := []) (ks := [2, 3]) (hs := [2]) (cs := []) (s' := AS.lst 39 [(2, vp 2 0), (3, vc (bo false))] [(2, AObj.row [.s (st []), .s (u8 0)])]) (by kernel_rfl) ?_ ?_
        · exact trivial
        refine AMx.ret ?_
        exact RetP.mk (r := AV.tup [TV.agg [.s (st []), .s (u8 0)], tc (bo false)]) (by kernel_rfl) (by rw [show scanP s = ((([], 0) : RuleV), false) from by obtain rfl : k = 0 := (by omega); first | (rw [scan_neg hF (by omega)]; done) | (rw [scan_hit (n := n) hF (by omega) (by omega) (by assumption)]; done) | (rw [scan_end hF (by omega) (fun m hm => hM m (by omega))])])

theorem f22_body : Tryd.f22.body = some (.seq (.region 0 (rg Tryd.f22 0) false) (.seq (.seq (.region 1 (rg Tryd.f22 1) false) (.cond (.tmp 11) (.seq (.region 2 (rg Tryd.f22 2) false) (.ret)) (.skip))) (.seq (.region 3 (rg Tryd.f22 3) false) (.seq (.region 4 (rg Tryd.f22 4) false) (.seq (.seq (.region 5 (rg Tryd.f22 5) false) (.block 0 (.loop (.seq (.seq (.region 6 (rg Tryd.f22 6) false) (.cond (.tmp 15) (.skip) (.exit 0))) (.seq (.block 1 (.seq (.region 8 (rg Tryd.f22 8) false) (.cond (.tmp 27) (.seq (.region 9 (rg Tryd.f22 9) false) (.seq (.seq (.region 10 (rg Tryd.f22 10) false) (.cond (.tmp 37) (.seq (.region 11 (rg Tryd.f22 11) false) (.ret)) (.skip))) (.seq (.region 12 (rg Tryd.f22 12) false) (.region 13 (rg Tryd.f22 13) false)))) (.skip)))) (.region 7 (rg Tryd.f22 7) false)))))) (.seq (.region 14 (rg Tryd.f22 14) false) (.seq (.seq (.region 15 (rg Tryd.f22 15) false) (.cond (.tmp 47) (.seq (.region 16 (rg Tryd.f22 16) false) (.ret)) (.skip))) (.seq (.region 17 (rg Tryd.f22 17) false) (.ret))))))))) := by kernel_rfl

set_option maxRecDepth 100000 in
set_option maxHeartbeats 8000000 in
theorem RParse_c (s : Bytes) (hb : s.length ≤ 100000) : Pure Tryd.prog 22 [tc (st s)] (AV.tup [tc (slP ((parseP s).1)), tc (i6 ((parseP s).2))]) := by
  refine Pure.of_body Tryd.func22 f22_body (by kernel_rfl) Tryd.ntmps22 (by kernel_rfl) (by kernel_rfl) ?_
  refine AMx.seq ?_
  refine AMx.region (ces := []) (ks := [0]) (hs := []) (cs := []) (s' := AS.lst 50 [(0, vc (st s))] []) (by kernel_rfl) ?_ ?_
  · exact trivial
  refine AMx.seq ?_
  refine AMx.seq ?_
  refine AMx.region (ces := []) (ks := [0, 11]) (hs := []) (cs := []) (s' := AS.lst 50 [(0, vc (st s)), (11, vc (bo (decide (s = []))))] []) (by kernel_rfl) ?_ ?_
  · exact trivial
  refine AMx.cond (b := decide (s = [])) (by kernel_rfl) (fun hc1 => ?_) (fun hc1 => ?_)
  · try simp only [decide_eq_true_eq, decide_eq_false_iff_not] at hc1
    refine AMx.seq ?_
    refine AMx.region (ces := []) (ks := [2, 3]) (hs := []) (cs := []) (s' := AS.lst 50 [(2, vc (SC.nilsl)), (3, vc (i6 0))] []) (by kernel_rfl) ?_ ?_
    · exact trivial
    refine AMx.ent (ent_weak 2 (v' := vc (slP [])) (by kernel_rfl) (AV.le_t (TV.le_c AC.le_nil))) ?_
    refine AMx.ret ?_
    exact RetP.mk (r := AV.tup [tc (slP []), tc (i6 0)]) (by kernel_rfl) (by rw [show parseP s = ([], 0) from by rw [hc1]; rfl])
  · try simp only [decide_eq_true_eq, decide_eq_false_iff_not] at hc1
    refine AMx.skip ?_
    refine AMx.seq ?_
    refine AMx.region (ces := []) (ks := [0, 4]) (hs := []) (cs := []) (s' := AS.lst 50 [(0, vc (st s)), (4, vc (SC.nilsl))] []) (by kernel_rfl) ?_ ?_
    · exact trivial
    refine AMx.seq ?_
    refine AMx.region (ces := []) (ks := [0, 4, 5]) (hs := []) (cs := []) (s' := AS.lst 50 [(0, vc (st s)), (4, vc (SC.nilsl)), (5, vc (i6 0))] []) (by kernel_rfl) ?_ ?_
    · exact trivial
    refine AMx.seq ?_
    refine AMx.seq ?_
    refine AMx.region (ces := []) (ks := [0, 4, 5, 6]) (hs := []) (cs := []) (s' := AS.lst 50 [(0, vc (st s)), (4, vc (SC.nilsl)), (5, vc (i6 0)), (6, vc (i6 0))] []) (by kernel_rfl) ?_ ?_
    · exact trivial
    refine AMx.block ?_
    refine AMx.ent (s' := AS.lst 50 [(0, vc (st s)), (4, vo 4), (5, vc (i6 0)), (6, vc (i6 0))] [(4, AObj.grow 53 2 RuleV ([], 0) rowP [])]) (ent_adopt (t := 4) (d := 4) 53 2 RuleV ([], 0) rowP (by kernel_rfl) (by kernel_rfl) (by kernel_rfl) (by kernel_rfl)) ?_
    refine AMx.ent (s' := AS.lst 50 [(0, vc (st s)), (4, vo 4), (5, vc (i6 0)), (6, vc (i6 0))] [(4, AObj.grow 53 2 RuleV ([], 0) rowP [])]) (ent_proj [0, 4, 5, 6] [4]) ?_
    refine AMx.loop (fun mm ss => ∃ (i : Nat) (f : Nat) (o : List Bytes), (Sep.SInv 44 s i f o ∧ fineS o = true) ∧ mm = s.length + 1 - i ∧ ss = AS.lst 50 [(0, vc (st s)), (4, vo 4), (5, vc (i6 (f : Int))), (6, vc (i6 (i : Int)))] [(4, AObj.grow 53 2 RuleV ([], 0) rowP (ruled o))]) ⟨0, 0, [], ?_, rfl, ?_⟩ ?_
    · exact ⟨Sep.sinv_0 44 s, rfl⟩
    · rfl
    rintro mm ss ⟨i, f, o, ⟨hP, hN⟩, rfl, rfl⟩
    refine AMx.seq ?_
    refine AMx.seq ?_
    refine AMx.region (ces := []) (ks := [0, 4, 5, 6, 15]) (hs := [4]) (cs := []) (s' := AS.lst 50 [(0, vc (st s)), (4, vo 4), (5, vc (i6 (f : Int))), (6, vc (i6 (i : Int))), (15, vc (bo (decide ((i : Int) ≤ (List.length s : Int)))))] [(4, AObj.grow 53 2 RuleV ([], 0) rowP (ruled o))]) (by kernel_rfl) ?_ ?_
    · exact trivial
    refine AMx.cond (b := decide ((i : Int) ≤ (List.length s : Int))) (by kernel_rfl) (fun hc2 => ?_) (fun hc2 => ?_)
    · try simp only [decide_eq_true_eq, decide_eq_false_iff_not] at hc2
      refine AMx.skip ?_
      refine AMx.seq ?_
      refine AMx.block ?_
      refine AMx.seq ?_
      refine AMx.region (ces := []) (ks := [0, 4, 5, 6, 27]) (hs := [4]) (cs := [((decide ((i : Int) = (List.length s : Int))) = false) → allP [], ((decide ((i : Int) = (List.length s : Int))) = false) → allP [], ((decide ((i : Int) = (List.length s : Int))) = false) → allP [(decide ((i : Int) = (List.length s : Int))) = false, (decide ((i : Int) = (List.length s : Int))) = false, (0 : Int) ≤ (i : Int), (i : Int) < List.length s], ((decide ((i : Int) = (List.length s : Int))) = false) → allP [(decide ((i : Int) = (List.length s : Int))) = false], (decide ((i : Int) = (List.length s : Int))) = false → allP [(decide ((i : Int) = (List.length s : Int))) = false]]) (s' := AS.lst 50 [(0, vc (st s)), (4, vo 4), (5, vc (i6 (f : Int))), (6, vc (i6 (i : Int))), (27, vc (bo ((decide ((i : Int) = (List.length s : Int))) || (decide (((List.getD s i 0).toNat : Int) = 44)))))] [(4, AObj.grow 53 2 RuleV ([], 0) rowP (ruled o))]) (by kernel_rfl) ?_ ?_
      · exact ⟨(fun _ => trivial), (fun _ => trivial), (fun hp => by have hq := hp; (try simp only [decide_eq_true_eq, decide_eq_false_iff_not, Bool.and_eq_true, Bool.or_eq_true, Bool.and_eq_false_iff, Bool.or_eq_false_iff, Bool.not_eq_true', Bool.not_eq_false', Bool.not_eq_true, Bool.not_eq_false] at hq); exact ⟨hp, hp, (show (0 : Int) ≤ (i : Int) from (by first | omega | (have hz := Sep.sinv_len hP; first | omega | ((try simp only [List.length_append, List.length_cons, List.length_nil, List.length_replicate, List.length_map, List.length_take, List.length_drop, pref_len, ruled_len]); omega)))), (show (i : Int) < List.length s from (by first | omega | (have hz := Sep.sinv_len hP; first | omega | ((try simp only [List.length_append, List.length_cons, List.length_nil, List.length_replicate, List.length_map, List.length_take, List.length_drop, pref_len, ruled_len]); omega))))⟩), (fun hp => hp), (fun hp2 => (by first | exact hp2 | exact ⟨hp, hp2⟩))⟩
      refine AMx.cond (b := ((decide ((i : Int) = (List.length s : Int))) || (decide (((List.getD s i 0).toNat : Int) = 44)))) (by kernel_rfl) (fun hc3 => ?_) (fun hc3 => ?_)
      · try simp only [decide_eq_true_eq, decide_eq_false_iff_not, Bool.or_eq_true, Bool.or_eq_false_iff] at hc3
        refine AMx.seq ?_
        refine AMx.region (ces := [(4, CE.call [] [] (AV.tup [TV.agg [.s (st (((scanP (List.drop f (List.take i s))).1).1)), .s (u8 (((scanP (List.drop f (List.take i s))).1).2))], tc (bo ((scanP (List.drop f (List.take i s))).2))]) [])]) (ks := [0, 4, 6, 7, 8]) (hs := [4, 7]) (cs := [0 ≤ (i : Int), (i : Int) ≤ List.length s, 0 ≤ (f : Int), (f : Int) ≤ (i : Int), Spec Tryd.prog 38 [tc (st (List.drop f (List.take i s)))] (ofH []) (AV.tup [TV.agg [.s (st (((scanP (List.drop f (List.take i s))).1).1)), .s (u8 (((scanP (List.drop f (List.take i s))).1).2))], tc (bo ((scanP (List.drop f (List.take i s))).2))]) (ofH [])]) (s' := AS.lst 50 [(0, vc (st s)), (4, vo 4), (6, vc (i6 (i : Int))), (7, vp 7 0), (8, vc (bo ((scanP (List.drop f (List.take i s))).2)))] [(4, AObj.grow 53 2 RuleV ([], 0) rowP (ruled o)), (7, AObj.row [.s (st (((scanP (List.drop f (List.take i s))).1).1)), .s (u8 (((scanP (List.drop f (List.take i s))).1).2))])]) (by kernel_rfl) ?_ ?_
        · exact ⟨(show 0 ≤ (i : Int) from (by first | omega | (have hz := Sep.sinv_len hP; first | omega | ((try simp only [List.length_append, List.length_cons, List.length_nil, List.length_replicate, List.length_map, List.length_take, List.length_drop, pref_len, ruled_len]); omega)))), (show (i : Int) ≤ List.length s from (by first | omega | (have hz := Sep.sinv_len hP; first | omega | ((try simp only [List.length_append, List.length_cons, List.length_nil, List.length_replicate, List.length_map, List.length_take, List.length_drop, pref_len, ruled_len]); omega)))), (show 0 ≤ (f : Int) from (by first | omega | (have hz := Sep.sinv_len hP; first | omega | ((try simp only [List.length_append, List.length_cons, List.length_nil, List.length_replicate, List.length_map, List.length_take, List.length_drop, pref_len, ruled_len]); omega)))), (show (f : Int) ≤ (i : Int) from (by first | omega | (have hz := Sep.sinv_len hP; first | omega | ((try simp only [List.length_append, List.length_cons, List.length_nil, List.length_replicate, List.length_map, List.length_take, List.length_drop, pref_len, ruled_len]); omega)))), (scan_c (List.drop f (List.take i s)) (by first | omega | (have hz := Sep.sinv_len hP; first | omega | ((try simp only [List.length_append, List.length_cons, List.length_nil, List.length_replicate, List.length_map, List.length_take, List.length_drop, pref_len, ruled_len]); omega))))⟩
        refine AMx.seq ?_
        refine AMx.seq ?_
        refine AMx.region (ces := []) (ks := [0, 4, 6, 7, 37]) (hs := [4, 7]) (cs := []) (s' := AS.lst 50 [(0, vc (st s)), (4, vo 4), (6, vc (i6 (i : Int))), (7, vp 7 0), (37, vc (bo (!((scanP (List.drop f (List.take i s))).2))))] [(4, AObj.grow 53 2 RuleV ([], 0) rowP (ruled o)), (7, AObj.row [.s (st (((scanP (List.drop f (List.take i s))).1).1)), .s (u8 (((scanP (List.drop f (List.take i s))).1).2))])]) (by kernel_rfl) ?_ ?_
        · exact trivial
        refine AMx.cond (b := !((scanP (List.drop f (List.take i s))).2)) (by kernel_rfl) (fun hc4 => ?_) (fun hc4 => ?_)
        · try simp only [decide_eq_true_eq, decide_eq_false_iff_not, Bool.not_eq_true', Bool.not_eq_false'] at hc4
          refine AMx.seq ?_
          refine AMx.region (ces := []) (ks := [2, 3]) (hs := []) (cs := []) (s' := AS.lst 50 [(2, vc (SC.nilsl)), (3, vc (i6 4))] []) (by kernel_rfl) ?_ ?_
          · exact trivial
          refine AMx.ent (ent_weak 2 (v' := vc (slP [])) (by kernel_rfl) (AV.le_t (TV.le_c AC.le_nil))) ?_
          refine AMx.ret ?_
          exact RetP.mk (r := AV.tup [tc (slP []), tc (i6 4)]) (by kernel_rfl) (by rw [show parseP s = ([], 4) from by rw [parse_bad hc1 (fine_bad_in (sinv_in (ref_hit hP (by omega) hc3)) hc4)]])
        · try simp only [decide_eq_true_eq, decide_eq_false_iff_not, Bool.not_eq_true', Bool.not_eq_false'] at hc4
          refine AMx.skip ?_
          refine AMx.seq ?_
          refine AMx.region (ces := [(2, CE.obj (AObj.grow 53 2 RuleV ([], 0) rowP [((scanP (List.drop f (List.take i s))).1)])), (3, CE.obj (AObj.grow 53 2 RuleV ([], 0) rowP ((ruled o) ++ [((scanP (List.drop f (List.take i s))).1)])))]) (ks := [0, 4, 6]) (hs := [41]) (cs := [flat 2 rowP [((scanP (List.drop f (List.take i s))).1)] = [.s (st (((scanP (List.drop f (List.take i s))).1).1)), .s (u8 (((scanP (List.drop f (List.take i s))).1).2))], List.length ([((scanP (List.drop f (List.take i s))).1)] : List RuleV) = 1, AppC (flat 2 rowP [((scanP (List.drop f (List.take i s))).1)]) (List.length ([((scanP (List.drop f (List.take i s))).1)] : List RuleV)) 24 (AObj.grow 53 2 RuleV ([], 0) rowP (ruled o)) (AObj.grow 53 2 RuleV ([], 0) rowP ((ruled o) ++ [((scanP (List.drop f (List.take i s))).1)]))]) (s' := AS.lst 50 [(0, vc (st s)), (4, vo 41), (6, vc (i6 (i : Int)))] [(41, AObj.grow 53 2 RuleV ([], 0) rowP ((ruled o) ++ [((scanP (List.drop f (List.take i s))).1)]))]) (by kernel_rfl) ?_ ?_
          · exact ⟨rfl, rfl, (⟨_, rfl, rfl, rfl, by have hz := Sep.sinv_len hP; simp only [List.length_append, List.length_cons, List.length_nil, List.length_replicate, List.length_map, List.length_take, List.length_drop, pref_len, ruled_len]; omega, by have hz := Sep.sinv_len hP; simp only [maxLen, List.length_append, List.length_cons, List.length_nil, List.length_replicate, List.length_map, List.length_take, List.length_drop, pref_len, ruled_len]; omega⟩)⟩
          refine AMx.region (ces := []) (ks := [0, 4, 5, 6]) (hs := [41]) (cs := [InR .i64 ((i : Int) + 1)]) (s' := AS.lst 50 [(0, vc (st s)), (4, vo 41), (5, vc (i6 ((i : Int) + 1))), (6, vc (i6 (i : Int)))] [(41, AObj.grow 53 2 RuleV ([], 0) rowP ((ruled o) ++ [((scanP (List.drop f (List.take i s))).1)]))]) (by kernel_rfl) ?_ ?_
          · exact (show InR .i64 ((i : Int) + 1) from (inR64 (by first | omega | (have hz := Sep.sinv_len hP; first | omega | ((try simp only [List.length_append, List.length_cons, List.length_nil, List.length_replicate, List.length_map, List.length_take, List.length_drop, pref_len, ruled_len]); omega))) (by first | omega | (have hz := Sep.sinv_len hP; first | omega | ((try simp only [List.length_append, List.length_cons, List.length_nil, List.length_replicate, List.length_map, List.length_take, List.length_drop, pref_len, ruled_len]); omega)))))
          refine AMx.blk ?_
          refine AMx.region (ces := []) (ks := [0, 4, 5, 6]) (hs := [41]) (cs := [InR .i64 ((i : Int) + 1)]) (s' := AS.lst 50 [(0, vc (st s)), (4, vo 41), (5, vc (i6 ((i : Int) + 1))), (6, vc (i6 ((i : Int) + 1)))] [(41, AObj.grow 53 2 RuleV ([], 0) rowP ((ruled o) ++ [((scanP (List.drop f (List.take i s))).1)]))]) (by kernel_rfl) ?_ ?_
          · exact (show InR .i64 ((i : Int) + 1) from (inR64 (by first | omega | (have hz := Sep.sinv_len hP; first | omega | ((try simp only [List.length_append, List.length_cons, List.length_nil, List.length_replicate, List.length_map, List.length_take, List.length_drop, pref_len, ruled_len]); omega))) (by first | omega | (have hz := Sep.sinv_len hP; first | omega | ((try simp only [List.length_append, List.length_cons, List.length_nil, List.length_replicate, List.length_map, List.length_take, List.length_drop, pref_len, ruled_len]); omega)))))
          refine AMx.ent_inv (s' := AS.lst 50 [(0, vc (st s)), (4, vo 4), (5, vc (i6 ((i : Int) + 1))), (6, vc (i6 ((i : Int) + 1)))] [(4, AObj.grow 53 2 RuleV ([], 0) rowP ((ruled o) ++ [((scanP (List.drop f (List.take i s))).1)]))]) (ent_swap 41 4 (by kernel_rfl) (by kernel_rfl)) ?_
          refine AMx.ent_inv (s' := AS.lst 50 [(0, vc (st s)), (4, vo 4), (5, vc (i6 ((i : Int) + 1))), (6, vc (i6 ((i : Int) + 1)))] [(4, AObj.grow 53 2 RuleV ([], 0) rowP ((ruled o) ++ [((scanP (List.drop f (List.take i s))).1)]))]) (ent_proj [0, 4, 5, 6] [4]) ?_
          refine AMx.inv ⟨_, ?_, i + 1, i + 1, o ++ [(List.drop f (List.take i s))], ?_, rfl, ?_⟩
          rotate_left
          · exact ⟨ref_hit hP (by omega) hc3, fine_snoc hN hc4⟩
          · rw [ruled_snoc]; rfl
          · omega
      · try simp only [decide_eq_true_eq, decide_eq_false_iff_not, Bool.or_eq_true, Bool.or_eq_false_iff] at hc3
        refine AMx.skip ?_
        refine AMx.blk ?_
        refine AMx.region (ces := []) (ks := [0, 4, 5, 6]) (hs := [4]) (cs := [InR .i64 ((i : Int) + 1)]) (s' := AS.lst 50 [(0, vc (st s)), (4, vo 4), (5, vc (i6 (f : Int))), (6, vc (i6 ((i : Int) + 1)))] [(4, AObj.grow 53 2 RuleV ([], 0) rowP (ruled o))]) (by kernel_rfl) ?_ ?_
        · exact (show InR .i64 ((i : Int) + 1) from (inR64 (by first | omega | (have hz := Sep.sinv_len hP; first | omega | ((try simp only [List.length_append, List.length_cons, List.length_nil, List.length_replicate, List.length_map, List.length_take, List.length_drop, pref_len, ruled_len]); omega))) (by first | omega | (have hz := Sep.sinv_len hP; first | omega | ((try simp only [List.length_append, List.length_cons, List.length_nil, List.length_replicate, List.length_map, List.length_take, List.length_drop, pref_len, ruled_len]); omega)))))
        refine AMx.ent_inv (s' := AS.lst 50 [(0, vc (st s)), (4, vo 4), (5, vc (i6 (f : Int))), (6, vc (i6 ((i : Int) + 1)))] [(4, AObj.grow 53 2 RuleV ([], 0) rowP (ruled o))]) (ent_proj [0, 4, 5, 6] [4]) ?_
        refine AMx.inv ⟨_, ?_, i + 1, f, o, ?_, rfl, ?_⟩
        rotate_left
        · exact ⟨ref_not hP (by omega) hc3, hN⟩
        · rfl
        · omega
    · try simp only [decide_eq_true_eq, decide_eq_false_iff_not] at hc2
      refine AMx.exit ?_
      refine AMx.code_exit ?_
      refine AMx.inv_exit ?_
      refine AMx.blk_exit ?_
      refine AMx.seq ?_
      refine AMx.ent (s' := AS.lst 50 [(0, vc (st s)), (4, vc (slP (ruled o))), (5, vc (i6 (f : Int))), (6, vc (i6 (i : Int))), (15, vc (bo (decide ((i : Int) ≤ (List.length s : Int)))))] []) (ent_freeze (id := 4) (T := 53) (by kernel_rfl)) ?_
      refine AMx.region (ces := [(1, CE.call [] [] (vc (i6 (checkP (ruled o)))) [])]) (ks := [4, 9]) (hs := []) (cs := [Spec Tryd.prog 12 [tc (slP (ruled o))] (ofH []) (vc (i6 (checkP (ruled o)))) (ofH [])]) (s' := AS.lst 50 [(4, vc (slP (ruled o))), (9, vc (i6 (checkP (ruled o))))] []) (by kernel_rfl) ?_ ?_
      · exact (RCheck_c (ruled o))
      refine AMx.seq ?_
      refine AMx.seq ?_
      refine AMx.region (ces := []) (ks := [4, 9, 47]) (hs := []) (cs := []) (s' := AS.lst 50 [(4, vc (slP (ruled o))), (9, vc (i6 (checkP (ruled o)))), (47, vc (bo (!decide (checkP (ruled o) = 0))))] []) (by kernel_rfl) ?_ ?_
      · exact trivial
      refine AMx.cond (b := !decide (checkP (ruled o) = 0)) (by kernel_rfl) (fun hc5 => ?_) (fun hc5 => ?_)
      · try simp only [decide_eq_true_eq, decide_eq_false_iff_not, Bool.not_eq_true', Bool.not_eq_false'] at hc5
        refine AMx.seq ?_
        refine AMx.region (ces := []) (ks := [2, 3]) (hs := []) (cs := []) (s' := AS.lst 50 [(2, vc (SC.nilsl)), (3, vc (i6 (checkP (ruled o))))] []) (by kernel_rfl) ?_ ?_
        · exact trivial
        refine AMx.ent (ent_weak 2 (v' := vc (slP [])) (by kernel_rfl) (AV.le_t (TV.le_c AC.le_nil))) ?_
        refine AMx.ret ?_
        exact RetP.mk (r := AV.tup [tc (slP []), tc (i6 (checkP (ruled o)))]) (by kernel_rfl) (by rw [show parseP s = ([], checkP (ruled o)) from by have he := Sep.sinv_end hP (by omega); rw [parse_no hc1 (by rw [he]; exact hN) (by rw [he]; assumption), he]])
      · try simp only [decide_eq_true_eq, decide_eq_false_iff_not, Bool.not_eq_true', Bool.not_eq_false'] at hc5
        refine AMx.skip ?_
        refine AMx.seq ?_
        refine AMx.region (ces := []) (ks := [2, 3]) (hs := []) (cs := []) (s' := AS.lst 50 [(2, vc (slP (ruled o))), (3, vc (i6 0))] []) (by kernel_rfl) ?_ ?_
        · exact trivial
        refine AMx.ret ?_
        exact RetP.mk (r := AV.tup [tc (slP (ruled o)), tc (i6 0)]) (by kernel_rfl) (by rw [show parseP s = (ruled o, 0) from by have he := Sep.sinv_end hP (by omega); rw [parse_ok hc1 (by rw [he]; exact hN) (by rw [he]; assumption), he]])

end AL.Policy
