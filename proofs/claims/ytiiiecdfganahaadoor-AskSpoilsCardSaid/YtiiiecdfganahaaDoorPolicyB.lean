/- policy: the contracts of its functions, by their walks. No condition. -/
import Derived.Test.YtiiiecdfganahaaDoorPolicyA
namespace AL.Policy
open Go Go.Proofs AL AL.Rune
set_option linter.unusedVariables false
set_option linter.unusedSimpArgs false

theorem f35_body : Tryd.f35.body = some (.seq (.region 0 (rg Tryd.f35 0) false) (.seq (.seq (.region 1 (rg Tryd.f35 1) false) (.cond (.tmp 10) (.seq (.region 2 (rg Tryd.f35 2) false) (.ret)) (.skip))) (.seq (.seq (.region 3 (rg Tryd.f35 3) false) (.block 0 (.loop (.seq (.region 4 (rg Tryd.f35 4) false) (.seq (.cond (.tmp 14) (.skip) (.exit 0)) (.seq (.block 1 (.seq (.region 5 (rg Tryd.f35 5) false) (.seq (.region 6 (rg Tryd.f35 6) true) (.cond (.tmp 24) (.seq (.region 7 (rg Tryd.f35 7) false) (.ret)) (.skip))))) (.region 8 (rg Tryd.f35 8) false))))))) (.seq (.region 9 (rg Tryd.f35 9) false) (.ret))))) := by kernel_rfl

set_option maxRecDepth 100000 in
set_option maxHeartbeats 8000000 in
theorem Equal_c (a b : List RuleV) : Pure Tryd.prog 35 [tc (slP a), tc (slP b)] (vc (bo (decide (a = b)))) := by
  refine Pure.of_body Tryd.func35 f35_body (by kernel_rfl) Tryd.ntmps35 (by kernel_rfl) (by kernel_rfl) ?_
  refine AMx.sl 0 (l := a) rfl (fun hl => ?_)
  simp only [maxLen] at hl
  refine AMx.seq ?_
  refine AMx.region (ces := []) (ks := [0, 1]) (hs := []) (cs := []) (s' := AS.lst 26 [(0, vc (slP a)), (1, vc (slP b))] []) (by kernel_rfl) ?_ ?_
  · exact trivial
  refine AMx.seq ?_
  refine AMx.seq ?_
  refine AMx.region (ces := []) (ks := [0, 1, 10]) (hs := []) (cs := []) (s' := AS.lst 26 [(0, vc (slP a)), (1, vc (slP b)), (10, vc (bo (!decide ((List.length a : Int) = (List.length b : Int)))))] []) (by kernel_rfl) ?_ ?_
  · exact trivial
  refine AMx.cond (b := !decide ((List.length a : Int) = (List.length b : Int))) (by kernel_rfl) (fun hc1 => ?_) (fun hc1 => ?_)
  · try simp only [decide_eq_true_eq, decide_eq_false_iff_not, Bool.not_eq_true', Bool.not_eq_false'] at hc1
    refine AMx.seq ?_
    refine AMx.region (ces := []) (ks := [4]) (hs := []) (cs := []) (s' := AS.lst 26 [(4, vc (bo false))] []) (by kernel_rfl) ?_ ?_
    · exact trivial
    refine AMx.ret ?_
    exact RetP.mk (r := vc (bo false)) (by kernel_rfl) (by rw [decide_eq_false (fun h => by subst h; simp_all)])
  · try simp only [decide_eq_true_eq, decide_eq_false_iff_not, Bool.not_eq_true', Bool.not_eq_false'] at hc1
    refine AMx.skip ?_
    refine AMx.seq ?_
    refine AMx.seq ?_
    refine AMx.region (ces := []) (ks := [0, 1, 12, 13]) (hs := []) (cs := []) (s' := AS.lst 26 [(0, vc (slP a)), (1, vc (slP b)), (12, vc (i6 (List.length a : Int))), (13, vc (i6 0))] []) (by kernel_rfl) ?_ ?_
    · exact trivial
    refine AMx.block ?_
    refine AMx.ent (s' := AS.lst 26 [(0, vc (slP a)), (1, vc (slP b)), (12, vc (i6 (List.length a : Int))), (13, vc (i6 0))] []) (ent_proj [0, 1, 12, 13] []) ?_
    refine AMx.loop (fun mm ss => ∃ (i : Nat), (i ≤ a.length ∧ List.take i a = List.take i b) ∧ mm = a.length - i ∧ ss = AS.lst 26 [(0, vc (slP a)), (1, vc (slP b)), (12, vc (i6 (List.length a : Int))), (13, vc (i6 (i : Int)))] []) ⟨0, ?_, rfl, ?_⟩ ?_
    · exact ⟨by omega, rfl⟩
    · rfl
    rintro mm ss ⟨i, ⟨hI, hE⟩, rfl, rfl⟩
    refine AMx.seq ?_
    refine AMx.region (ces := []) (ks := [0, 1, 12, 13, 14]) (hs := []) (cs := []) (s' := AS.lst 26 [(0, vc (slP a)), (1, vc (slP b)), (12, vc (i6 (List.length a : Int))), (13, vc (i6 (i : Int))), (14, vc (bo (decide ((i : Int) < (List.length a : Int)))))] []) (by kernel_rfl) ?_ ?_
    · exact trivial
    refine AMx.seq ?_
    refine AMx.cond (b := decide ((i : Int) < (List.length a : Int))) (by kernel_rfl) (fun hc2 => ?_) (fun hc2 => ?_)
    · try simp only [decide_eq_true_eq, decide_eq_false_iff_not] at hc2
      refine AMx.skip ?_
      refine AMx.seq ?_
      refine AMx.block ?_
      refine AMx.seq ?_
      refine AMx.region (ces := []) (ks := [0, 1, 5, 12, 13]) (hs := []) (cs := []) (s' := AS.lst 26 [(0, vc (slP a)), (1, vc (slP b)), (5, vc (i6 (i : Int))), (12, vc (i6 (List.length a : Int))), (13, vc (i6 (i : Int)))] []) (by kernel_rfl) ?_ ?_
      · exact trivial
      refine AMx.seq ?_
      refine AMx.region_draw (ces := []) (ros := []) (ks := [0, 1, 12, 13, 24]) (hs := []) (cs := [(0 : Int) ≤ (i : Int), (i : Int) < List.length a, (0 : Int) ≤ (i : Int), (i : Int) < List.length b]) (s' := AS.lst 26 [(0, vc (slP a)), (1, vc (slP b)), (12, vc (i6 (List.length a : Int))), (13, vc (i6 (i : Int))), (24, vc (bo (!(decide ((List.getD a i ([], 0)).1 = (List.getD b i ([], 0)).1) && (decide ((List.getD a i ([], 0)).2 = (List.getD b i ([], 0)).2) && true)))))] []) mixed (by kernel_rfl) ?_ ?_
      · exact ⟨(show (0 : Int) ≤ (i : Int) from (by omega)), (show (i : Int) < List.length a from (by omega)), (show (0 : Int) ≤ (i : Int) from (by omega)), (show (i : Int) < List.length b from (by omega))⟩
      refine AMx.cond (b := !(decide ((List.getD a i ([], 0)).1 = (List.getD b i ([], 0)).1) && (decide ((List.getD a i ([], 0)).2 = (List.getD b i ([], 0)).2) && true))) (by kernel_rfl) (fun hc3 => ?_) (fun hc3 => ?_)
      · try simp only [decide_eq_true_eq, decide_eq_false_iff_not, Bool.and_eq_true, Bool.and_eq_false_iff, Bool.not_eq_true', Bool.not_eq_false'] at hc3
        refine AMx.seq ?_
        refine AMx.region (ces := []) (ks := [4]) (hs := []) (cs := []) (s' := AS.lst 26 [(4, vc (bo false))] []) (by kernel_rfl) ?_ ?_
        · exact trivial
        refine AMx.ret ?_
        exact RetP.mk (r := vc (bo false)) (by kernel_rfl) (by rw [decide_eq_false (fun h => by subst h; simp_all)])
      · try simp only [decide_eq_true_eq, decide_eq_false_iff_not, Bool.and_eq_true, Bool.and_eq_false_iff, Bool.not_eq_true', Bool.not_eq_false'] at hc3
        refine AMx.skip ?_
        refine AMx.blk ?_
        refine AMx.region (ces := []) (ks := [0, 1, 12, 13]) (hs := []) (cs := [InR .i64 ((i : Int) + 1)]) (s' := AS.lst 26 [(0, vc (slP a)), (1, vc (slP b)), (12, vc (i6 (List.length a : Int))), (13, vc (i6 ((i : Int) + 1)))] []) (by kernel_rfl) ?_ ?_
        · exact (show InR .i64 ((i : Int) + 1) from (inR64 (by omega) (by omega)))
        refine AMx.ent_inv (s' := AS.lst 26 [(0, vc (slP a)), (1, vc (slP b)), (12, vc (i6 (List.length a : Int))), (13, vc (i6 ((i : Int) + 1)))] []) (ent_proj [0, 1, 12, 13] []) ?_
        refine AMx.inv ⟨_, ?_, i + 1, ?_, rfl, ?_⟩
        rotate_left
        · exact ⟨by omega, Lib.same_step ([], 0) a b i (by omega) (by omega) hE (by grind)⟩
        · rfl
        · omega
    · try simp only [decide_eq_true_eq, decide_eq_false_iff_not] at hc2
      refine AMx.exit ?_
      refine AMx.code_exit ?_
      refine AMx.inv_exit ?_
      refine AMx.blk_exit ?_
      refine AMx.seq ?_
      refine AMx.region (ces := []) (ks := [4]) (hs := []) (cs := []) (s' := AS.lst 26 [(4, vc (bo true))] []) (by kernel_rfl) ?_ ?_
      · exact trivial
      refine AMx.ret ?_
      exact RetP.mk (r := vc (bo true)) (by kernel_rfl) (by rw [decide_eq_true (Lib.same_end a b i (by omega) (by omega) hE)])

theorem f26_body : Tryd.f26.body = some (.seq (.region 0 (rg Tryd.f26 0) false) (.seq (.region 1 (rg Tryd.f26 1) false) (.ret))) := by kernel_rfl

set_option maxRecDepth 100000 in
set_option maxHeartbeats 8000000 in
theorem Same_c (a b : List RuleV) : Pure Tryd.prog 26 [tc (slP a), tc (slP b)] (vc (bo (decide (a = b)))) := by
  refine Pure.of_body Tryd.func26 f26_body (by kernel_rfl) Tryd.ntmps26 (by kernel_rfl) (by kernel_rfl) ?_
  refine AMx.seq ?_
  refine AMx.region (ces := []) (ks := [0, 1]) (hs := []) (cs := []) (s' := AS.lst 8 [(0, vc (slP a)), (1, vc (slP b))] []) (by kernel_rfl) ?_ ?_
  · exact trivial
  refine AMx.seq ?_
  refine AMx.region (ces := [(2, CE.call [] [] (vc (bo (decide (a = b)))) [])]) (ks := [4]) (hs := []) (cs := [Spec Tryd.prog 35 [tc (slP a), tc (slP b)] (ofH []) (vc (bo (decide (a = b)))) (ofH [])]) (s' := AS.lst 8 [(4, vc (bo (decide (a = b))))] []) (by kernel_rfl) ?_ ?_
  · exact (Equal_c a b)
  refine AMx.ret ?_
  exact RetP.mk (r := vc (bo (decide (a = b)))) (by kernel_rfl) rfl

end AL.Policy
