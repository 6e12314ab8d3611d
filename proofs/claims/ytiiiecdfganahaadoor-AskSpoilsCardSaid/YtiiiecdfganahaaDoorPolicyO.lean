/- policy: the contracts of its functions, by their walks. No condition. -/
import Derived.Test.YtiiiecdfganahaaDoorPolicyD
import Derived.Test.YtiiiecdfganahaaDoorALe
namespace AL.Policy
open Go Go.Proofs AL AL.Rune
set_option linter.unusedVariables false
set_option linter.unusedSimpArgs false

theorem f20_body : Tryd.f20.body = some (.seq (.region 0 (rg Tryd.f20 0) false) (.seq (.region 1 (rg Tryd.f20 1) false) (.seq (.seq (.region 2 (rg Tryd.f20 2) false) (.block 0 (.loop (.seq (.seq (.region 3 (rg Tryd.f20 3) false) (.cond (.tmp 8) (.skip) (.exit 0))) (.seq (.block 1 (.region 5 (rg Tryd.f20 5) false)) (.region 4 (rg Tryd.f20 4) false)))))) (.seq (.region 6 (rg Tryd.f20 6) false) (.ret))))) := by kernel_rfl

set_option maxRecDepth 100000 in
set_option maxHeartbeats 8000000 in
theorem Own_c (l : List RuleV) (hl : l.length ≤ 100000) : Pure Tryd.prog 20 [tc (slP l)] (vc (slP l)) := by
  refine Pure.of_body Tryd.func20 f20_body (by kernel_rfl) Tryd.ntmps20 (by kernel_rfl) (by kernel_rfl) ?_
  refine AMx.seq ?_
  refine AMx.region (ces := []) (ks := [0]) (hs := []) (cs := []) (s' := AS.lst 19 [(0, vc (slP l))] []) (by kernel_rfl) ?_ ?_
  · exact trivial
  refine AMx.seq ?_
  refine AMx.region (ces := []) (ks := [0, 3]) (hs := []) (cs := []) (s' := AS.lst 19 [(0, vc (slP l)), (3, vc (SC.nilsl))] []) (by kernel_rfl) ?_ ?_
  · exact trivial
  refine AMx.seq ?_
  refine AMx.seq ?_
  refine AMx.region (ces := []) (ks := [0, 3, 4]) (hs := []) (cs := []) (s' := AS.lst 19 [(0, vc (slP l)), (3, vc (SC.nilsl)), (4, vc (i6 0))] []) (by kernel_rfl) ?_ ?_
  · exact trivial
  refine AMx.block ?_
  refine AMx.ent (s' := AS.lst 19 [(0, vc (slP l)), (3, vo 3), (4, vc (i6 0))] [(3, AObj.grow 66 2 RuleV ([], 0) rowP [])]) (ent_adopt (t := 3) (d := 3) 66 2 RuleV ([], 0) rowP (by kernel_rfl) (by kernel_rfl) (by kernel_rfl) (by kernel_rfl)) ?_
  refine AMx.ent (s' := AS.lst 19 [(0, vc (slP l)), (3, vo 3), (4, vc (i6 0))] [(3, AObj.grow 66 2 RuleV ([], 0) rowP [])]) (ent_proj [0, 3, 4] [3]) ?_
  refine AMx.loop (fun mm ss => ∃ (i : Nat), (i ≤ l.length) ∧ mm = l.length - i ∧ ss = AS.lst 19 [(0, vc (slP l)), (3, vo 3), (4, vc (i6 (i : Int)))] [(3, AObj.grow 66 2 RuleV ([], 0) rowP (List.take i l))]) ⟨0, ?_, rfl, ?_⟩ ?_
  · omega
  · rfl
  rintro mm ss ⟨i, hI, rfl, rfl⟩
  refine AMx.seq ?_
  refine AMx.seq ?_
  refine AMx.region (ces := []) (ks := [0, 3, 4, 8]) (hs := [3]) (cs := []) (s' := AS.lst 19 [(0, vc (slP l)), (3, vo 3), (4, vc (i6 (i : Int))), (8, vc (bo (decide ((i : Int) < (List.length l : Int)))))] [(3, AObj.grow 66 2 RuleV ([], 0) rowP (List.take i l))]) (by kernel_rfl) ?_ ?_
  · exact trivial
  refine AMx.cond (b := decide ((i : Int) < (List.length l : Int))) (by kernel_rfl) (fun hc1 => ?_) (fun hc1 => ?_)
  · try simp only [decide_eq_true_eq, decide_eq_false_iff_not] at hc1
    refine AMx.skip ?_
    refine AMx.seq ?_
    refine AMx.block ?_
    refine AMx.region (ces := [(5, CE.obj (AObj.grow 66 2 RuleV ([], 0) rowP [(List.getD l i ([], 0))])), (6, CE.obj (AObj.grow 66 2 RuleV ([], 0) rowP ((List.take i l) ++ [(List.getD l i ([], 0))])))]) (ks := [0, 3, 4]) (hs := [17]) (cs := [(0 : Int) ≤ (i : Int), (i : Int) < List.length l, flat 2 rowP [(List.getD l i ([], 0))] = [.s (st ((List.getD l i ([], 0)).1)), .s (u8 ((List.getD l i ([], 0)).2))], List.length ([(List.getD l i ([], 0))] : List RuleV) = 1, AppC (flat 2 rowP [(List.getD l i ([], 0))]) (List.length ([(List.getD l i ([], 0))] : List RuleV)) 24 (AObj.grow 66 2 RuleV ([], 0) rowP (List.take i l)) (AObj.grow 66 2 RuleV ([], 0) rowP ((List.take i l) ++ [(List.getD l i ([], 0))]))]) (s' := AS.lst 19 [(0, vc (slP l)), (3, vo 17), (4, vc (i6 (i : Int)))] [(17, AObj.grow 66 2 RuleV ([], 0) rowP ((List.take i l) ++ [(List.getD l i ([], 0))]))]) (by kernel_rfl) ?_ ?_
    · exact ⟨(show (0 : Int) ≤ (i : Int) from (by omega)), (show (i : Int) < List.length l from (by omega)), rfl, rfl, (⟨_, rfl, rfl, rfl, by simp only [List.length_take, List.length_cons, List.length_nil]; omega, by simp only [maxLen, List.length_take, List.length_cons, List.length_nil]; omega⟩)⟩
    refine AMx.blk ?_
    refine AMx.region (ces := []) (ks := [0, 3, 4]) (hs := [17]) (cs := [InR .i64 ((i : Int) + 1)]) (s' := AS.lst 19 [(0, vc (slP l)), (3, vo 17), (4, vc (i6 ((i : Int) + 1)))] [(17, AObj.grow 66 2 RuleV ([], 0) rowP ((List.take i l) ++ [(List.getD l i ([], 0))]))]) (by kernel_rfl) ?_ ?_
    · exact (show InR .i64 ((i : Int) + 1) from (inR64 (by omega) (by omega)))
    refine AMx.ent_inv (s' := AS.lst 19 [(0, vc (slP l)), (3, vo 3), (4, vc (i6 ((i : Int) + 1)))] [(3, AObj.grow 66 2 RuleV ([], 0) rowP ((List.take i l) ++ [(List.getD l i ([], 0))]))]) (ent_swap 17 3 (by kernel_rfl) (by kernel_rfl)) ?_
    refine AMx.ent_inv (s' := AS.lst 19 [(0, vc (slP l)), (3, vo 3), (4, vc (i6 ((i : Int) + 1)))] [(3, AObj.grow 66 2 RuleV ([], 0) rowP ((List.take i l) ++ [(List.getD l i ([], 0))]))]) (ent_proj [0, 3, 4] [3]) ?_
    refine AMx.inv ⟨_, ?_, i + 1, ?_, rfl, ?_⟩
    rotate_left
    · omega
    · rw [Lib.take_succ ([], 0) l i (by omega)]; rfl
    · omega
  · try simp only [decide_eq_true_eq, decide_eq_false_iff_not] at hc1
    refine AMx.exit ?_
    refine AMx.code_exit ?_
    refine AMx.inv_exit ?_
    refine AMx.blk_exit ?_
    refine AMx.seq ?_
    refine AMx.region (ces := []) (ks := [2]) (hs := [3]) (cs := []) (s' := AS.lst 19 [(2, vo 3)] [(3, AObj.grow 66 2 RuleV ([], 0) rowP (List.take i l))]) (by kernel_rfl) ?_ ?_
    · exact trivial
    refine AMx.ent (s' := AS.lst 19 [(2, vc (slP (List.take i l)))] []) (ent_freeze (id := 3) (T := 66) (by kernel_rfl)) ?_
    refine AMx.ret ?_
    exact RetP.mk (r := vc (slP (List.take i l))) (by kernel_rfl) (by rw [List.take_of_length_le (by omega)])

theorem f18_body : Tryd.f18.body = some (.seq (.region 0 (rg Tryd.f18 0) false) (.seq (.seq (.region 1 (rg Tryd.f18 1) false) (.cond (.tmp 6) (.seq (.region 2 (rg Tryd.f18 2) false) (.ret)) (.skip))) (.seq (.seq (.region 3 (rg Tryd.f18 3) false) (.block 0 (.loop (.seq (.seq (.region 4 (rg Tryd.f18 4) false) (.cond (.tmp 10) (.skip) (.exit 0))) (.seq (.block 1 (.seq (.region 6 (rg Tryd.f18 6) false) (.cond (.tmp 19) (.seq (.region 7 (rg Tryd.f18 7) false) (.ret)) (.skip)))) (.region 5 (rg Tryd.f18 5) false)))))) (.seq (.region 8 (rg Tryd.f18 8) false) (.ret))))) := by kernel_rfl

set_option maxRecDepth 100000 in
set_option maxHeartbeats 8000000 in
theorem Over_c (l : List RuleV) : Pure Tryd.prog 18 [tc (slP l)] (vc (i6 (overP l))) := by
  refine Pure.of_body Tryd.func18 f18_body (by kernel_rfl) Tryd.ntmps18 (by kernel_rfl) (by kernel_rfl) ?_
  refine AMx.sl 0 (l := l) rfl (fun hl => ?_)
  simp only [maxLen] at hl
  refine AMx.seq ?_
  refine AMx.region (ces := []) (ks := [0]) (hs := []) (cs := []) (s' := AS.lst 20 [(0, vc (slP l))] []) (by kernel_rfl) ?_ ?_
  · exact trivial
  refine AMx.seq ?_
  refine AMx.seq ?_
  refine AMx.region (ces := []) (ks := [0, 6]) (hs := []) (cs := []) (s' := AS.lst 20 [(0, vc (slP l)), (6, vc (bo (decide (8 < (List.length l : Int)))))] []) (by kernel_rfl) ?_ ?_
  · exact trivial
  refine AMx.cond (b := decide (8 < (List.length l : Int))) (by kernel_rfl) (fun hc1 => ?_) (fun hc1 => ?_)
  · try simp only [decide_eq_true_eq, decide_eq_false_iff_not] at hc1
    refine AMx.seq ?_
    refine AMx.region (ces := []) (ks := [2]) (hs := []) (cs := []) (s' := AS.lst 20 [(2, vc (i6 1))] []) (by kernel_rfl) ?_ ?_
    · exact trivial
    refine AMx.ret ?_
    exact RetP.mk (r := vc (i6 1)) (by kernel_rfl) (by first | rw [over_1 (by omega)] | rw [over_2 (k := i) (by omega) (by omega)])
  · try simp only [decide_eq_true_eq, decide_eq_false_iff_not] at hc1
    refine AMx.skip ?_
    refine AMx.seq ?_
    refine AMx.seq ?_
    refine AMx.region (ces := []) (ks := [0, 3]) (hs := []) (cs := []) (s' := AS.lst 20 [(0, vc (slP l)), (3, vc (i6 0))] []) (by kernel_rfl) ?_ ?_
    · exact trivial
    refine AMx.block ?_
    refine AMx.ent (s' := AS.lst 20 [(0, vc (slP l)), (3, vc (i6 0))] []) (ent_proj [0, 3] []) ?_
    refine AMx.loop (fun mm ss => ∃ (i : Nat), (i ≤ l.length ∧ ShortTo l i) ∧ mm = l.length - i ∧ ss = AS.lst 20 [(0, vc (slP l)), (3, vc (i6 (i : Int)))] []) ⟨0, ?_, rfl, ?_⟩ ?_
    · exact ⟨Nat.zero_le _, fun j hj => by omega⟩
    · rfl
    rintro mm ss ⟨i, ⟨hI, hN⟩, rfl, rfl⟩
    refine AMx.seq ?_
    refine AMx.seq ?_
    refine AMx.region (ces := []) (ks := [0, 3, 10]) (hs := []) (cs := []) (s' := AS.lst 20 [(0, vc (slP l)), (3, vc (i6 (i : Int))), (10, vc (bo (decide ((i : Int) < (List.length l : Int)))))] []) (by kernel_rfl) ?_ ?_
    · exact trivial
    refine AMx.cond (b := decide ((i : Int) < (List.length l : Int))) (by kernel_rfl) (fun hc2 => ?_) (fun hc2 => ?_)
    · try simp only [decide_eq_true_eq, decide_eq_false_iff_not] at hc2
      refine AMx.skip ?_
      refine AMx.seq ?_
      refine AMx.block ?_
      refine AMx.seq ?_
      refine AMx.region (ces := []) (ks := [0, 3, 19]) (hs := []) (cs := [(0 : Int) ≤ (i : Int), (i : Int) < List.length l]) (s' := AS.lst 20 [(0, vc (slP l)), (3, vc (i6 (i : Int))), (19, vc (bo (decide (100 < (List.length ((List.getD l i ([], 0)).1 : List UInt8) : Int)))))] []) (by kernel_rfl) ?_ ?_
      · exact ⟨(show (0 : Int) ≤ (i : Int) from (by omega)), (show (i : Int) < List.length l from (by omega))⟩
      refine AMx.cond (b := decide (100 < (List.length ((List.getD l i ([], 0)).1 : List UInt8) : Int))) (by kernel_rfl) (fun hc3 => ?_) (fun hc3 => ?_)
      · try simp only [decide_eq_true_eq, decide_eq_false_iff_not] at hc3
        refine AMx.seq ?_
        refine AMx.region (ces := []) (ks := [2]) (hs := []) (cs := []) (s' := AS.lst 20 [(2, vc (i6 1))] []) (by kernel_rfl) ?_ ?_
        · exact trivial
        refine AMx.ret ?_
        exact RetP.mk (r := vc (i6 1)) (by kernel_rfl) (by first | rw [over_1 (by omega)] | rw [over_2 (k := i) (by omega) (by omega)])
      · try simp only [decide_eq_true_eq, decide_eq_false_iff_not] at hc3
        refine AMx.skip ?_
        refine AMx.blk ?_
        refine AMx.region (ces := []) (ks := [0, 3]) (hs := []) (cs := [InR .i64 ((i : Int) + 1)]) (s' := AS.lst 20 [(0, vc (slP l)), (3, vc (i6 ((i : Int) + 1)))] []) (by kernel_rfl) ?_ ?_
        · exact (show InR .i64 ((i : Int) + 1) from (inR64 (by omega) (by omega)))
        refine AMx.ent_inv (s' := AS.lst 20 [(0, vc (slP l)), (3, vc (i6 ((i : Int) + 1)))] []) (ent_proj [0, 3] []) ?_
        refine AMx.inv ⟨_, ?_, i + 1, ?_, rfl, ?_⟩
        rotate_left
        · exact ⟨by omega, short_step hN (by omega)⟩
        · rfl
        · omega
    · try simp only [decide_eq_true_eq, decide_eq_false_iff_not] at hc2
      refine AMx.exit ?_
      refine AMx.code_exit ?_
      refine AMx.inv_exit ?_
      refine AMx.blk_exit ?_
      refine AMx.seq ?_
      refine AMx.region (ces := []) (ks := [2]) (hs := []) (cs := []) (s' := AS.lst 20 [(2, vc (i6 0))] []) (by kernel_rfl) ?_ ?_
      · exact trivial
      refine AMx.ret ?_
      exact RetP.mk (r := vc (i6 0)) (by kernel_rfl) (by rw [over_0 (by omega) (by omega) hN])

end AL.Policy
