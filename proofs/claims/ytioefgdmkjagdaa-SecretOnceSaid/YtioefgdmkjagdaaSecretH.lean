/- secret: the contracts of its functions, by their walks. No condition. -/
import Derived.Test.YtioefgdmkjagdaaSecretF
namespace AL.Secret
open Go Go.Proofs AL AL.Fnv
set_option linter.unusedVariables false
set_option linter.unusedSimpArgs false

theorem f70_body : Try.f70.body = some (.seq (.region 0 (rg Try.f70 0) false) (.seq (.seq (.region 1 (rg Try.f70 1) false) (.block 0 (.loop (.seq (.seq (.region 2 (rg Try.f70 2) false) (.cond (.tmp 7) (.skip) (.exit 0))) (.seq (.block 1 (.seq (.region 4 (rg Try.f70 4) false) (.cond (.tmp 16) (.seq (.region 5 (rg Try.f70 5) false) (.ret)) (.skip)))) (.region 3 (rg Try.f70 3) false)))))) (.seq (.region 6 (rg Try.f70 6) false) (.ret)))) := by kernel_rfl

set_option maxRecDepth 100000 in
set_option maxHeartbeats 8000000 in
theorem few_c (l : List OpO) : Pure Try.prog 70 [tc (slQ l)] (vc (bo (fewS l))) := by
  refine Pure.of_body Try.func70 f70_body (by kernel_rfl) Try.ntmps70 (by kernel_rfl) (by kernel_rfl) ?_
  refine AMx.sl 0 (l := l) rfl (fun hl => ?_)
  simp only [maxLen] at hl
  refine AMx.seq ?_
  refine AMx.region (ces := []) (ks := [0]) (hs := []) (cs := []) (s' := AS.lst 20 [(0, vc (slQ l))] []) (by kernel_rfl) ?_ ?_
  · exact trivial
  refine AMx.seq ?_
  refine AMx.seq ?_
  refine AMx.region (ces := []) (ks := [0, 3]) (hs := []) (cs := []) (s' := AS.lst 20 [(0, vc (slQ l)), (3, vc (i6 0))] []) (by kernel_rfl) ?_ ?_
  · exact trivial
  refine AMx.block ?_
  refine AMx.ent (s' := AS.lst 20 [(0, vc (slQ l)), (3, vc (i6 0))] []) (ent_proj [0, 3] []) ?_
  refine AMx.loop (fun mm ss => ∃ (i : Nat), (i ≤ l.length ∧ ∀ o ∈ List.take i l, o.ns.length ≤ 20) ∧ mm = l.length - i ∧ ss = AS.lst 20 [(0, vc (slQ l)), (3, vc (i6 (i : Int)))] []) ⟨0, ?_, rfl, ?_⟩ ?_
  · exact ⟨by omega, fun x hx => by simp at hx⟩
  · rfl
  rintro mm ss ⟨i, ⟨hI, hA⟩, rfl, rfl⟩
  refine AMx.seq ?_
  refine AMx.seq ?_
  refine AMx.region (ces := []) (ks := [0, 3, 7]) (hs := []) (cs := []) (s' := AS.lst 20 [(0, vc (slQ l)), (3, vc (i6 (i : Int))), (7, vc (bo (decide ((i : Int) < (List.length l : Int)))))] []) (by kernel_rfl) ?_ ?_
  · exact trivial
  refine AMx.cond (b := decide ((i : Int) < (List.length l : Int))) (by kernel_rfl) (fun hc1 => ?_) (fun hc1 => ?_)
  · try simp only [decide_eq_true_eq, decide_eq_false_iff_not] at hc1
    refine AMx.skip ?_
    refine AMx.seq ?_
    refine AMx.block ?_
    refine AMx.seq ?_
    refine AMx.region (ces := []) (ks := [0, 3, 16]) (hs := []) (cs := [(0 : Int) ≤ (i : Int), (i : Int) < List.length l]) (s' := AS.lst 20 [(0, vc (slQ l)), (3, vc (i6 (i : Int))), (16, vc (bo (decide (20 < (List.length ((List.getD l i opq).ns : List Int) : Int)))))] []) (by kernel_rfl) ?_ ?_
    · exact ⟨(show (0 : Int) ≤ (i : Int) from (by omega)), (show (i : Int) < List.length l from (by omega))⟩
    refine AMx.cond (b := decide (20 < (List.length ((List.getD l i opq).ns : List Int) : Int))) (by kernel_rfl) (fun hc2 => ?_) (fun hc2 => ?_)
    · try simp only [decide_eq_true_eq, decide_eq_false_iff_not] at hc2
      refine AMx.seq ?_
      refine AMx.region (ces := []) (ks := [2]) (hs := []) (cs := []) (s' := AS.lst 20 [(2, vc (bo false))] []) (by kernel_rfl) ?_ ?_
      · exact trivial
      refine AMx.ret ?_
      exact RetP.mk (r := vc (bo false)) (by kernel_rfl) (by rw [few_no (i := i) (by omega) (by omega)])
    · try simp only [decide_eq_true_eq, decide_eq_false_iff_not] at hc2
      refine AMx.skip ?_
      refine AMx.blk ?_
      refine AMx.region (ces := []) (ks := [0, 3]) (hs := []) (cs := [InR .i64 ((i : Int) + 1)]) (s' := AS.lst 20 [(0, vc (slQ l)), (3, vc (i6 ((i : Int) + 1)))] []) (by kernel_rfl) ?_ ?_
      · exact (show InR .i64 ((i : Int) + 1) from (inR64 (by omega) (by omega)))
      refine AMx.ent_inv (s' := AS.lst 20 [(0, vc (slQ l)), (3, vc (i6 ((i : Int) + 1)))] []) (ent_proj [0, 3] []) ?_
      refine AMx.inv ⟨_, ?_, i + 1, ?_, rfl, ?_⟩
      rotate_left
      · exact ⟨by omega, fun x hx => by rw [Lib.take_succ opq _ i (by omega)] at hx; rcases List.mem_append.1 hx with hx | hx; exact hA x hx; rw [List.mem_singleton.1 hx]; omega⟩
      · rfl
      · omega
  · try simp only [decide_eq_true_eq, decide_eq_false_iff_not] at hc1
    refine AMx.exit ?_
    refine AMx.code_exit ?_
    refine AMx.inv_exit ?_
    refine AMx.blk_exit ?_
    refine AMx.seq ?_
    refine AMx.region (ces := []) (ks := [2]) (hs := []) (cs := []) (s' := AS.lst 20 [(2, vc (bo (decide ((List.length l : Int) ≤ 60))))] []) (by kernel_rfl) ?_ ?_
    · exact trivial
    refine AMx.ret ?_
    exact RetP.mk (r := vc (bo (decide ((List.length l : Int) ≤ 60)))) (by kernel_rfl) (by rw [few_end (i := i) (by omega) hA])

theorem f71_body : Try.f71.body = some (.seq (.region 0 (rg Try.f71 0) false) (.seq (.region 1 (rg Try.f71 1) false) (.seq (.seq (.region 2 (rg Try.f71 2) false) (.block 0 (.seq (.region 4 (rg Try.f71 4) false) (.cond (.tmp 24) (.region 5 (rg Try.f71 5) false) (.seq (.region 6 (rg Try.f71 6) false) (.cond (.tmp 33) (.region 7 (rg Try.f71 7) false) (.seq (.region 8 (rg Try.f71 8) false) (.cond (.tmp 42) (.region 9 (rg Try.f71 9) false) (.seq (.region 10 (rg Try.f71 10) false) (.cond (.tmp 52) (.region 11 (rg Try.f71 11) false) (.region 3 (rg Try.f71 3) false))))))))))) (.seq (.region 12 (rg Try.f71 12) false) (.ret))))) := by kernel_rfl

set_option maxRecDepth 100000 in
set_option maxHeartbeats 8000000 in
theorem step_c (s : Sec) (r : Rul) (o : OpO) (hb : s.2.2.2.length ≤ 1000) : Pure Try.prog 71 [TV.agg [.s (i6 s.1), .s (bo s.2.1), .s (i6 s.2.2.1), .s (slR s.2.2.2)], TV.agg [.s (i6 r.1), .s (bo r.2)], TV.agg [.s (u8 o.kind), .s (i6 o.cas), .s (i6 o.size), .s (slI o.ns), .s (bo o.flag)]] (AV.tup [TV.agg [.s (i6 (((stepS s r o).1).1)), .s (bo (((stepS s r o).1).2.1)), .s (i6 (((stepS s r o).1).2.2.1)), .s (slR (((stepS s r o).1).2.2.2))], tc (i6 ((stepS s r o).2))]) := by
  refine Pure.of_body Try.func71 f71_body (by kernel_rfl) Try.ntmps71 (by kernel_rfl) (by kernel_rfl) ?_
  refine AMx.seq ?_
  refine AMx.region (ces := []) (ks := [3, 4, 5, 6]) (hs := [3, 4, 5, 6]) (cs := []) (s' := AS.lst 67 [(3, vp 3 0), (4, vp 4 0), (5, vp 5 0), (6, vp 6 0)] [(3, AObj.row [.s (i6 s.1), .s (bo s.2.1), .s (i6 s.2.2.1), .s (slR s.2.2.2)]), (4, AObj.row [.s (i6 r.1), .s (bo r.2)]), (5, AObj.row [.s (u8 o.kind), .s (i6 o.cas), .s (i6 o.size), .s (slI o.ns), .s (bo o.flag)]), (6, AObj.row [.s (i6 0), .s (bo false), .s (i6 0), .s (SC.nilsl)])]) (by kernel_rfl) ?_ ?_
  · exact trivial
  refine AMx.seq ?_
  refine AMx.region (ces := []) (ks := [3, 4, 5, 6]) (hs := [3, 4, 5, 6]) (cs := []) (s' := AS.lst 67 [(3, vp 3 0), (4, vp 4 0), (5, vp 5 0), (6, vp 6 0)] [(3, AObj.row [.s (i6 s.1), .s (bo s.2.1), .s (i6 s.2.2.1), .s (slR s.2.2.2)]), (4, AObj.row [.s (i6 r.1), .s (bo r.2)]), (5, AObj.row [.s (u8 o.kind), .s (i6 o.cas), .s (i6 o.size), .s (slI o.ns), .s (bo o.flag)]), (6, AObj.row [.s (i6 0), .s (bo false), .s (i6 0), .s (SC.nilsl)])]) (by kernel_rfl) ?_ ?_
  · exact trivial
  refine AMx.seq ?_
  refine AMx.seq ?_
  refine AMx.region (ces := []) (ks := [3, 4, 5, 6, 11]) (hs := [3, 4, 5, 6]) (cs := [(8 : Int) ≠ 0]) (s' := AS.lst 67 [(3, vp 3 0), (4, vp 4 0), (5, vp 5 0), (6, vp 6 0), (11, vc (u8 (Int.tmod o.kind 8)))] [(3, AObj.row [.s (i6 s.1), .s (bo s.2.1), .s (i6 s.2.2.1), .s (slR s.2.2.2)]), (4, AObj.row [.s (i6 r.1), .s (bo r.2)]), (5, AObj.row [.s (u8 o.kind), .s (i6 o.cas), .s (i6 o.size), .s (slI o.ns), .s (bo o.flag)]), (6, AObj.row [.s (i6 0), .s (bo false), .s (i6 0), .s (SC.nilsl)])]) (by kernel_rfl) ?_ ?_
  · exact (show (8 : Int) ≠ 0 from (by omega))
  refine AMx.block ?_
  refine AMx.seq ?_
  refine AMx.region (ces := []) (ks := [3, 4, 5, 6, 11, 24]) (hs := [3, 4, 5, 6]) (cs := []) (s' := AS.lst 67 [(3, vp 3 0), (4, vp 4 0), (5, vp 5 0), (6, vp 6 0), (11, vc (u8 (Int.tmod o.kind 8))), (24, vc (bo (decide (Int.tmod o.kind 8 = 4))))] [(3, AObj.row [.s (i6 s.1), .s (bo s.2.1), .s (i6 s.2.2.1), .s (slR s.2.2.2)]), (4, AObj.row [.s (i6 r.1), .s (bo r.2)]), (5, AObj.row [.s (u8 o.kind), .s (i6 o.cas), .s (i6 o.size), .s (slI o.ns), .s (bo o.flag)]), (6, AObj.row [.s (i6 0), .s (bo false), .s (i6 0), .s (SC.nilsl)])]) (by kernel_rfl) ?_ ?_
  · exact trivial
  refine AMx.cond (b := decide (Int.tmod o.kind 8 = 4)) (by kernel_rfl) (fun hc1 => ?_) (fun hc1 => ?_)
  · try simp only [decide_eq_true_eq, decide_eq_false_iff_not] at hc1
    refine AMx.region (ces := [(3, CE.call [] [] (AV.tup [TV.agg [.s (i6 (((turnSec delC s o.ns).1).1)), .s (bo (((turnSec delC s o.ns).1).2.1)), .s (i6 (((turnSec delC s o.ns).1).2.2.1)), .s (slR (((turnSec delC s o.ns).1).2.2.2))], tc (i6 ((turnSec delC s o.ns).2.2))]) [])]) (ks := [3, 6, 8]) (hs := [3, 6]) (cs := [Spec Try.prog 64 [TV.agg [.s (i6 s.1), .s (bo s.2.1), .s (i6 s.2.2.1), .s (slR s.2.2.2)], tc (slI o.ns)] (ofH []) (AV.tup [TV.agg [.s (i6 (((turnSec delC s o.ns).1).1)), .s (bo (((turnSec delC s o.ns).1).2.1)), .s (i6 (((turnSec delC s o.ns).1).2.2.1)), .s (slR (((turnSec delC s o.ns).1).2.2.2))], tc (i6 ((turnSec delC s o.ns).2.2))]) (ofH [])]) (s' := AS.lst 67 [(3, vp 3 0), (6, vp 6 0), (8, vc (i6 ((turnSec delC s o.ns).2.2)))] [(3, AObj.row [.s (i6 (((turnSec delC s o.ns).1).1)), .s (bo (((turnSec delC s o.ns).1).2.1)), .s (i6 (((turnSec delC s o.ns).1).2.2.1)), .s (slR (((turnSec delC s o.ns).1).2.2.2))]), (6, AObj.row [.s (i6 0), .s (bo false), .s (i6 0), .s (SC.nilsl)])]) (by kernel_rfl) ?_ ?_
    · exact (Delete_c s o.ns (by omega))
    refine AMx.blk ?_
    refine AMx.seq ?_
    refine AMx.region (ces := []) (ks := [6, 7]) (hs := [6]) (cs := []) (s' := AS.lst 67 [(6, vp 6 0), (7, vc (i6 ((turnSec delC s o.ns).2.2)))] [(6, AObj.row [.s (i6 (((turnSec delC s o.ns).1).1)), .s (bo (((turnSec delC s o.ns).1).2.1)), .s (i6 (((turnSec delC s o.ns).1).2.2.1)), .s (slR (((turnSec delC s o.ns).1).2.2.2))])]) (by kernel_rfl) ?_ ?_
    · exact trivial
    refine AMx.ret ?_
    exact RetP.mk (r := AV.tup [TV.agg [.s (i6 (((turnSec delC s o.ns).1).1)), .s (bo (((turnSec delC s o.ns).1).2.1)), .s (i6 (((turnSec delC s o.ns).1).2.2.1)), .s (slR (((turnSec delC s o.ns).1).2.2.2))], tc (i6 ((turnSec delC s o.ns).2.2))]) (by kernel_rfl) (by unfold stepS; repeat (first | rw [if_pos (by assumption)] | rw [if_neg (by assumption)]))
  · try simp only [decide_eq_true_eq, decide_eq_false_iff_not] at hc1
    refine AMx.seq ?_
    refine AMx.region (ces := []) (ks := [3, 4, 5, 6, 11, 33]) (hs := [3, 4, 5, 6]) (cs := []) (s' := AS.lst 67 [(3, vp 3 0), (4, vp 4 0), (5, vp 5 0), (6, vp 6 0), (11, vc (u8 (Int.tmod o.kind 8))), (33, vc (bo (decide (Int.tmod o.kind 8 = 5))))] [(3, AObj.row [.s (i6 s.1), .s (bo s.2.1), .s (i6 s.2.2.1), .s (slR s.2.2.2)]), (4, AObj.row [.s (i6 r.1), .s (bo r.2)]), (5, AObj.row [.s (u8 o.kind), .s (i6 o.cas), .s (i6 o.size), .s (slI o.ns), .s (bo o.flag)]), (6, AObj.row [.s (i6 0), .s (bo false), .s (i6 0), .s (SC.nilsl)])]) (by kernel_rfl) ?_ ?_
    · exact trivial
    refine AMx.cond (b := decide (Int.tmod o.kind 8 = 5)) (by kernel_rfl) (fun hc2 => ?_) (fun hc2 => ?_)
    · try simp only [decide_eq_true_eq, decide_eq_false_iff_not] at hc2
      refine AMx.region (ces := [(3, CE.call [] [] (AV.tup [TV.agg [.s (i6 (((turnSec undC s o.ns).1).1)), .s (bo (((turnSec undC s o.ns).1).2.1)), .s (i6 (((turnSec undC s o.ns).1).2.2.1)), .s (slR (((turnSec undC s o.ns).1).2.2.2))], tc (i6 ((turnSec undC s o.ns).2.2))]) [])]) (ks := [3, 6, 8]) (hs := [3, 6]) (cs := [Spec Try.prog 66 [TV.agg [.s (i6 s.1), .s (bo s.2.1), .s (i6 s.2.2.1), .s (slR s.2.2.2)], tc (slI o.ns)] (ofH []) (AV.tup [TV.agg [.s (i6 (((turnSec undC s o.ns).1).1)), .s (bo (((turnSec undC s o.ns).1).2.1)), .s (i6 (((turnSec undC s o.ns).1).2.2.1)), .s (slR (((turnSec undC s o.ns).1).2.2.2))], tc (i6 ((turnSec undC s o.ns).2.2))]) (ofH [])]) (s' := AS.lst 67 [(3, vp 3 0), (6, vp 6 0), (8, vc (i6 ((turnSec undC s o.ns).2.2)))] [(3, AObj.row [.s (i6 (((turnSec undC s o.ns).1).1)), .s (bo (((turnSec undC s o.ns).1).2.1)), .s (i6 (((turnSec undC s o.ns).1).2.2.1)), .s (slR (((turnSec undC s o.ns).1).2.2.2))]), (6, AObj.row [.s (i6 0), .s (bo false), .s (i6 0), .s (SC.nilsl)])]) (by kernel_rfl) ?_ ?_
      · exact (Undelete_c s o.ns (by omega))
      refine AMx.blk ?_
      refine AMx.seq ?_
      refine AMx.region (ces := []) (ks := [6, 7]) (hs := [6]) (cs := []) (s' := AS.lst 67 [(6, vp 6 0), (7, vc (i6 ((turnSec undC s o.ns).2.2)))] [(6, AObj.row [.s (i6 (((turnSec undC s o.ns).1).1)), .s (bo (((turnSec undC s o.ns).1).2.1)), .s (i6 (((turnSec undC s o.ns).1).2.2.1)), .s (slR (((turnSec undC s o.ns).1).2.2.2))])]) (by kernel_rfl) ?_ ?_
      · exact trivial
      refine AMx.ret ?_
      exact RetP.mk (r := AV.tup [TV.agg [.s (i6 (((turnSec undC s o.ns).1).1)), .s (bo (((turnSec undC s o.ns).1).2.1)), .s (i6 (((turnSec undC s o.ns).1).2.2.1)), .s (slR (((turnSec undC s o.ns).1).2.2.2))], tc (i6 ((turnSec undC s o.ns).2.2))]) (by kernel_rfl) (by unfold stepS; repeat (first | rw [if_pos (by assumption)] | rw [if_neg (by assumption)]))
    · try simp only [decide_eq_true_eq, decide_eq_false_iff_not] at hc2
      refine AMx.seq ?_
      refine AMx.region (ces := []) (ks := [3, 4, 5, 6, 11, 42]) (hs := [3, 4, 5, 6]) (cs := []) (s' := AS.lst 67 [(3, vp 3 0), (4, vp 4 0), (5, vp 5 0), (6, vp 6 0), (11, vc (u8 (Int.tmod o.kind 8))), (42, vc (bo (decide (Int.tmod o.kind 8 = 6))))] [(3, AObj.row [.s (i6 s.1), .s (bo s.2.1), .s (i6 s.2.2.1), .s (slR s.2.2.2)]), (4, AObj.row [.s (i6 r.1), .s (bo r.2)]), (5, AObj.row [.s (u8 o.kind), .s (i6 o.cas), .s (i6 o.size), .s (slI o.ns), .s (bo o.flag)]), (6, AObj.row [.s (i6 0), .s (bo false), .s (i6 0), .s (SC.nilsl)])]) (by kernel_rfl) ?_ ?_
      · exact trivial
      refine AMx.cond (b := decide (Int.tmod o.kind 8 = 6)) (by kernel_rfl) (fun hc3 => ?_) (fun hc3 => ?_)
      · try simp only [decide_eq_true_eq, decide_eq_false_iff_not] at hc3
        refine AMx.region (ces := [(3, CE.call [] [] (AV.tup [TV.agg [.s (i6 (((turnSec desC s o.ns).1).1)), .s (bo (((turnSec desC s o.ns).1).2.1)), .s (i6 (((turnSec desC s o.ns).1).2.2.1)), .s (slR (((turnSec desC s o.ns).1).2.2.2))], tc (slI ((turnSec desC s o.ns).2.1)), tc (i6 ((turnSec desC s o.ns).2.2))]) [])]) (ks := [3, 6, 8]) (hs := [3, 6]) (cs := [Spec Try.prog 67 [TV.agg [.s (i6 s.1), .s (bo s.2.1), .s (i6 s.2.2.1), .s (slR s.2.2.2)], tc (slI o.ns)] (ofH []) (AV.tup [TV.agg [.s (i6 (((turnSec desC s o.ns).1).1)), .s (bo (((turnSec desC s o.ns).1).2.1)), .s (i6 (((turnSec desC s o.ns).1).2.2.1)), .s (slR (((turnSec desC s o.ns).1).2.2.2))], tc (slI ((turnSec desC s o.ns).2.1)), tc (i6 ((turnSec desC s o.ns).2.2))]) (ofH [])]) (s' := AS.lst 67 [(3, vp 3 0), (6, vp 6 0), (8, vc (i6 ((turnSec desC s o.ns).2.2)))] [(3, AObj.row [.s (i6 (((turnSec desC s o.ns).1).1)), .s (bo (((turnSec desC s o.ns).1).2.1)), .s (i6 (((turnSec desC s o.ns).1).2.2.1)), .s (slR (((turnSec desC s o.ns).1).2.2.2))]), (6, AObj.row [.s (i6 0), .s (bo false), .s (i6 0), .s (SC.nilsl)])]) (by kernel_rfl) ?_ ?_
        · exact (Destroy_c s o.ns (by omega))
        refine AMx.blk ?_
        refine AMx.seq ?_
        refine AMx.region (ces := []) (ks := [6, 7]) (hs := [6]) (cs := []) (s' := AS.lst 67 [(6, vp 6 0), (7, vc (i6 ((turnSec desC s o.ns).2.2)))] [(6, AObj.row [.s (i6 (((turnSec desC s o.ns).1).1)), .s (bo (((turnSec desC s o.ns).1).2.1)), .s (i6 (((turnSec desC s o.ns).1).2.2.1)), .s (slR (((turnSec desC s o.ns).1).2.2.2))])]) (by kernel_rfl) ?_ ?_
        · exact trivial
        refine AMx.ret ?_
        exact RetP.mk (r := AV.tup [TV.agg [.s (i6 (((turnSec desC s o.ns).1).1)), .s (bo (((turnSec desC s o.ns).1).2.1)), .s (i6 (((turnSec desC s o.ns).1).2.2.1)), .s (slR (((turnSec desC s o.ns).1).2.2.2))], tc (i6 ((turnSec desC s o.ns).2.2))]) (by kernel_rfl) (by unfold stepS; repeat (first | rw [if_pos (by assumption)] | rw [if_neg (by assumption)]))
      · try simp only [decide_eq_true_eq, decide_eq_false_iff_not] at hc3
        refine AMx.seq ?_
        refine AMx.region (ces := []) (ks := [3, 4, 5, 6, 52]) (hs := [3, 4, 5, 6]) (cs := []) (s' := AS.lst 67 [(3, vp 3 0), (4, vp 4 0), (5, vp 5 0), (6, vp 6 0), (52, vc (bo (decide (Int.tmod o.kind 8 = 7))))] [(3, AObj.row [.s (i6 s.1), .s (bo s.2.1), .s (i6 s.2.2.1), .s (slR s.2.2.2)]), (4, AObj.row [.s (i6 r.1), .s (bo r.2)]), (5, AObj.row [.s (u8 o.kind), .s (i6 o.cas), .s (i6 o.size), .s (slI o.ns), .s (bo o.flag)]), (6, AObj.row [.s (i6 0), .s (bo false), .s (i6 0), .s (SC.nilsl)])]) (by kernel_rfl) ?_ ?_
        · exact trivial
        refine AMx.cond (b := decide (Int.tmod o.kind 8 = 7)) (by kernel_rfl) (fun hc4 => ?_) (fun hc4 => ?_)
        · try simp only [decide_eq_true_eq, decide_eq_false_iff_not] at hc4
          refine AMx.region (ces := [(6, CE.call [] [] (AV.tup [TV.agg [.s (i6 (((confS s r o.size o.flag).1).1)), .s (bo (((confS s r o.size o.flag).1).2.1)), .s (i6 (((confS s r o.size o.flag).1).2.2.1)), .s (slR (((confS s r o.size o.flag).1).2.2.2))], tc (slI ((confS s r o.size o.flag).2.1)), tc (i6 ((confS s r o.size o.flag).2.2))]) [])]) (ks := [3, 6, 8]) (hs := [3, 6]) (cs := [Spec Try.prog 68 [TV.agg [.s (i6 s.1), .s (bo s.2.1), .s (i6 s.2.2.1), .s (slR s.2.2.2)], TV.agg [.s (i6 r.1), .s (bo r.2)], tc (i6 o.size), tc (bo o.flag)] (ofH []) (AV.tup [TV.agg [.s (i6 (((confS s r o.size o.flag).1).1)), .s (bo (((confS s r o.size o.flag).1).2.1)), .s (i6 (((confS s r o.size o.flag).1).2.2.1)), .s (slR (((confS s r o.size o.flag).1).2.2.2))], tc (slI ((confS s r o.size o.flag).2.1)), tc (i6 ((confS s r o.size o.flag).2.2))]) (ofH [])]) (s' := AS.lst 67 [(3, vp 3 0), (6, vp 6 0), (8, vc (i6 ((confS s r o.size o.flag).2.2)))] [(3, AObj.row [.s (i6 (((confS s r o.size o.flag).1).1)), .s (bo (((confS s r o.size o.flag).1).2.1)), .s (i6 (((confS s r o.size o.flag).1).2.2.1)), .s (slR (((confS s r o.size o.flag).1).2.2.2))]), (6, AObj.row [.s (i6 0), .s (bo false), .s (i6 0), .s (SC.nilsl)])]) (by kernel_rfl) ?_ ?_
          · exact (Configure_c s r o.size o.flag (by omega))
          refine AMx.blk ?_
          refine AMx.seq ?_
          refine AMx.region (ces := []) (ks := [6, 7]) (hs := [6]) (cs := []) (s' := AS.lst 67 [(6, vp 6 0), (7, vc (i6 ((confS s r o.size o.flag).2.2)))] [(6, AObj.row [.s (i6 (((confS s r o.size o.flag).1).1)), .s (bo (((confS s r o.size o.flag).1).2.1)), .s (i6 (((confS s r o.size o.flag).1).2.2.1)), .s (slR (((confS s r o.size o.flag).1).2.2.2))])]) (by kernel_rfl) ?_ ?_
          · exact trivial
          refine AMx.ret ?_
          exact RetP.mk (r := AV.tup [TV.agg [.s (i6 (((confS s r o.size o.flag).1).1)), .s (bo (((confS s r o.size o.flag).1).2.1)), .s (i6 (((confS s r o.size o.flag).1).2.2.1)), .s (slR (((confS s r o.size o.flag).1).2.2.2))], tc (i6 ((confS s r o.size o.flag).2.2))]) (by kernel_rfl) (by unfold stepS; repeat (first | rw [if_pos (by assumption)] | rw [if_neg (by assumption)]))
        · try simp only [decide_eq_true_eq, decide_eq_false_iff_not] at hc4
          refine AMx.region (ces := [(6, CE.call [] [] (AV.tup [TV.agg [.s (i6 (((writeS s r o.cas o.size).1).1)), .s (bo (((writeS s r o.cas o.size).1).2.1)), .s (i6 (((writeS s r o.cas o.size).1).2.2.1)), .s (slR (((writeS s r o.cas o.size).1).2.2.2))], tc (i6 ((writeS s r o.cas o.size).2.1)), tc (slI ((writeS s r o.cas o.size).2.2.1)), tc (i6 ((writeS s r o.cas o.size).2.2.2))]) [])]) (ks := [3, 6, 8]) (hs := [3, 6]) (cs := [Spec Try.prog 57 [TV.agg [.s (i6 s.1), .s (bo s.2.1), .s (i6 s.2.2.1), .s (slR s.2.2.2)], TV.agg [.s (i6 r.1), .s (bo r.2)], tc (i6 o.cas), tc (i6 o.size)] (ofH []) (AV.tup [TV.agg [.s (i6 (((writeS s r o.cas o.size).1).1)), .s (bo (((writeS s r o.cas o.size).1).2.1)), .s (i6 (((writeS s r o.cas o.size).1).2.2.1)), .s (slR (((writeS s r o.cas o.size).1).2.2.2))], tc (i6 ((writeS s r o.cas o.size).2.1)), tc (slI ((writeS s r o.cas o.size).2.2.1)), tc (i6 ((writeS s r o.cas o.size).2.2.2))]) (ofH [])]) (s' := AS.lst 67 [(3, vp 3 0), (6, vp 6 0), (8, vc (i6 ((writeS s r o.cas o.size).2.2.2)))] [(3, AObj.row [.s (i6 (((writeS s r o.cas o.size).1).1)), .s (bo (((writeS s r o.cas o.size).1).2.1)), .s (i6 (((writeS s r o.cas o.size).1).2.2.1)), .s (slR (((writeS s r o.cas o.size).1).2.2.2))]), (6, AObj.row [.s (i6 0), .s (bo false), .s (i6 0), .s (SC.nilsl)])]) (by kernel_rfl) ?_ ?_
          · exact (Write_c s r o.cas o.size (by omega))
          refine AMx.blk ?_
          refine AMx.seq ?_
          refine AMx.region (ces := []) (ks := [6, 7]) (hs := [6]) (cs := []) (s' := AS.lst 67 [(6, vp 6 0), (7, vc (i6 ((writeS s r o.cas o.size).2.2.2)))] [(6, AObj.row [.s (i6 (((writeS s r o.cas o.size).1).1)), .s (bo (((writeS s r o.cas o.size).1).2.1)), .s (i6 (((writeS s r o.cas o.size).1).2.2.1)), .s (slR (((writeS s r o.cas o.size).1).2.2.2))])]) (by kernel_rfl) ?_ ?_
          · exact trivial
          refine AMx.ret ?_
          exact RetP.mk (r := AV.tup [TV.agg [.s (i6 (((writeS s r o.cas o.size).1).1)), .s (bo (((writeS s r o.cas o.size).1).2.1)), .s (i6 (((writeS s r o.cas o.size).1).2.2.1)), .s (slR (((writeS s r o.cas o.size).1).2.2.2))], tc (i6 ((writeS s r o.cas o.size).2.2.2))]) (by kernel_rfl) (by unfold stepS; repeat (first | rw [if_pos (by assumption)] | rw [if_neg (by assumption)]))

end AL.Secret
