/- locks: the contracts of its functions, by their walks. No condition. -/
import Derived.Test.YtphkoklgdkimmaaLocksC
namespace AL.Locks
open Go Go.Proofs AL AL.Fnv AL.Gate
set_option linter.unusedVariables false
set_option linter.unusedSimpArgs false

theorem f114_body : Try.f114.body = some (.seq (.region 0 (rg Try.f114 0) false) (.seq (.region 1 (rg Try.f114 1) false) (.ret))) := by kernel_rfl

set_option maxRecDepth 100000 in
set_option maxHeartbeats 8000000 in
theorem freeC_c (g : Gt) (hb : g.1.length + g.2.length ≤ 90000) : Pure Try.prog 114 [TV.agg [.s (slO g.1), .s (slO g.2)]] (vc (bo (!decide ((List.length g.1 : Int) + (List.length g.2 : Int) = 0)))) := by
  refine Pure.of_body Try.func114 f114_body (by kernel_rfl) Try.ntmps114 (by kernel_rfl) (by kernel_rfl) ?_
  refine AMx.seq ?_
  refine AMx.region (ces := []) (ks := [1]) (hs := [1]) (cs := []) (s' := AS.lst 6 [(1, vp 1 0)] [(1, AObj.row [.s (slO g.1), .s (slO g.2)])]) (by kernel_rfl) ?_ ?_
  · exact trivial
  refine AMx.seq ?_
  refine AMx.region (ces := [(1, CE.call [] [] (vc (bo (decide ((List.length g.1 : Int) + (List.length g.2 : Int) = 0)))) [])]) (ks := [2]) (hs := []) (cs := [Spec Try.prog 47 [TV.agg [.s (slO g.1), .s (slO g.2)]] (ofH []) (vc (bo (decide ((List.length g.1 : Int) + (List.length g.2 : Int) = 0)))) (ofH [])]) (s' := AS.lst 6 [(2, vc (bo (!(decide ((List.length g.1 : Int) + (List.length g.2 : Int) = 0)))))] []) (by kernel_rfl) ?_ ?_
  · exact (Free_c g (by omega))
  refine AMx.ret ?_
  exact RetP.mk (r := vc (bo (!(decide ((List.length g.1 : Int) + (List.length g.2 : Int) = 0))))) (by kernel_rfl) rfl

theorem f144_body : Try.f144.body = some (.seq (.region 0 (rg Try.f144 0) false) (.seq (.seq (.region 1 (rg Try.f144 1) false) (.block 0 (.loop (.seq (.region 2 (rg Try.f144 2) false) (.seq (.cond (.tmp 9) (.skip) (.exit 0)) (.seq (.block 1 (.seq (.region 3 (rg Try.f144 3) false) (.seq (.region 4 (rg Try.f144 4) false) (.cond (.tmp 16) (.seq (.region 5 (rg Try.f144 5) false) (.ret)) (.skip))))) (.region 6 (rg Try.f144 6) false))))))) (.seq (.region 7 (rg Try.f144 7) false) (.ret)))) := by kernel_rfl

set_option maxRecDepth 100000 in
set_option maxHeartbeats 8000000 in
theorem IndexG_c (f : FuncId) (caps : List Cap) (p : Gt → Bool) (l : List Gt) (hf : ∀ x ∈ l, Pure Try.prog f ([TV.agg [.s (slO x.1), .s (slO x.2)]] ++ List.map capT caps) (vc (bo (p x)))) : Pure Try.prog 144 [tc (slT l), TV.c (.fn f caps)] (vc (i6 (Lib.idxS p l))) := by
  refine Pure.of_body Try.func144 f144_body (by kernel_rfl) Try.ntmps144 (by kernel_rfl) (by kernel_rfl) ?_
  refine AMx.sl 0 (l := l) rfl (fun hl => ?_)
  simp only [maxLen] at hl
  refine AMx.seq ?_
  refine AMx.region (ces := []) (ks := [0, 1]) (hs := []) (cs := []) (s' := AS.lst 19 [(0, vc (slT l)), (1, AV.t (TV.c (.fn f caps)))] []) (by kernel_rfl) ?_ ?_
  · exact trivial
  refine AMx.seq ?_
  refine AMx.seq ?_
  refine AMx.region (ces := []) (ks := [0, 1, 7, 8]) (hs := []) (cs := []) (s' := AS.lst 19 [(0, vc (slT l)), (1, AV.t (TV.c (.fn f caps))), (7, vc (i6 (List.length l : Int))), (8, vc (i6 0))] []) (by kernel_rfl) ?_ ?_
  · exact trivial
  refine AMx.block ?_
  refine AMx.ent (s' := AS.lst 19 [(0, vc (slT l)), (1, AV.t (TV.c (.fn f caps))), (7, vc (i6 (List.length l : Int))), (8, vc (i6 0))] []) (ent_proj [0, 1, 7, 8] []) ?_
  refine AMx.loop (fun mm ss => ∃ (k : Nat), (k ≤ l.length ∧ ∀ x ∈ List.take k l, p x = false) ∧ mm = l.length - k ∧ ss = AS.lst 19 [(0, vc (slT l)), (1, AV.t (TV.c (.fn f caps))), (7, vc (i6 (List.length l : Int))), (8, vc (i6 (k : Int)))] []) ⟨0, ?_, rfl, ?_⟩ ?_
  · exact ⟨by omega, fun x hx => by simp at hx⟩
  · rfl
  rintro mm ss ⟨k, ⟨hI, hN⟩, rfl, rfl⟩
  refine AMx.seq ?_
  refine AMx.region (ces := []) (ks := [0, 1, 7, 8, 9]) (hs := []) (cs := []) (s' := AS.lst 19 [(0, vc (slT l)), (1, AV.t (TV.c (.fn f caps))), (7, vc (i6 (List.length l : Int))), (8, vc (i6 (k : Int))), (9, vc (bo (decide ((k : Int) < (List.length l : Int)))))] []) (by kernel_rfl) ?_ ?_
  · exact trivial
  refine AMx.seq ?_
  refine AMx.cond (b := decide ((k : Int) < (List.length l : Int))) (by kernel_rfl) (fun hc1 => ?_) (fun hc1 => ?_)
  · try simp only [decide_eq_true_eq, decide_eq_false_iff_not] at hc1
    refine AMx.skip ?_
    refine AMx.seq ?_
    refine AMx.block ?_
    refine AMx.seq ?_
    refine AMx.region (ces := []) (ks := [0, 1, 5, 7, 8]) (hs := []) (cs := []) (s' := AS.lst 19 [(0, vc (slT l)), (1, AV.t (TV.c (.fn f caps))), (5, vc (i6 (k : Int))), (7, vc (i6 (List.length l : Int))), (8, vc (i6 (k : Int)))] []) (by kernel_rfl) ?_ ?_
    · exact trivial
    refine AMx.seq ?_
    refine AMx.region (ces := [(5, CE.call [] [] (vc (bo (p (List.getD l k ([], []))))) [])]) (ks := [0, 1, 5, 7, 8, 16]) (hs := []) (cs := [(0 : Int) ≤ (k : Int), (k : Int) < List.length l, Spec Try.prog f ([TV.agg [.s (slO ((List.getD l k ([], [])).1)), .s (slO ((List.getD l k ([], [])).2))]] ++ List.map capT caps) (ofH []) (vc (bo (p (List.getD l k ([], []))))) (ofH [])]) (s' := AS.lst 19 [(0, vc (slT l)), (1, AV.t (TV.c (.fn f caps))), (5, vc (i6 (k : Int))), (7, vc (i6 (List.length l : Int))), (8, vc (i6 (k : Int))), (16, vc (bo (p (List.getD l k ([], [])))))] []) (by kernel_rfl) ?_ ?_
    · exact ⟨(show (0 : Int) ≤ (k : Int) from (by omega)), (show (k : Int) < List.length l from (by omega)), (hf (List.getD l k ([], [])) (AL.Lib.getD_mem _ _ _ (by omega)))⟩
    refine AMx.cond (b := p (List.getD l k ([], []))) (by kernel_rfl) (fun hc2 => ?_) (fun hc2 => ?_)
    · try simp only [decide_eq_true_eq, decide_eq_false_iff_not] at hc2
      refine AMx.seq ?_
      refine AMx.region (ces := []) (ks := [4]) (hs := []) (cs := []) (s' := AS.lst 19 [(4, vc (i6 (k : Int)))] []) (by kernel_rfl) ?_ ?_
      · exact trivial
      refine AMx.ret ?_
      exact RetP.mk (r := vc (i6 (k : Int))) (by kernel_rfl) (by rw [Lib.idx_hit ([], []) l k (by omega) hN (by assumption)])
    · try simp only [decide_eq_true_eq, decide_eq_false_iff_not] at hc2
      refine AMx.skip ?_
      refine AMx.blk ?_
      refine AMx.region (ces := []) (ks := [0, 1, 7, 8]) (hs := []) (cs := [InR .i64 ((k : Int) + 1)]) (s' := AS.lst 19 [(0, vc (slT l)), (1, AV.t (TV.c (.fn f caps))), (7, vc (i6 (List.length l : Int))), (8, vc (i6 ((k : Int) + 1)))] []) (by kernel_rfl) ?_ ?_
      · exact (show InR .i64 ((k : Int) + 1) from (inR64 (by omega) (by omega)))
      refine AMx.ent_inv (s' := AS.lst 19 [(0, vc (slT l)), (1, AV.t (TV.c (.fn f caps))), (7, vc (i6 (List.length l : Int))), (8, vc (i6 ((k : Int) + 1)))] []) (ent_proj [0, 1, 7, 8] []) ?_
      refine AMx.inv ⟨_, ?_, k + 1, ?_, rfl, ?_⟩
      rotate_left
      · exact ⟨by omega, Lib.all_step ([], []) l k (by omega) hN (by assumption)⟩
      · rfl
      · omega
  · try simp only [decide_eq_true_eq, decide_eq_false_iff_not] at hc1
    refine AMx.exit ?_
    refine AMx.code_exit ?_
    refine AMx.inv_exit ?_
    refine AMx.blk_exit ?_
    refine AMx.seq ?_
    refine AMx.region (ces := []) (ks := [4]) (hs := []) (cs := []) (s' := AS.lst 19 [(4, vc (i6 (-1)))] []) (by kernel_rfl) ?_ ?_
    · exact trivial
    refine AMx.ret ?_
    exact RetP.mk (r := vc (i6 (-1))) (by kernel_rfl) (by rw [Lib.idx_none (fun x hx => hN x (by rwa [List.take_of_length_le (by omega)]))])

theorem f113_body : Try.f113.body = some (.seq (.region 0 (rg Try.f113 0) false) (.seq (.region 1 (rg Try.f113 1) false) (.ret))) := by kernel_rfl

set_option maxRecDepth 100000 in
set_option maxHeartbeats 8000000 in
theorem ContainsG_c (f : FuncId) (caps : List Cap) (p : Gt → Bool) (l : List Gt) (hf : ∀ x ∈ l, Pure Try.prog f ([TV.agg [.s (slO x.1), .s (slO x.2)]] ++ List.map capT caps) (vc (bo (p x)))) : Pure Try.prog 113 [tc (slT l), TV.c (.fn f caps)] (vc (bo (decide (0 ≤ AL.Lib.idxS p l)))) := by
  refine Pure.of_body Try.func113 f113_body (by kernel_rfl) Try.ntmps113 (by kernel_rfl) (by kernel_rfl) ?_
  refine AMx.seq ?_
  refine AMx.region (ces := []) (ks := [0, 1]) (hs := []) (cs := []) (s' := AS.lst 9 [(0, vc (slT l)), (1, AV.t (TV.c (.fn f caps)))] []) (by kernel_rfl) ?_ ?_
  · exact trivial
  refine AMx.seq ?_
  refine AMx.region (ces := [(2, CE.call [] [] (vc (i6 (AL.Lib.idxS p l))) [])]) (ks := [4]) (hs := []) (cs := [Spec Try.prog 144 [tc (slT l), TV.c (.fn f caps)] (ofH []) (vc (i6 (AL.Lib.idxS p l))) (ofH [])]) (s' := AS.lst 9 [(4, vc (bo (decide (0 ≤ AL.Lib.idxS p l))))] []) (by kernel_rfl) ?_ ?_
  · exact (IndexG_c f caps p l hf)
  refine AMx.ret ?_
  exact RetP.mk (r := vc (bo (decide (0 ≤ AL.Lib.idxS p l)))) (by kernel_rfl) rfl

theorem f66_body : Try.f66.body = some (.seq (.region 0 (rg Try.f66 0) false) (.seq (.region 1 (rg Try.f66 1) false) (.ret))) := by kernel_rfl

set_option maxRecDepth 100000 in
set_option maxHeartbeats 8000000 in
theorem TFree_c (t : Tab) (n : Nat) (hg : GoodT n t) (hn : n ≤ 80000) : Pure Try.prog 66 [TV.agg [.s (slT t)]] (vc (bo (freeS t))) := by
  refine Pure.of_body Try.func66 f66_body (by kernel_rfl) Try.ntmps66 (by kernel_rfl) (by kernel_rfl) ?_
  refine AMx.seq ?_
  refine AMx.region (ces := []) (ks := [1]) (hs := [1]) (cs := []) (s' := AS.lst 7 [(1, vp 1 0)] [(1, AObj.row [.s (slT t)])]) (by kernel_rfl) ?_ ?_
  · exact trivial
  refine AMx.seq ?_
  refine AMx.region (ces := [(2, CE.call [] [] (vc (bo (decide (0 ≤ AL.Lib.idxS (fun x : Gt => !decide ((List.length x.1 : Int) + (List.length x.2 : Int) = 0)) t)))) [])]) (ks := [2]) (hs := []) (cs := [Spec Try.prog 113 [tc (slT t), TV.c (.fn 114 [])] (ofH []) (vc (bo (decide (0 ≤ AL.Lib.idxS (fun x : Gt => !decide ((List.length x.1 : Int) + (List.length x.2 : Int) = 0)) t)))) (ofH [])]) (s' := AS.lst 7 [(2, vc (bo (!(decide (0 ≤ AL.Lib.idxS (fun x : Gt => !decide ((List.length x.1 : Int) + (List.length x.2 : Int) = 0)) t)))))] []) (by kernel_rfl) ?_ ?_
  · exact (ContainsG_c 114 [] (fun x : Gt => !decide ((List.length x.1 : Int) + (List.length x.2 : Int) = 0)) t (fun x hx => freeC_c x (by have hz := (hg.2 _ hx).2; unfold sizeS at hz; omega)))
  refine AMx.ret ?_
  exact RetP.mk (r := vc (bo (!(decide (0 ≤ AL.Lib.idxS (fun x : Gt => !decide ((List.length x.1 : Int) + (List.length x.2 : Int) = 0)) t))))) (by kernel_rfl) (by rw [free_idx])

theorem f141_body : Try.f141.body = some (.seq (.region 0 (rg Try.f141 0) false) (.seq (.region 1 (rg Try.f141 1) false) (.seq (.seq (.region 2 (rg Try.f141 2) false) (.block 0 (.loop (.seq (.region 3 (rg Try.f141 3) false) (.seq (.cond (.tmp 11) (.skip) (.exit 0)) (.seq (.block 1 (.seq (.region 4 (rg Try.f141 4) false) (.region 5 (rg Try.f141 5) false))) (.region 6 (rg Try.f141 6) false))))))) (.seq (.region 7 (rg Try.f141 7) false) (.ret))))) := by kernel_rfl

set_option maxRecDepth 100000 in
set_option maxHeartbeats 8000000 in
theorem wants_c (m : Int) (l : List Int) (hb : l.length ≤ 1000) (hr : ∀ x ∈ l, 0 ≤ x ∧ x ≤ 1000) : Pure Try.prog 141 [tc (u8 m), tc (slI l)] (vc (slO (wantsS m l))) := by
  refine Pure.of_body Try.func141 f141_body (by kernel_rfl) Try.ntmps141 (by kernel_rfl) (by kernel_rfl) ?_
  refine AMx.seq ?_
  refine AMx.region (ces := []) (ks := [0, 1]) (hs := []) (cs := []) (s' := AS.lst 23 [(0, vc (u8 m)), (1, vc (slI l))] []) (by kernel_rfl) ?_ ?_
  · exact trivial
  refine AMx.seq ?_
  refine AMx.region (ces := []) (ks := [0, 1, 5]) (hs := []) (cs := []) (s' := AS.lst 23 [(0, vc (u8 m)), (1, vc (slI l)), (5, vc (SC.nilsl))] []) (by kernel_rfl) ?_ ?_
  · exact trivial
  refine AMx.seq ?_
  refine AMx.seq ?_
  refine AMx.region (ces := []) (ks := [0, 5, 8, 9, 10]) (hs := []) (cs := []) (s' := AS.lst 23 [(0, vc (u8 m)), (5, vc (SC.nilsl)), (8, vc (slI l)), (9, vc (i6 (List.length l : Int))), (10, vc (i6 0))] []) (by kernel_rfl) ?_ ?_
  · exact trivial
  refine AMx.block ?_
  refine AMx.ent (s' := AS.lst 23 [(0, vc (u8 m)), (5, vo 5), (8, vc (slI l)), (9, vc (i6 (List.length l : Int))), (10, vc (i6 0))] [(5, AObj.grow 106 2 One (0, 0) rowO [])]) (ent_adopt (t := 5) (d := 5) 106 2 One (0, 0) rowO (by kernel_rfl) (by kernel_rfl) (by kernel_rfl) (by kernel_rfl)) ?_
  refine AMx.ent (s' := AS.lst 23 [(0, vc (u8 m)), (5, vo 5), (8, vc (slI l)), (9, vc (i6 (List.length l : Int))), (10, vc (i6 0))] [(5, AObj.grow 106 2 One (0, 0) rowO [])]) (ent_proj [0, 5, 8, 9, 10] [5]) ?_
  refine AMx.loop (fun mm ss => ∃ (k : Nat), (k ≤ l.length) ∧ mm = l.length - k ∧ ss = AS.lst 23 [(0, vc (u8 m)), (5, vo 5), (8, vc (slI l)), (9, vc (i6 (List.length l : Int))), (10, vc (i6 (k : Int)))] [(5, AObj.grow 106 2 One (0, 0) rowO (wantsS m (List.take k l)))]) ⟨0, ?_, rfl, ?_⟩ ?_
  · omega
  · rfl
  rintro mm ss ⟨k, hI, rfl, rfl⟩
  refine AMx.seq ?_
  refine AMx.region (ces := []) (ks := [0, 5, 8, 9, 10, 11]) (hs := [5]) (cs := []) (s' := AS.lst 23 [(0, vc (u8 m)), (5, vo 5), (8, vc (slI l)), (9, vc (i6 (List.length l : Int))), (10, vc (i6 (k : Int))), (11, vc (bo (decide ((k : Int) < (List.length l : Int)))))] [(5, AObj.grow 106 2 One (0, 0) rowO (wantsS m (List.take k l)))]) (by kernel_rfl) ?_ ?_
  · exact trivial
  refine AMx.seq ?_
  refine AMx.cond (b := decide ((k : Int) < (List.length l : Int))) (by kernel_rfl) (fun hc1 => ?_) (fun hc1 => ?_)
  · try simp only [decide_eq_true_eq, decide_eq_false_iff_not] at hc1
    refine AMx.skip ?_
    refine AMx.seq ?_
    refine AMx.block ?_
    refine AMx.seq ?_
    refine AMx.region (ces := []) (ks := [0, 5, 7, 8, 9, 10]) (hs := [5]) (cs := [(0 : Int) ≤ (k : Int), (k : Int) < List.length l]) (s' := AS.lst 23 [(0, vc (u8 m)), (5, vo 5), (7, vc (i6 (List.getD l k 0))), (8, vc (slI l)), (9, vc (i6 (List.length l : Int))), (10, vc (i6 (k : Int)))] [(5, AObj.grow 106 2 One (0, 0) rowO (wantsS m (List.take k l)))]) (by kernel_rfl) ?_ ?_
    · exact ⟨(show (0 : Int) ≤ (k : Int) from (by first | omega | (have hq := hr _ (AL.Lib.getD_mem 0 l k (by omega)); omega))), (show (k : Int) < List.length l from (by first | omega | (have hq := hr _ (AL.Lib.getD_mem 0 l k (by omega)); omega)))⟩
    refine AMx.region (ces := [(5, CE.obj (AObj.grow 106 2 One (0, 0) rowO [(2 + (List.getD l k 0), m)])), (6, CE.obj (AObj.grow 106 2 One (0, 0) rowO ((wantsS m (List.take k l)) ++ [(2 + (List.getD l k 0), m)])))]) (ks := [0, 5, 8, 9, 10]) (hs := [20]) (cs := [InR .i64 (2 + (List.getD l k 0)), flat 2 rowO [(2 + (List.getD l k 0), m)] = [.s (i6 (2 + (List.getD l k 0))), .s (u8 m)], List.length ([(2 + (List.getD l k 0), m)] : List One) = 1, AppC (flat 2 rowO [(2 + (List.getD l k 0), m)]) (List.length ([(2 + (List.getD l k 0), m)] : List One)) 16 (AObj.grow 106 2 One (0, 0) rowO (wantsS m (List.take k l))) (AObj.grow 106 2 One (0, 0) rowO ((wantsS m (List.take k l)) ++ [(2 + (List.getD l k 0), m)]))]) (s' := AS.lst 23 [(0, vc (u8 m)), (5, vo 20), (8, vc (slI l)), (9, vc (i6 (List.length l : Int))), (10, vc (i6 (k : Int)))] [(20, AObj.grow 106 2 One (0, 0) rowO ((wantsS m (List.take k l)) ++ [(2 + (List.getD l k 0), m)]))]) (by kernel_rfl) ?_ ?_
    · exact ⟨(show InR .i64 (2 + (List.getD l k 0)) from (inR64 (by first | omega | (have hq := hr _ (AL.Lib.getD_mem 0 l k (by omega)); omega)) (by first | omega | (have hq := hr _ (AL.Lib.getD_mem 0 l k (by omega)); omega)))), rfl, rfl, (⟨_, rfl, rfl, rfl, by have hw := wants_len m (List.take k l); rw [List.length_take] at hw; simp only [List.length_cons, List.length_nil]; omega, by have hw := wants_len m (List.take k l); rw [List.length_take] at hw; simp only [maxLen, List.length_cons, List.length_nil]; omega⟩)⟩
    refine AMx.blk ?_
    refine AMx.region (ces := []) (ks := [0, 5, 8, 9, 10]) (hs := [20]) (cs := [InR .i64 ((k : Int) + 1)]) (s' := AS.lst 23 [(0, vc (u8 m)), (5, vo 20), (8, vc (slI l)), (9, vc (i6 (List.length l : Int))), (10, vc (i6 ((k : Int) + 1)))] [(20, AObj.grow 106 2 One (0, 0) rowO ((wantsS m (List.take k l)) ++ [(2 + (List.getD l k 0), m)]))]) (by kernel_rfl) ?_ ?_
    · exact (show InR .i64 ((k : Int) + 1) from (inR64 (by first | omega | (have hq := hr _ (AL.Lib.getD_mem 0 l k (by omega)); omega)) (by first | omega | (have hq := hr _ (AL.Lib.getD_mem 0 l k (by omega)); omega))))
    refine AMx.ent_inv (s' := AS.lst 23 [(0, vc (u8 m)), (5, vo 5), (8, vc (slI l)), (9, vc (i6 (List.length l : Int))), (10, vc (i6 ((k : Int) + 1)))] [(5, AObj.grow 106 2 One (0, 0) rowO ((wantsS m (List.take k l)) ++ [(2 + (List.getD l k 0), m)]))]) (ent_swap 20 5 (by kernel_rfl) (by kernel_rfl)) ?_
    refine AMx.ent_inv (s' := AS.lst 23 [(0, vc (u8 m)), (5, vo 5), (8, vc (slI l)), (9, vc (i6 (List.length l : Int))), (10, vc (i6 ((k : Int) + 1)))] [(5, AObj.grow 106 2 One (0, 0) rowO ((wantsS m (List.take k l)) ++ [(2 + (List.getD l k 0), m)]))]) (ent_proj [0, 5, 8, 9, 10] [5]) ?_
    refine AMx.inv ⟨_, ?_, k + 1, ?_, rfl, ?_⟩
    rotate_left
    · omega
    · rw [← wants_step m l k (by omega)]; rfl
    · omega
  · try simp only [decide_eq_true_eq, decide_eq_false_iff_not] at hc1
    refine AMx.exit ?_
    refine AMx.code_exit ?_
    refine AMx.inv_exit ?_
    refine AMx.blk_exit ?_
    refine AMx.seq ?_
    refine AMx.region (ces := []) (ks := [4]) (hs := [5]) (cs := []) (s' := AS.lst 23 [(4, vo 5)] [(5, AObj.grow 106 2 One (0, 0) rowO (wantsS m (List.take k l)))]) (by kernel_rfl) ?_ ?_
    · exact trivial
    refine AMx.ent (s' := AS.lst 23 [(4, vc (slO (wantsS m (List.take k l))))] []) (ent_freeze (id := 5) (T := 106) (by kernel_rfl)) ?_
    refine AMx.ret ?_
    exact RetP.mk (r := vc (slO (wantsS m (List.take k l)))) (by kernel_rfl) (by rw [List.take_of_length_le (by omega)])

theorem f102_body : Try.f102.body = some (.seq (.region 0 (rg Try.f102 0) false) (.seq (.region 1 (rg Try.f102 1) false) (.ret))) := by kernel_rfl

set_option maxRecDepth 100000 in
set_option maxHeartbeats 8000000 in
theorem TWants_c (t : Tab) (m : Int) (l : List Bytes) (hb : (shardsS (max 0 ((List.length t : Int) - 4)) l).length ≤ 1000) (hr : ∀ x ∈ shardsS (max 0 ((List.length t : Int) - 4)) l, 0 ≤ x ∧ x ≤ 1000) : Pure Try.prog 102 [TV.agg [.s (slT t)], tc (u8 m), tc (SC.sl 1 Bytes [] rowS l)] (vc (slO (wantsS m (shardsS (max 0 ((List.length t : Int) - 4)) l)))) := by
  refine Pure.of_body Try.func102 f102_body (by kernel_rfl) Try.ntmps102 (by kernel_rfl) (by kernel_rfl) ?_
  refine AMx.seq ?_
  refine AMx.region (ces := []) (ks := [1, 2, 3]) (hs := [3]) (cs := []) (s' := AS.lst 13 [(1, vc (u8 m)), (2, vc (SC.sl 1 Bytes [] rowS l)), (3, vp 3 0)] [(3, AObj.row [.s (slT t)])]) (by kernel_rfl) ?_ ?_
  · exact trivial
  refine AMx.seq ?_
  refine AMx.region (ces := [(2, CE.call [] [] (vc (i6 (max 0 ((List.length t : Int) - 4)))) []), (4, CE.call [] [] (vc (slI (shardsS (max 0 ((List.length t : Int) - 4)) l))) []), (5, CE.call [] [] (vc (slO (wantsS m (shardsS (max 0 ((List.length t : Int) - 4)) l)))) [])]) (ks := [6]) (hs := []) (cs := [Spec Try.prog 53 [TV.agg [.s (slT t)]] (ofH []) (vc (i6 (max 0 ((List.length t : Int) - 4)))) (ofH []), Spec Try.prog 30 [tc (i6 (max 0 ((List.length t : Int) - 4))), tc (SC.sl 1 Bytes [] rowS l)] (ofH []) (vc (slI (shardsS (max 0 ((List.length t : Int) - 4)) l))) (ofH []), Spec Try.prog 141 [tc (u8 m), tc (slI (shardsS (max 0 ((List.length t : Int) - 4)) l))] (ofH []) (vc (slO (wantsS m (shardsS (max 0 ((List.length t : Int) - 4)) l)))) (ofH [])]) (s' := AS.lst 13 [(6, vc (slO (wantsS m (shardsS (max 0 ((List.length t : Int) - 4)) l))))] []) (by kernel_rfl) ?_ ?_
  · exact ⟨(TShards_c t), (Shards_c (max 0 ((List.length t : Int) - 4)) l), (wants_c m (shardsS (max 0 ((List.length t : Int) - 4)) l) hb hr)⟩
  refine AMx.ret ?_
  exact RetP.mk (r := vc (slO (wantsS m (shardsS (max 0 ((List.length t : Int) - 4)) l)))) (by kernel_rfl) rfl

theorem f104_body : Try.f104.body = some (.seq (.region 0 (rg Try.f104 0) false) (.seq (.region 1 (rg Try.f104 1) false) (.ret))) := by kernel_rfl

set_option maxRecDepth 100000 in
set_option maxHeartbeats 8000000 in
theorem TAll_c (t : Tab) (m : Int) (hb : (AL.Fnv.allS (max 0 ((List.length t : Int) - 4))).length ≤ 1000) (hr : ∀ x ∈ AL.Fnv.allS (max 0 ((List.length t : Int) - 4)), 0 ≤ x ∧ x ≤ 1000) : Pure Try.prog 104 [TV.agg [.s (slT t)], tc (u8 m)] (vc (slO (wantsS m (AL.Fnv.allS (max 0 ((List.length t : Int) - 4)))))) := by
  refine Pure.of_body Try.func104 f104_body (by kernel_rfl) Try.ntmps104 (by kernel_rfl) (by kernel_rfl) ?_
  refine AMx.seq ?_
  refine AMx.region (ces := []) (ks := [1, 2]) (hs := [2]) (cs := []) (s' := AS.lst 10 [(1, vc (u8 m)), (2, vp 2 0)] [(2, AObj.row [.s (slT t)])]) (by kernel_rfl) ?_ ?_
  · exact trivial
  refine AMx.seq ?_
  refine AMx.region (ces := [(2, CE.call [] [] (vc (i6 (max 0 ((List.length t : Int) - 4)))) []), (3, CE.call [] [] (vc (slI (AL.Fnv.allS (max 0 ((List.length t : Int) - 4))))) []), (4, CE.call [] [] (vc (slO (wantsS m (AL.Fnv.allS (max 0 ((List.length t : Int) - 4)))))) [])]) (ks := [4]) (hs := []) (cs := [Spec Try.prog 53 [TV.agg [.s (slT t)]] (ofH []) (vc (i6 (max 0 ((List.length t : Int) - 4)))) (ofH []), Spec Try.prog 29 [tc (i6 (max 0 ((List.length t : Int) - 4)))] (ofH []) (vc (slI (AL.Fnv.allS (max 0 ((List.length t : Int) - 4))))) (ofH []), Spec Try.prog 141 [tc (u8 m), tc (slI (AL.Fnv.allS (max 0 ((List.length t : Int) - 4))))] (ofH []) (vc (slO (wantsS m (AL.Fnv.allS (max 0 ((List.length t : Int) - 4)))))) (ofH [])]) (s' := AS.lst 10 [(4, vc (slO (wantsS m (AL.Fnv.allS (max 0 ((List.length t : Int) - 4))))))] []) (by kernel_rfl) ?_ ?_
  · exact ⟨(TShards_c t), (All_c (max 0 ((List.length t : Int) - 4))), (wants_c m (AL.Fnv.allS (max 0 ((List.length t : Int) - 4))) hb hr)⟩
  refine AMx.ret ?_
  exact RetP.mk (r := vc (slO (wantsS m (AL.Fnv.allS (max 0 ((List.length t : Int) - 4)))))) (by kernel_rfl) rfl

theorem f103_body : Try.f103.body = some (.seq (.region 0 (rg Try.f103 0) false) (.seq (.seq (.region 1 (rg Try.f103 1) false) (.cond (.tmp 8) (.seq (.region 2 (rg Try.f103 2) false) (.ret)) (.skip))) (.seq (.region 3 (rg Try.f103 3) false) (.ret)))) := by kernel_rfl

set_option maxRecDepth 100000 in
set_option maxHeartbeats 8000000 in
theorem TShard_c (t : Tab) (p : Bytes) (hr : 0 ≤ shardS p (max 0 ((List.length t : Int) - 4)) ∧ shardS p (max 0 ((List.length t : Int) - 4)) ≤ 1000) : Pure Try.prog 103 [TV.agg [.s (slT t)], tc (st p)] (vc (i6 (shardT t p))) := by
  refine Pure.of_body Try.func103 f103_body (by kernel_rfl) Try.ntmps103 (by kernel_rfl) (by kernel_rfl) ?_
  refine AMx.seq ?_
  refine AMx.region (ces := []) (ks := [1, 2]) (hs := [2]) (cs := []) (s' := AS.lst 14 [(1, vc (st p)), (2, vp 2 0)] [(2, AObj.row [.s (slT t)])]) (by kernel_rfl) ?_ ?_
  · exact trivial
  refine AMx.seq ?_
  refine AMx.seq ?_
  refine AMx.region (ces := []) (ks := [1, 2, 8]) (hs := [2]) (cs := []) (s' := AS.lst 14 [(1, vc (st p)), (2, vp 2 0), (8, vc (bo (decide ((List.length t : Int) = 0))))] [(2, AObj.row [.s (slT t)])]) (by kernel_rfl) ?_ ?_
  · exact trivial
  refine AMx.cond (b := decide ((List.length t : Int) = 0)) (by kernel_rfl) (fun hc1 => ?_) (fun hc1 => ?_)
  · try simp only [decide_eq_true_eq, decide_eq_false_iff_not] at hc1
    refine AMx.seq ?_
    refine AMx.region (ces := []) (ks := [4]) (hs := []) (cs := []) (s' := AS.lst 14 [(4, vc (i6 0))] []) (by kernel_rfl) ?_ ?_
    · exact trivial
    refine AMx.ret ?_
    exact RetP.mk (r := vc (i6 0)) (by kernel_rfl) (by unfold shardT; rw [if_pos (by omega)])
  · try simp only [decide_eq_true_eq, decide_eq_false_iff_not] at hc1
    refine AMx.skip ?_
    refine AMx.seq ?_
    refine AMx.region (ces := [(2, CE.call [] [] (vc (i6 (max 0 ((List.length t : Int) - 4)))) []), (3, CE.call [] [] (vc (i6 (shardS p (max 0 ((List.length t : Int) - 4))))) [])]) (ks := [4]) (hs := []) (cs := [Spec Try.prog 53 [TV.agg [.s (slT t)]] (ofH []) (vc (i6 (max 0 ((List.length t : Int) - 4)))) (ofH []), Spec Try.prog 26 [tc (st p), tc (i6 (max 0 ((List.length t : Int) - 4)))] (ofH []) (vc (i6 (shardS p (max 0 ((List.length t : Int) - 4))))) (ofH []), InR .i64 (2 + (shardS p (max 0 ((List.length t : Int) - 4))))]) (s' := AS.lst 14 [(4, vc (i6 (2 + (shardS p (max 0 ((List.length t : Int) - 4))))))] []) (by kernel_rfl) ?_ ?_
    · exact ⟨(TShards_c t), (Shard_c p (max 0 ((List.length t : Int) - 4))), (show InR .i64 (2 + (shardS p (max 0 ((List.length t : Int) - 4)))) from (inR64 (by omega) (by omega)))⟩
    refine AMx.ret ?_
    exact RetP.mk (r := vc (i6 (2 + (shardS p (max 0 ((List.length t : Int) - 4)))))) (by kernel_rfl) (by unfold shardT; rw [if_neg (by omega)]; rfl)

end AL.Locks
