/- locks: the contracts of its functions, by their walks. No condition. -/
import Derived.Test.YtbfhmgbgehenoaaLocksC
namespace AL.Locks
open Go Go.Proofs AL AL.Fnv AL.Gate
set_option linter.unusedVariables false
set_option linter.unusedSimpArgs false

theorem f45_body : Try.f45.body = some (.seq (.region 0 (rg Try.f45 0) false) (.seq (.region 1 (rg Try.f45 1) false) (.ret))) := by kernel_rfl

set_option maxRecDepth 100000 in
set_option maxHeartbeats 8000000 in
theorem freeC_c (g : Gt) (hb : g.1.length + g.2.length ≤ 90000) : Pure Try.prog 45 [TV.agg [.s (slO g.1), .s (slO g.2)]] (vc (bo (!decide ((List.length g.1 : Int) + (List.length g.2 : Int) = 0)))) := by
 refine Pure.of_body Try.func45 f45_body (by kernel_rfl) Try.ntmps45 (by kernel_rfl) (by kernel_rfl) ?_
 refine gS [] [] 6 [(1, vp 1 0)] [(1, AObj.row [.s (slO g.1), .s (slO g.2)])] trivial ?_
 refine gS [(1, CE.call [] [] (vc (bo (decide ((List.length g.1 : Int) + (List.length g.2 : Int) = 0)))) [])] [Spec Try.prog 46 [TV.agg [.s (slO g.1), .s (slO g.2)]] (ofH []) (vc (bo (decide ((List.length g.1 : Int) + (List.length g.2 : Int) = 0)))) (ofH [])] 6 [(2, vc (bo (!(decide ((List.length g.1 : Int) + (List.length g.2 : Int) = 0)))))] [] (Free_c g (by omega)) ?_
 exact gT (vc (bo (!(decide ((List.length g.1 : Int) + (List.length g.2 : Int) = 0))))) rfl

theorem f63_body : Try.f63.body = some (.seq (.region 0 (rg Try.f63 0) false) (.seq (.seq (.region 1 (rg Try.f63 1) false) (.block 0 (.loop (.seq (.region 2 (rg Try.f63 2) false) (.seq (.cond (.tmp 9) (.skip) (.exit 0)) (.seq (.block 1 (.seq (.region 3 (rg Try.f63 3) false) (.seq (.region 4 (rg Try.f63 4) false) (.cond (.tmp 16) (.seq (.region 5 (rg Try.f63 5) false) (.ret)) (.skip))))) (.region 6 (rg Try.f63 6) false))))))) (.seq (.region 7 (rg Try.f63 7) false) (.ret)))) := by kernel_rfl

set_option maxRecDepth 100000 in
set_option maxHeartbeats 8000000 in
theorem IndexG_c (f : FuncId) (caps : List Cap) (p : Gt → Bool) (l : List Gt) (hf : ∀ x ∈ l, Pure Try.prog f ([TV.agg [.s (slO x.1), .s (slO x.2)]] ++ List.map capT caps) (vc (bo (p x)))) : Pure Try.prog 63 [tc (slT l), TV.c (.fn f caps)] (vc (i6 (Lib.idxS p l))) := by
 refine Pure.of_body Try.func63 f63_body (by kernel_rfl) Try.ntmps63 (by kernel_rfl) (by kernel_rfl) ?_
 refine AMx.sl 0 (l := l) rfl (fun hl => ?_)
 simp only [maxLen] at hl
 refine gS [] [] 19 [(0, vc (slT l)), (1, AV.t (TV.c (.fn f caps)))] [] trivial ?_
 refine gQ ?_
 refine gS [] [] 19 [(0, vc (slT l)), (1, AV.t (TV.c (.fn f caps))), (7, vc (i6 (List.length l : Int))), (8, vc (i6 0))] [] trivial ?_
 refine AMx.block ?_
 refine AMx.ent (s' := AS.lst 19 [(0, vc (slT l)), (1, AV.t (TV.c (.fn f caps))), (7, vc (i6 (List.length l : Int))), (8, vc (i6 0))] []) (ent_proj [0, 1, 7, 8] []) ?_
 refine AMx.loop (fun mm ss => ∃ (k : Nat), (k ≤ l.length ∧ ∀ x ∈ List.take k l, p x = false) ∧ mm = l.length - k ∧ ss = AS.lst 19 [(0, vc (slT l)), (1, AV.t (TV.c (.fn f caps))), (7, vc (i6 (List.length l : Int))), (8, vc (i6 (k : Int)))] []) ⟨0, ?_, rfl, ?_⟩ ?_
 · exact ⟨by omega, fun x hx => by simp at hx⟩
 · rfl
 rintro mm ss ⟨k, ⟨hI, hN⟩, rfl, rfl⟩
 refine gS [] [] 19 [(0, vc (slT l)), (1, AV.t (TV.c (.fn f caps))), (7, vc (i6 (List.length l : Int))), (8, vc (i6 (k : Int))), (9, vc (bo (decide ((k : Int) < (List.length l : Int)))))] [] trivial ?_
 refine gQ ?_
 refine gC ((k : Int) < (List.length l : Int)) (fun hc1 => ?_) fun hc1 => ?_
 ·
  refine AMx.skip ?_
  refine gQ ?_
  refine AMx.block ?_
  refine gS [] [] 19 [(0, vc (slT l)), (1, AV.t (TV.c (.fn f caps))), (5, vc (i6 (k : Int))), (7, vc (i6 (List.length l : Int))), (8, vc (i6 (k : Int)))] [] trivial ?_
  refine gS [(5, CE.call [] [] (vc (bo (p (List.getD l k ([], []))))) [])] [(0 : Int) ≤ (k : Int), (k : Int) < List.length l, Spec Try.prog f ([TV.agg [.s (slO ((List.getD l k ([], [])).1)), .s (slO ((List.getD l k ([], [])).2))]] ++ List.map capT caps) (ofH []) (vc (bo (p (List.getD l k ([], []))))) (ofH [])] 19 [(0, vc (slT l)), (1, AV.t (TV.c (.fn f caps))), (5, vc (i6 (k : Int))), (7, vc (i6 (List.length l : Int))), (8, vc (i6 (k : Int))), (16, vc (bo (p (List.getD l k ([], [])))))] [] ⟨(by omega), (by omega), (hf (List.getD l k ([], [])) (AL.Lib.getD_mem _ _ _ (by omega)))⟩ ?_
  refine gB (p (List.getD l k ([], []))) (fun hc2 => ?_) fun hc2 => ?_
  ·
   try simp only [xT, xF] at hc2
   refine gS [] [] 19 [(4, vc (i6 (k : Int)))] [] trivial ?_
   exact gT (vc (i6 (k : Int))) (by rw [Lib.idx_hit ([], []) l k (by omega) hN (by assumption)])
  ·
   try simp only [xT, xF] at hc2
   refine AMx.skip ?_
   refine AMx.blk ?_
   refine gR [] [InR .i64 ((k : Int) + 1)] 19 [(0, vc (slT l)), (1, AV.t (TV.c (.fn f caps))), (7, vc (i6 (List.length l : Int))), (8, vc (i6 ((k : Int) + 1)))] [] (show InR .i64 ((k : Int) + 1) from (inR64 (by omega) (by omega))) ?_
   refine AMx.ent_inv (s' := AS.lst 19 [(0, vc (slT l)), (1, AV.t (TV.c (.fn f caps))), (7, vc (i6 (List.length l : Int))), (8, vc (i6 ((k : Int) + 1)))] []) (ent_proj [0, 1, 7, 8] []) ?_
   refine AMx.inv ⟨_, ?_, k + 1, ?_, rfl, ?_⟩
   rotate_left
   · exact ⟨by omega, Lib.all_step ([], []) l k (by omega) hN (by assumption)⟩
   · rfl
   · omega
 ·
  refine AMx.exit ?_
  refine AMx.code_exit ?_
  refine AMx.inv_exit ?_
  refine AMx.blk_exit ?_
  refine gS [] [] 19 [(4, vc (i6 (-1)))] [] trivial ?_
  exact gT (vc (i6 (-1))) (by rw [Lib.idx_none (fun x hx => hN x (by rwa [List.take_of_length_le (by omega)]))])

theorem f44_body : Try.f44.body = some (.seq (.region 0 (rg Try.f44 0) false) (.seq (.region 1 (rg Try.f44 1) false) (.ret))) := by kernel_rfl

set_option maxRecDepth 100000 in
set_option maxHeartbeats 8000000 in
theorem ContainsG_c (f : FuncId) (caps : List Cap) (p : Gt → Bool) (l : List Gt) (hf : ∀ x ∈ l, Pure Try.prog f ([TV.agg [.s (slO x.1), .s (slO x.2)]] ++ List.map capT caps) (vc (bo (p x)))) : Pure Try.prog 44 [tc (slT l), TV.c (.fn f caps)] (vc (bo (decide (0 ≤ AL.Lib.idxS p l)))) := by
 refine Pure.of_body Try.func44 f44_body (by kernel_rfl) Try.ntmps44 (by kernel_rfl) (by kernel_rfl) ?_
 refine gS [] [] 9 [(0, vc (slT l)), (1, AV.t (TV.c (.fn f caps)))] [] trivial ?_
 refine gS [(2, CE.call [] [] (vc (i6 (AL.Lib.idxS p l))) [])] [Spec Try.prog 63 [tc (slT l), TV.c (.fn f caps)] (ofH []) (vc (i6 (AL.Lib.idxS p l))) (ofH [])] 9 [(4, vc (bo (decide (0 ≤ AL.Lib.idxS p l))))] [] (IndexG_c f caps p l hf) ?_
 exact gT (vc (bo (decide (0 ≤ AL.Lib.idxS p l)))) rfl

theorem f24_body : Try.f24.body = some (.seq (.region 0 (rg Try.f24 0) false) (.seq (.region 1 (rg Try.f24 1) false) (.ret))) := by kernel_rfl

set_option maxRecDepth 100000 in
set_option maxHeartbeats 8000000 in
theorem TFree_c (t : Tab) (n : Nat) (hg : GoodT n t) (hn : n ≤ 80000) : Pure Try.prog 24 [TV.agg [.s (slT t)]] (vc (bo (freeS t))) := by
 refine Pure.of_body Try.func24 f24_body (by kernel_rfl) Try.ntmps24 (by kernel_rfl) (by kernel_rfl) ?_
 refine gS [] [] 7 [(1, vp 1 0)] [(1, AObj.row [.s (slT t)])] trivial ?_
 refine gS [(2, CE.call [] [] (vc (bo (decide (0 ≤ AL.Lib.idxS (fun x : Gt => !decide ((List.length x.1 : Int) + (List.length x.2 : Int) = 0)) t)))) [])] [Spec Try.prog 44 [tc (slT t), TV.c (.fn 45 [])] (ofH []) (vc (bo (decide (0 ≤ AL.Lib.idxS (fun x : Gt => !decide ((List.length x.1 : Int) + (List.length x.2 : Int) = 0)) t)))) (ofH [])] 7 [(2, vc (bo (!(decide (0 ≤ AL.Lib.idxS (fun x : Gt => !decide ((List.length x.1 : Int) + (List.length x.2 : Int) = 0)) t)))))] [] (ContainsG_c 45 [] (fun x : Gt => !decide ((List.length x.1 : Int) + (List.length x.2 : Int) = 0)) t (fun x hx => freeC_c x (by have hz := (hg.2 _ hx).2; unfold sizeS at hz; omega))) ?_
 exact gT (vc (bo (!(decide (0 ≤ AL.Lib.idxS (fun x : Gt => !decide ((List.length x.1 : Int) + (List.length x.2 : Int) = 0)) t))))) (by rw [free_idx])

theorem f47_body : Try.f47.body = some (.seq (.region 0 (rg Try.f47 0) false) (.seq (.region 1 (rg Try.f47 1) false) (.seq (.seq (.region 2 (rg Try.f47 2) false) (.block 0 (.loop (.seq (.region 3 (rg Try.f47 3) false) (.seq (.cond (.tmp 11) (.skip) (.exit 0)) (.seq (.block 1 (.seq (.region 4 (rg Try.f47 4) false) (.region 5 (rg Try.f47 5) false))) (.region 6 (rg Try.f47 6) false))))))) (.seq (.region 7 (rg Try.f47 7) false) (.ret))))) := by kernel_rfl

set_option maxRecDepth 100000 in
set_option maxHeartbeats 8000000 in
theorem wants_c (m : Int) (l : List Int) (hb : l.length ≤ 1000) (hr : ∀ x ∈ l, 0 ≤ x ∧ x ≤ 1000) : Pure Try.prog 47 [tc (u8 m), tc (slI l)] (vc (slO (wantsS m l))) := by
 refine Pure.of_body Try.func47 f47_body (by kernel_rfl) Try.ntmps47 (by kernel_rfl) (by kernel_rfl) ?_
 refine gS [] [] 23 [(0, vc (u8 m)), (1, vc (slI l))] [] trivial ?_
 refine gS [] [] 23 [(0, vc (u8 m)), (1, vc (slI l)), (5, vc (SC.nilsl))] [] trivial ?_
 refine gQ ?_
 refine gS [] [] 23 [(0, vc (u8 m)), (5, vc (SC.nilsl)), (8, vc (slI l)), (9, vc (i6 (List.length l : Int))), (10, vc (i6 0))] [] trivial ?_
 refine AMx.block ?_
 refine AMx.ent (s' := AS.lst 23 [(0, vc (u8 m)), (5, vo 5), (8, vc (slI l)), (9, vc (i6 (List.length l : Int))), (10, vc (i6 0))] [(5, AObj.grow 65 2 One (0, 0) rowO [])]) (ent_adopt (t := 5) (d := 5) 65 2 One (0, 0) rowO (by kernel_rfl) (by kernel_rfl) (by kernel_rfl) (by kernel_rfl)) ?_
 refine AMx.ent (s' := AS.lst 23 [(0, vc (u8 m)), (5, vo 5), (8, vc (slI l)), (9, vc (i6 (List.length l : Int))), (10, vc (i6 0))] [(5, AObj.grow 65 2 One (0, 0) rowO [])]) (ent_proj [0, 5, 8, 9, 10] [5]) ?_
 refine AMx.loop (fun mm ss => ∃ (k : Nat), (k ≤ l.length) ∧ mm = l.length - k ∧ ss = AS.lst 23 [(0, vc (u8 m)), (5, vo 5), (8, vc (slI l)), (9, vc (i6 (List.length l : Int))), (10, vc (i6 (k : Int)))] [(5, AObj.grow 65 2 One (0, 0) rowO (wantsS m (List.take k l)))]) ⟨0, ?_, rfl, ?_⟩ ?_
 · omega
 · rfl
 rintro mm ss ⟨k, hI, rfl, rfl⟩
 refine gS [] [] 23 [(0, vc (u8 m)), (5, vo 5), (8, vc (slI l)), (9, vc (i6 (List.length l : Int))), (10, vc (i6 (k : Int))), (11, vc (bo (decide ((k : Int) < (List.length l : Int)))))] [(5, AObj.grow 65 2 One (0, 0) rowO (wantsS m (List.take k l)))] trivial ?_
 refine gQ ?_
 refine gC ((k : Int) < (List.length l : Int)) (fun hc1 => ?_) fun hc1 => ?_
 ·
  refine AMx.skip ?_
  refine gQ ?_
  refine AMx.block ?_
  refine gS [] [(0 : Int) ≤ (k : Int), (k : Int) < List.length l] 23 [(0, vc (u8 m)), (5, vo 5), (7, vc (i6 (List.getD l k 0))), (8, vc (slI l)), (9, vc (i6 (List.length l : Int))), (10, vc (i6 (k : Int)))] [(5, AObj.grow 65 2 One (0, 0) rowO (wantsS m (List.take k l)))] ⟨(by first | omega | (have hq := hr _ (AL.Lib.getD_mem 0 l k (by omega)); omega)), (show (k : Int) < List.length l from (by first | omega | (have hq := hr _ (AL.Lib.getD_mem 0 l k (by omega)); omega)))⟩ ?_
  refine gR [(5, CE.obj (AObj.grow 65 2 One (0, 0) rowO [(2 + (List.getD l k 0), m)])), (6, CE.obj (AObj.grow 65 2 One (0, 0) rowO ((wantsS m (List.take k l)) ++ [(2 + (List.getD l k 0), m)])))] [InR .i64 (2 + (List.getD l k 0)), flat 2 rowO [(2 + (List.getD l k 0), m)] = [.s (i6 (2 + (List.getD l k 0))), .s (u8 m)], List.length ([(2 + (List.getD l k 0), m)] : List One) = 1, AppC (flat 2 rowO [(2 + (List.getD l k 0), m)]) (List.length ([(2 + (List.getD l k 0), m)] : List One)) 16 (AObj.grow 65 2 One (0, 0) rowO (wantsS m (List.take k l))) (AObj.grow 65 2 One (0, 0) rowO ((wantsS m (List.take k l)) ++ [(2 + (List.getD l k 0), m)]))] 23 [(0, vc (u8 m)), (5, vo 20), (8, vc (slI l)), (9, vc (i6 (List.length l : Int))), (10, vc (i6 (k : Int)))] [(20, AObj.grow 65 2 One (0, 0) rowO ((wantsS m (List.take k l)) ++ [(2 + (List.getD l k 0), m)]))] ⟨(inR64 (by first | omega | (have hq := hr _ (AL.Lib.getD_mem 0 l k (by omega)); omega)) (by first | omega | (have hq := hr _ (AL.Lib.getD_mem 0 l k (by omega)); omega))), rfl, rfl, (⟨_, rfl, rfl, rfl, by have hw := wants_len m (List.take k l); rw [List.length_take] at hw; simp only [List.length_cons, List.length_nil]; omega, by have hw := wants_len m (List.take k l); rw [List.length_take] at hw; simp only [maxLen, List.length_cons, List.length_nil]; omega⟩)⟩ ?_
  refine AMx.blk ?_
  refine gR [] [InR .i64 ((k : Int) + 1)] 23 [(0, vc (u8 m)), (5, vo 20), (8, vc (slI l)), (9, vc (i6 (List.length l : Int))), (10, vc (i6 ((k : Int) + 1)))] [(20, AObj.grow 65 2 One (0, 0) rowO ((wantsS m (List.take k l)) ++ [(2 + (List.getD l k 0), m)]))] (show InR .i64 ((k : Int) + 1) from (inR64 (by first | omega | (have hq := hr _ (AL.Lib.getD_mem 0 l k (by omega)); omega)) (by first | omega | (have hq := hr _ (AL.Lib.getD_mem 0 l k (by omega)); omega)))) ?_
  refine AMx.ent_inv (s' := AS.lst 23 [(0, vc (u8 m)), (5, vo 5), (8, vc (slI l)), (9, vc (i6 (List.length l : Int))), (10, vc (i6 ((k : Int) + 1)))] [(5, AObj.grow 65 2 One (0, 0) rowO ((wantsS m (List.take k l)) ++ [(2 + (List.getD l k 0), m)]))]) (ent_swap 20 5 (by kernel_rfl) (by kernel_rfl)) ?_
  refine AMx.ent_inv (s' := AS.lst 23 [(0, vc (u8 m)), (5, vo 5), (8, vc (slI l)), (9, vc (i6 (List.length l : Int))), (10, vc (i6 ((k : Int) + 1)))] [(5, AObj.grow 65 2 One (0, 0) rowO ((wantsS m (List.take k l)) ++ [(2 + (List.getD l k 0), m)]))]) (ent_proj [0, 5, 8, 9, 10] [5]) ?_
  refine AMx.inv ⟨_, ?_, k + 1, ?_, rfl, ?_⟩
  rotate_left
  · omega
  · rw [← wants_step m l k (by omega)]; rfl
  · omega
 ·
  refine AMx.exit ?_
  refine AMx.code_exit ?_
  refine AMx.inv_exit ?_
  refine AMx.blk_exit ?_
  refine gS [] [] 23 [(4, vo 5)] [(5, AObj.grow 65 2 One (0, 0) rowO (wantsS m (List.take k l)))] trivial ?_
  refine AMx.ent (s' := AS.lst 23 [(4, vc (slO (wantsS m (List.take k l))))] []) (ent_freeze (id := 5) (T := 65) (by kernel_rfl)) ?_
  exact gT (vc (slO (wantsS m (List.take k l)))) (by rw [List.take_of_length_le (by omega)])

theorem f26_body : Try.f26.body = some (.seq (.region 0 (rg Try.f26 0) false) (.seq (.region 1 (rg Try.f26 1) false) (.ret))) := by kernel_rfl

set_option maxRecDepth 100000 in
set_option maxHeartbeats 8000000 in
theorem TWants_c (t : Tab) (m : Int) (l : List Bytes) (hb : (shardsS (max 0 ((List.length t : Int) - 4)) l).length ≤ 1000) (hr : ∀ x ∈ shardsS (max 0 ((List.length t : Int) - 4)) l, 0 ≤ x ∧ x ≤ 1000) : Pure Try.prog 26 [TV.agg [.s (slT t)], tc (u8 m), tc (SC.sl 1 Bytes [] rowS l)] (vc (slO (wantsS m (shardsS (max 0 ((List.length t : Int) - 4)) l)))) := by
 refine Pure.of_body Try.func26 f26_body (by kernel_rfl) Try.ntmps26 (by kernel_rfl) (by kernel_rfl) ?_
 refine gS [] [] 13 [(1, vc (u8 m)), (2, vc (SC.sl 1 Bytes [] rowS l)), (3, vp 3 0)] [(3, AObj.row [.s (slT t)])] trivial ?_
 refine gS [(2, CE.call [] [] (vc (i6 (max 0 ((List.length t : Int) - 4)))) []), (4, CE.call [] [] (vc (slI (shardsS (max 0 ((List.length t : Int) - 4)) l))) []), (5, CE.call [] [] (vc (slO (wantsS m (shardsS (max 0 ((List.length t : Int) - 4)) l)))) [])] [Spec Try.prog 10 [TV.agg [.s (slT t)]] (ofH []) (vc (i6 (max 0 ((List.length t : Int) - 4)))) (ofH []), Spec Try.prog 48 [tc (i6 (max 0 ((List.length t : Int) - 4))), tc (SC.sl 1 Bytes [] rowS l)] (ofH []) (vc (slI (shardsS (max 0 ((List.length t : Int) - 4)) l))) (ofH []), Spec Try.prog 47 [tc (u8 m), tc (slI (shardsS (max 0 ((List.length t : Int) - 4)) l))] (ofH []) (vc (slO (wantsS m (shardsS (max 0 ((List.length t : Int) - 4)) l)))) (ofH [])] 13 [(6, vc (slO (wantsS m (shardsS (max 0 ((List.length t : Int) - 4)) l))))] [] ⟨(TShards_c t), (Shards_c (max 0 ((List.length t : Int) - 4)) l), (wants_c m (shardsS (max 0 ((List.length t : Int) - 4)) l) hb hr)⟩ ?_
 exact gT (vc (slO (wantsS m (shardsS (max 0 ((List.length t : Int) - 4)) l)))) rfl

theorem f28_body : Try.f28.body = some (.seq (.region 0 (rg Try.f28 0) false) (.seq (.region 1 (rg Try.f28 1) false) (.ret))) := by kernel_rfl

set_option maxRecDepth 100000 in
set_option maxHeartbeats 8000000 in
theorem TAll_c (t : Tab) (m : Int) (hb : (AL.Fnv.allS (max 0 ((List.length t : Int) - 4))).length ≤ 1000) (hr : ∀ x ∈ AL.Fnv.allS (max 0 ((List.length t : Int) - 4)), 0 ≤ x ∧ x ≤ 1000) : Pure Try.prog 28 [TV.agg [.s (slT t)], tc (u8 m)] (vc (slO (wantsS m (AL.Fnv.allS (max 0 ((List.length t : Int) - 4)))))) := by
 refine Pure.of_body Try.func28 f28_body (by kernel_rfl) Try.ntmps28 (by kernel_rfl) (by kernel_rfl) ?_
 refine gS [] [] 10 [(1, vc (u8 m)), (2, vp 2 0)] [(2, AObj.row [.s (slT t)])] trivial ?_
 refine gS [(2, CE.call [] [] (vc (i6 (max 0 ((List.length t : Int) - 4)))) []), (3, CE.call [] [] (vc (slI (AL.Fnv.allS (max 0 ((List.length t : Int) - 4))))) []), (4, CE.call [] [] (vc (slO (wantsS m (AL.Fnv.allS (max 0 ((List.length t : Int) - 4)))))) [])] [Spec Try.prog 10 [TV.agg [.s (slT t)]] (ofH []) (vc (i6 (max 0 ((List.length t : Int) - 4)))) (ofH []), Spec Try.prog 50 [tc (i6 (max 0 ((List.length t : Int) - 4)))] (ofH []) (vc (slI (AL.Fnv.allS (max 0 ((List.length t : Int) - 4))))) (ofH []), Spec Try.prog 47 [tc (u8 m), tc (slI (AL.Fnv.allS (max 0 ((List.length t : Int) - 4))))] (ofH []) (vc (slO (wantsS m (AL.Fnv.allS (max 0 ((List.length t : Int) - 4)))))) (ofH [])] 10 [(4, vc (slO (wantsS m (AL.Fnv.allS (max 0 ((List.length t : Int) - 4))))))] [] ⟨(TShards_c t), (All_c (max 0 ((List.length t : Int) - 4))), (wants_c m (AL.Fnv.allS (max 0 ((List.length t : Int) - 4))) hb hr)⟩ ?_
 exact gT (vc (slO (wantsS m (AL.Fnv.allS (max 0 ((List.length t : Int) - 4)))))) rfl

theorem f27_body : Try.f27.body = some (.seq (.region 0 (rg Try.f27 0) false) (.seq (.seq (.region 1 (rg Try.f27 1) false) (.cond (.tmp 8) (.seq (.region 2 (rg Try.f27 2) false) (.ret)) (.skip))) (.seq (.region 3 (rg Try.f27 3) false) (.ret)))) := by kernel_rfl

set_option maxRecDepth 100000 in
set_option maxHeartbeats 8000000 in
theorem TShard_c (t : Tab) (p : Bytes) (hr : 0 ≤ shardS p (max 0 ((List.length t : Int) - 4)) ∧ shardS p (max 0 ((List.length t : Int) - 4)) ≤ 1000) : Pure Try.prog 27 [TV.agg [.s (slT t)], tc (st p)] (vc (i6 (shardT t p))) := by
 refine Pure.of_body Try.func27 f27_body (by kernel_rfl) Try.ntmps27 (by kernel_rfl) (by kernel_rfl) ?_
 refine gS [] [] 14 [(1, vc (st p)), (2, vp 2 0)] [(2, AObj.row [.s (slT t)])] trivial ?_
 refine gQ ?_
 refine gS [] [] 14 [(1, vc (st p)), (2, vp 2 0), (8, vc (bo (decide ((List.length t : Int) = 0))))] [(2, AObj.row [.s (slT t)])] trivial ?_
 refine gC ((List.length t : Int) = 0) (fun hc1 => ?_) fun hc1 => ?_
 ·
  refine gS [] [] 14 [(4, vc (i6 0))] [] trivial ?_
  exact gT (vc (i6 0)) (by unfold shardT; rw [if_pos (by omega)])
 ·
  refine AMx.skip ?_
  refine gS [(2, CE.call [] [] (vc (i6 (max 0 ((List.length t : Int) - 4)))) []), (3, CE.call [] [] (vc (i6 (shardS p (max 0 ((List.length t : Int) - 4))))) [])] [Spec Try.prog 10 [TV.agg [.s (slT t)]] (ofH []) (vc (i6 (max 0 ((List.length t : Int) - 4)))) (ofH []), Spec Try.prog 49 [tc (st p), tc (i6 (max 0 ((List.length t : Int) - 4)))] (ofH []) (vc (i6 (shardS p (max 0 ((List.length t : Int) - 4))))) (ofH []), InR .i64 (2 + (shardS p (max 0 ((List.length t : Int) - 4))))] 14 [(4, vc (i6 (2 + (shardS p (max 0 ((List.length t : Int) - 4))))))] [] ⟨(TShards_c t), (Shard_c p (max 0 ((List.length t : Int) - 4))), (show InR .i64 (2 + (shardS p (max 0 ((List.length t : Int) - 4)))) from (inR64 (by omega) (by omega)))⟩ ?_
  exact gT (vc (i6 (2 + (shardS p (max 0 ((List.length t : Int) - 4)))))) (by unfold shardT; rw [if_neg (by omega)]; rfl)

end AL.Locks
