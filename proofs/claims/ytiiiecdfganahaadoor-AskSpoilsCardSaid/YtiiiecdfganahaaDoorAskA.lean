/- ask: the contracts of its functions, by their walks. No condition. -/
import Derived.Test.YtiiiecdfganahaaDoorAskI
import Derived.Test.YtiiiecdfganahaaDoorSepA
import Derived.Test.YtiiiecdfganahaaDoorRowsAc
namespace AL.Ask
open Go Go.Proofs AL
set_option linter.unusedVariables false
set_option linter.unusedSimpArgs false

theorem f32_body : Tryd.f32.body = some (.seq (.region 0 (rg Tryd.f32 0) false) (.seq (.seq (.region 1 (rg Tryd.f32 1) false) (.cond (.tmp 3) (.seq (.region 2 (rg Tryd.f32 2) false) (.ret)) (.skip))) (.seq (.region 3 (rg Tryd.f32 3) false) (.ret)))) := by kernel_rfl

set_option maxRecDepth 100000 in
set_option maxHeartbeats 8000000 in
theorem fine_c (b : Bool) : Pure Tryd.prog 32 [tc (bo b)] (vc (i6 (fineS b))) := by
  refine Pure.of_body Tryd.func32 f32_body (by kernel_rfl) Tryd.ntmps32 (by kernel_rfl) (by kernel_rfl) ?_
  refine AMx.seq ?_
  refine AMx.region (ces := []) (ks := [0]) (hs := []) (cs := []) (s' := AS.lst 4 [(0, vc (bo b))] []) (by kernel_rfl) ?_ ?_
  · exact trivial
  refine AMx.seq ?_
  refine AMx.seq ?_
  refine AMx.region (ces := []) (ks := [3]) (hs := []) (cs := []) (s' := AS.lst 4 [(3, vc (bo b))] []) (by kernel_rfl) ?_ ?_
  · exact trivial
  refine AMx.cond (b := b) (by kernel_rfl) (fun hc1 => ?_) (fun hc1 => ?_)
  · try simp only [decide_eq_true_eq, decide_eq_false_iff_not] at hc1
    refine AMx.seq ?_
    refine AMx.region (ces := []) (ks := [2]) (hs := []) (cs := []) (s' := AS.lst 4 [(2, vc (i6 0))] []) (by kernel_rfl) ?_ ?_
    · exact trivial
    refine AMx.ret ?_
    exact RetP.mk (r := vc (i6 0)) (by kernel_rfl) (by rw [hc1]; rfl)
  · try simp only [decide_eq_true_eq, decide_eq_false_iff_not] at hc1
    refine AMx.skip ?_
    refine AMx.seq ?_
    refine AMx.region (ces := []) (ks := [2]) (hs := []) (cs := []) (s' := AS.lst 4 [(2, vc (i6 4))] []) (by kernel_rfl) ?_ ?_
    · exact trivial
    refine AMx.ret ?_
    exact RetP.mk (r := vc (i6 4)) (by kernel_rfl) (by rw [hc1]; rfl)

theorem f38_body : Tryd.f38.body = some (.seq (.region 0 (rg Tryd.f38 0) false) (.seq (.region 1 (rg Tryd.f38 1) false) (.ret))) := by kernel_rfl

set_option maxRecDepth 100000 in
set_option maxHeartbeats 8000000 in
theorem within_c (n lo hi : Int) : Pure Tryd.prog 38 [tc (i6 n), tc (i6 lo), tc (i6 hi)] (vc (bo (withinI n lo hi))) := by
  refine Pure.of_body Tryd.func38 f38_body (by kernel_rfl) Tryd.ntmps38 (by kernel_rfl) (by kernel_rfl) ?_
  refine AMx.seq ?_
  refine AMx.region (ces := []) (ks := [0, 1, 2]) (hs := []) (cs := []) (s' := AS.lst 15 [(0, vc (i6 n)), (1, vc (i6 lo)), (2, vc (i6 hi))] []) (by kernel_rfl) ?_ ?_
  · exact trivial
  refine AMx.seq ?_
  refine AMx.region (ces := []) (ks := [6]) (hs := []) (cs := [((decide (lo ≤ n)) = true) → allP [], ((decide (lo ≤ n)) = true) → allP [], ((decide (lo ≤ n)) = true) → allP [(decide (lo ≤ n)) = true, (decide (lo ≤ n)) = true], (decide (lo ≤ n)) = true → allP [(decide (lo ≤ n)) = true]]) (s' := AS.lst 15 [(6, vc (bo ((decide (lo ≤ n)) && (decide (n ≤ hi)))))] []) (by kernel_rfl) ?_ ?_
  · exact ⟨(fun _ => trivial), (fun _ => trivial), (fun hp => ⟨hp, hp⟩), (fun hp2 => (by first | exact hp2 | exact ⟨hp, hp2⟩))⟩
  refine AMx.ret ?_
  exact RetP.mk (r := vc (bo ((decide (lo ≤ n)) && (decide (n ≤ hi))))) (by kernel_rfl) rfl

theorem f36_body : Tryd.f36.body = some (.seq (.region 0 (rg Tryd.f36 0) false) (.seq (.region 1 (rg Tryd.f36 1) false) (.ret))) := by kernel_rfl

set_option maxRecDepth 100000 in
set_option maxHeartbeats 8000000 in
theorem named_c (s : Bytes) : Pure Tryd.prog 36 [tc (st s)] (vc (bo (Rows.namedS s))) := by
  refine Pure.of_body Tryd.func36 f36_body (by kernel_rfl) Tryd.ntmps36 (by kernel_rfl) (by kernel_rfl) ?_
  refine AMx.seq ?_
  refine AMx.region (ces := []) (ks := [0]) (hs := []) (cs := []) (s' := AS.lst 7 [(0, vc (st s))] []) (by kernel_rfl) ?_ ?_
  · exact trivial
  refine AMx.seq ?_
  refine AMx.region (ces := [(2, CE.call [] [] (vc (i6 (Rows.checkK ((3, s, 0) : Rows.KeyV)))) [])]) (ks := [2]) (hs := []) (cs := [Spec Tryd.prog 50 [TV.agg [.s (u8 3), .s (st s), .s (i6 0)]] (ofH []) (vc (i6 (Rows.checkK ((3, s, 0) : Rows.KeyV)))) (ofH [])]) (s' := AS.lst 7 [(2, vc (bo (decide (Rows.checkK ((3, s, 0) : Rows.KeyV) = 0))))] []) (by kernel_rfl) ?_ ?_
  · exact (Rows.Check_c ((3, s, 0) : Rows.KeyV))
  refine AMx.ret ?_
  exact RetP.mk (r := vc (bo (decide (Rows.checkK ((3, s, 0) : Rows.KeyV) = 0)))) (by kernel_rfl) (by rw [named_key])

theorem f53_body : Tryd.f53.body = some (.seq (.region 0 (rg Tryd.f53 0) false) (.seq (.region 1 (rg Tryd.f53 1) false) (.ret))) := by kernel_rfl

set_option maxRecDepth 100000 in
set_option maxHeartbeats 8000000 in
theorem not_c (n : Int) : Pure Tryd.prog 53 [tc (i6 n)] (vc (bo (!(withinI n 1 999)))) := by
  refine Pure.of_body Tryd.func53 f53_body (by kernel_rfl) Tryd.ntmps53 (by kernel_rfl) (by kernel_rfl) ?_
  refine AMx.seq ?_
  refine AMx.region (ces := []) (ks := [0]) (hs := []) (cs := []) (s' := AS.lst 6 [(0, vc (i6 n))] []) (by kernel_rfl) ?_ ?_
  · exact trivial
  refine AMx.seq ?_
  refine AMx.region (ces := [(1, CE.call [] [] (vc (bo (withinI n 1 999))) [])]) (ks := [2]) (hs := []) (cs := [Spec Tryd.prog 38 [tc (i6 n), tc (i6 1), tc (i6 999)] (ofH []) (vc (bo (withinI n 1 999))) (ofH [])]) (s' := AS.lst 6 [(2, vc (bo (!(withinI n 1 999))))] []) (by kernel_rfl) ?_ ?_
  · exact (within_c n 1 999)
  refine AMx.ret ?_
  exact RetP.mk (r := vc (bo (!(withinI n 1 999)))) (by kernel_rfl) rfl

theorem f64_body : Tryd.f64.body = some (.seq (.region 0 (rg Tryd.f64 0) false) (.seq (.seq (.region 1 (rg Tryd.f64 1) false) (.block 0 (.loop (.seq (.region 2 (rg Tryd.f64 2) false) (.seq (.cond (.tmp 9) (.skip) (.exit 0)) (.seq (.block 1 (.seq (.region 3 (rg Tryd.f64 3) false) (.seq (.region 4 (rg Tryd.f64 4) false) (.cond (.tmp 16) (.seq (.region 5 (rg Tryd.f64 5) false) (.ret)) (.skip))))) (.region 6 (rg Tryd.f64 6) false))))))) (.seq (.region 7 (rg Tryd.f64 7) false) (.ret)))) := by kernel_rfl

set_option maxRecDepth 100000 in
set_option maxHeartbeats 8000000 in
theorem IndexI_c (f : FuncId) (caps : List Cap) (p : Int → Bool) (hf : ∀ x : Int, Pure Tryd.prog f ([tc (i6 x)] ++ List.map capT caps) (vc (bo (p x)))) (l : List Int) : Pure Tryd.prog 64 [tc (AL.Fnv.slI l), TV.c (.fn f caps)] (vc (i6 (Lib.idxS p l))) := by
  refine Pure.of_body Tryd.func64 f64_body (by kernel_rfl) Tryd.ntmps64 (by kernel_rfl) (by kernel_rfl) ?_
  refine AMx.sl 0 (l := l) rfl (fun hl => ?_)
  simp only [maxLen] at hl
  refine AMx.seq ?_
  refine AMx.region (ces := []) (ks := [0, 1]) (hs := []) (cs := []) (s' := AS.lst 19 [(0, vc (AL.Fnv.slI l)), (1, AV.t (TV.c (.fn f caps)))] []) (by kernel_rfl) ?_ ?_
  · exact trivial
  refine AMx.seq ?_
  refine AMx.seq ?_
  refine AMx.region (ces := []) (ks := [0, 1, 7, 8]) (hs := []) (cs := []) (s' := AS.lst 19 [(0, vc (AL.Fnv.slI l)), (1, AV.t (TV.c (.fn f caps))), (7, vc (i6 (List.length l : Int))), (8, vc (i6 0))] []) (by kernel_rfl) ?_ ?_
  · exact trivial
  refine AMx.block ?_
  refine AMx.ent (s' := AS.lst 19 [(0, vc (AL.Fnv.slI l)), (1, AV.t (TV.c (.fn f caps))), (7, vc (i6 (List.length l : Int))), (8, vc (i6 0))] []) (ent_proj [0, 1, 7, 8] []) ?_
  refine AMx.loop (fun mm ss => ∃ (k : Nat), (k ≤ l.length ∧ ∀ x ∈ List.take k l, p x = false) ∧ mm = l.length - k ∧ ss = AS.lst 19 [(0, vc (AL.Fnv.slI l)), (1, AV.t (TV.c (.fn f caps))), (7, vc (i6 (List.length l : Int))), (8, vc (i6 (k : Int)))] []) ⟨0, ?_, rfl, ?_⟩ ?_
  · exact ⟨by omega, fun x hx => by simp at hx⟩
  · rfl
  rintro mm ss ⟨k, ⟨hI, hN⟩, rfl, rfl⟩
  refine AMx.seq ?_
  refine AMx.region (ces := []) (ks := [0, 1, 7, 8, 9]) (hs := []) (cs := []) (s' := AS.lst 19 [(0, vc (AL.Fnv.slI l)), (1, AV.t (TV.c (.fn f caps))), (7, vc (i6 (List.length l : Int))), (8, vc (i6 (k : Int))), (9, vc (bo (decide ((k : Int) < (List.length l : Int)))))] []) (by kernel_rfl) ?_ ?_
  · exact trivial
  refine AMx.seq ?_
  refine AMx.cond (b := decide ((k : Int) < (List.length l : Int))) (by kernel_rfl) (fun hc1 => ?_) (fun hc1 => ?_)
  · try simp only [decide_eq_true_eq, decide_eq_false_iff_not] at hc1
    refine AMx.skip ?_
    refine AMx.seq ?_
    refine AMx.block ?_
    refine AMx.seq ?_
    refine AMx.region (ces := []) (ks := [0, 1, 5, 7, 8]) (hs := []) (cs := []) (s' := AS.lst 19 [(0, vc (AL.Fnv.slI l)), (1, AV.t (TV.c (.fn f caps))), (5, vc (i6 (k : Int))), (7, vc (i6 (List.length l : Int))), (8, vc (i6 (k : Int)))] []) (by kernel_rfl) ?_ ?_
    · exact trivial
    refine AMx.seq ?_
    refine AMx.region (ces := [(5, CE.call [] [] (vc (bo (p (List.getD l k 0)))) [])]) (ks := [0, 1, 5, 7, 8, 16]) (hs := []) (cs := [(0 : Int) ≤ (k : Int), (k : Int) < List.length l, Spec Tryd.prog f ([tc (i6 (List.getD l k 0))] ++ List.map capT caps) (ofH []) (vc (bo (p (List.getD l k 0)))) (ofH [])]) (s' := AS.lst 19 [(0, vc (AL.Fnv.slI l)), (1, AV.t (TV.c (.fn f caps))), (5, vc (i6 (k : Int))), (7, vc (i6 (List.length l : Int))), (8, vc (i6 (k : Int))), (16, vc (bo (p (List.getD l k 0))))] []) (by kernel_rfl) ?_ ?_
    · exact ⟨(show (0 : Int) ≤ (k : Int) from (by omega)), (show (k : Int) < List.length l from (by omega)), (hf (List.getD l k 0))⟩
    refine AMx.cond (b := p (List.getD l k 0)) (by kernel_rfl) (fun hc2 => ?_) (fun hc2 => ?_)
    · try simp only [decide_eq_true_eq, decide_eq_false_iff_not] at hc2
      refine AMx.seq ?_
      refine AMx.region (ces := []) (ks := [4]) (hs := []) (cs := []) (s' := AS.lst 19 [(4, vc (i6 (k : Int)))] []) (by kernel_rfl) ?_ ?_
      · exact trivial
      refine AMx.ret ?_
      exact RetP.mk (r := vc (i6 (k : Int))) (by kernel_rfl) (by rw [Lib.idx_hit 0 l k (by omega) hN (by assumption)])
    · try simp only [decide_eq_true_eq, decide_eq_false_iff_not] at hc2
      refine AMx.skip ?_
      refine AMx.blk ?_
      refine AMx.region (ces := []) (ks := [0, 1, 7, 8]) (hs := []) (cs := [InR .i64 ((k : Int) + 1)]) (s' := AS.lst 19 [(0, vc (AL.Fnv.slI l)), (1, AV.t (TV.c (.fn f caps))), (7, vc (i6 (List.length l : Int))), (8, vc (i6 ((k : Int) + 1)))] []) (by kernel_rfl) ?_ ?_
      · exact (show InR .i64 ((k : Int) + 1) from (inR64 (by omega) (by omega)))
      refine AMx.ent_inv (s' := AS.lst 19 [(0, vc (AL.Fnv.slI l)), (1, AV.t (TV.c (.fn f caps))), (7, vc (i6 (List.length l : Int))), (8, vc (i6 ((k : Int) + 1)))] []) (ent_proj [0, 1, 7, 8] []) ?_
      refine AMx.inv ⟨_, ?_, k + 1, ?_, rfl, ?_⟩
      rotate_left
      · exact ⟨by omega, Lib.all_step 0 l k (by omega) hN (by assumption)⟩
      · rfl
      · omega
  · try simp only [decide_eq_true_eq, decide_eq_false_iff_not] at hc1
    refine AMx.exit ?_
    refine AMx.code_exit ?_
    refine AMx.inv_exit ?_
    refine AMx.blk_exit ?_
    refine AMx.seq ?_
    refine AMx.region (ces := []) (ks := [4]) (hs := []) (cs := []) (s' := AS.lst 19 [(4, vc (i6 (-1)))] []) (by kernel_rfl) ?_ ?_
    · exact trivial
    refine AMx.ret ?_
    exact RetP.mk (r := vc (i6 (-1))) (by kernel_rfl) (by rw [Lib.idx_none (fun x hx => hN x (by rwa [List.take_of_length_le (by omega)]))])

theorem f52_body : Tryd.f52.body = some (.seq (.region 0 (rg Tryd.f52 0) false) (.seq (.region 1 (rg Tryd.f52 1) false) (.ret))) := by kernel_rfl

set_option maxRecDepth 100000 in
set_option maxHeartbeats 8000000 in
theorem ContainsI_c (f : FuncId) (caps : List Cap) (p : Int → Bool) (hf : ∀ x : Int, Pure Tryd.prog f ([tc (i6 x)] ++ List.map capT caps) (vc (bo (p x)))) (l : List Int) : Pure Tryd.prog 52 [tc (AL.Fnv.slI l), TV.c (.fn f caps)] (vc (bo (decide (0 ≤ Lib.idxS p l)))) := by
  refine Pure.of_body Tryd.func52 f52_body (by kernel_rfl) Tryd.ntmps52 (by kernel_rfl) (by kernel_rfl) ?_
  refine AMx.seq ?_
  refine AMx.region (ces := []) (ks := [0, 1]) (hs := []) (cs := []) (s' := AS.lst 9 [(0, vc (AL.Fnv.slI l)), (1, AV.t (TV.c (.fn f caps)))] []) (by kernel_rfl) ?_ ?_
  · exact trivial
  refine AMx.seq ?_
  refine AMx.region (ces := [(2, CE.call [] [] (vc (i6 (Lib.idxS p l))) [])]) (ks := [4]) (hs := []) (cs := [Spec Tryd.prog 64 [tc (AL.Fnv.slI l), TV.c (.fn f caps)] (ofH []) (vc (i6 (Lib.idxS p l))) (ofH [])]) (s' := AS.lst 9 [(4, vc (bo (decide (0 ≤ Lib.idxS p l))))] []) (by kernel_rfl) ?_ ?_
  · exact (IndexI_c f caps p hf l)
  refine AMx.ret ?_
  exact RetP.mk (r := vc (bo (decide (0 ≤ Lib.idxS p l)))) (by kernel_rfl) rfl

theorem f39_body : Tryd.f39.body = some (.seq (.region 0 (rg Tryd.f39 0) false) (.seq (.region 1 (rg Tryd.f39 1) false) (.ret))) := by kernel_rfl

set_option maxRecDepth 100000 in
set_option maxHeartbeats 8000000 in
theorem counted_c (l : List Int) : Pure Tryd.prog 39 [tc (AL.Fnv.slI l)] (vc (bo (okNs l))) := by
  refine Pure.of_body Tryd.func39 f39_body (by kernel_rfl) Tryd.ntmps39 (by kernel_rfl) (by kernel_rfl) ?_
  refine AMx.seq ?_
  refine AMx.region (ces := []) (ks := [0]) (hs := []) (cs := []) (s' := AS.lst 11 [(0, vc (AL.Fnv.slI l))] []) (by kernel_rfl) ?_ ?_
  · exact trivial
  refine AMx.seq ?_
  refine AMx.region (ces := [(5, CE.call [] [] (vc (bo (decide (0 ≤ Lib.idxS (fun x : Int => !(withinI x 1 999)) l)))) [])]) (ks := [2]) (hs := []) (cs := [((decide ((List.length l : Int) ≤ 6)) = true) → allP [], ((decide ((List.length l : Int) ≤ 6)) = true) → allP [(decide ((List.length l : Int) ≤ 6)) = true, Spec Tryd.prog 52 [tc (AL.Fnv.slI l), TV.c (.fn 53 [])] (ofH []) (vc (bo (decide (0 ≤ Lib.idxS (fun x : Int => !(withinI x 1 999)) l)))) (ofH [])], ((decide ((List.length l : Int) ≤ 6)) = true) → allP [(decide ((List.length l : Int) ≤ 6)) = true], (decide ((List.length l : Int) ≤ 6)) = true → allP [(decide ((List.length l : Int) ≤ 6)) = true]]) (s' := AS.lst 11 [(2, vc (bo ((decide ((List.length l : Int) ≤ 6)) && (!(decide (0 ≤ Lib.idxS (fun x : Int => !(withinI x 1 999)) l))))))] []) (by kernel_rfl) ?_ ?_
  · exact ⟨(fun _ => trivial), (fun hp => by have hq := hp; (try simp only [decide_eq_true_eq, decide_eq_false_iff_not, Bool.and_eq_true, Bool.or_eq_true, Bool.and_eq_false_iff, Bool.or_eq_false_iff, Bool.not_eq_true', Bool.not_eq_false', Bool.not_eq_true, Bool.not_eq_false] at hq); exact ⟨hp, (ContainsI_c 53 [] (fun x : Int => !(withinI x 1 999)) (fun x => not_c x) l)⟩), (fun hp => hp), (fun hp2 => (by first | exact hp2 | exact ⟨hp, hp2⟩))⟩
  refine AMx.ret ?_
  exact RetP.mk (r := vc (bo ((decide ((List.length l : Int) ≤ 6)) && (!(decide (0 ≤ Lib.idxS (fun x : Int => !(withinI x 1 999)) l)))))) (by kernel_rfl) (by rw [okNs_idx])

theorem f42_body : Tryd.f42.body = some (.seq (.region 0 (rg Tryd.f42 0) false) (.seq (.seq (.region 1 (rg Tryd.f42 1) false) (.cond (.tmp 4) (.seq (.region 2 (rg Tryd.f42 2) false) (.ret)) (.skip))) (.seq (.region 3 (rg Tryd.f42 3) false) (.ret)))) := by kernel_rfl

set_option maxRecDepth 100000 in
set_option maxHeartbeats 8000000 in
theorem orN_c (s : Bytes) : Pure Tryd.prog 42 [tc (st s)] (vc (st (orN s))) := by
  refine Pure.of_body Tryd.func42 f42_body (by kernel_rfl) Tryd.ntmps42 (by kernel_rfl) (by kernel_rfl) ?_
  refine AMx.seq ?_
  refine AMx.region (ces := []) (ks := [0]) (hs := []) (cs := []) (s' := AS.lst 6 [(0, vc (st s))] []) (by kernel_rfl) ?_ ?_
  · exact trivial
  refine AMx.seq ?_
  refine AMx.seq ?_
  refine AMx.region (ces := []) (ks := [0, 4]) (hs := []) (cs := []) (s' := AS.lst 6 [(0, vc (st s)), (4, vc (bo (decide (s = []))))] []) (by kernel_rfl) ?_ ?_
  · exact trivial
  refine AMx.cond (b := decide (s = [])) (by kernel_rfl) (fun hc1 => ?_) (fun hc1 => ?_)
  · try simp only [decide_eq_true_eq, decide_eq_false_iff_not] at hc1
    refine AMx.seq ?_
    refine AMx.region (ces := []) (ks := [2]) (hs := []) (cs := []) (s' := AS.lst 6 [(2, vc (st [45]))] []) (by kernel_rfl) ?_ ?_
    · exact trivial
    refine AMx.ret ?_
    exact RetP.mk (r := vc (st [45])) (by kernel_rfl) (by unfold orN; first | rw [if_pos hc1] | rw [if_neg hc1])
  · try simp only [decide_eq_true_eq, decide_eq_false_iff_not] at hc1
    refine AMx.skip ?_
    refine AMx.seq ?_
    refine AMx.region (ces := []) (ks := [2]) (hs := []) (cs := []) (s' := AS.lst 6 [(2, vc (st s))] []) (by kernel_rfl) ?_ ?_
    · exact trivial
    refine AMx.ret ?_
    exact RetP.mk (r := vc (st s)) (by kernel_rfl) (by unfold orN; first | rw [if_pos hc1] | rw [if_neg hc1])

theorem f41_body : Tryd.f41.body = some (.seq (.region 0 (rg Tryd.f41 0) false) (.seq (.region 1 (rg Tryd.f41 1) false) (.seq (.seq (.region 2 (rg Tryd.f41 2) false) (.block 0 (.loop (.seq (.seq (.region 3 (rg Tryd.f41 3) false) (.cond (.tmp 12) (.skip) (.exit 0))) (.seq (.block 1 (.region 5 (rg Tryd.f41 5) false)) (.region 4 (rg Tryd.f41 4) false)))))) (.seq (.region 6 (rg Tryd.f41 6) false) (.ret))))) := by kernel_rfl

set_option maxRecDepth 100000 in
set_option maxHeartbeats 8000000 in
theorem number_c (n : Int) (h0 : 0 ≤ n) (h1 : n ≤ 999) : Pure Tryd.prog 41 [tc (i6 n)] (vc (st (numS n))) := by
  refine Pure.of_body Tryd.func41 f41_body (by kernel_rfl) Tryd.ntmps41 (by kernel_rfl) (by kernel_rfl) ?_
  refine AMx.seq ?_
  refine AMx.region (ces := []) (ks := [0]) (hs := []) (cs := []) (s' := AS.lst 23 [(0, vc (i6 n))] []) (by kernel_rfl) ?_ ?_
  · exact trivial
  refine AMx.seq ?_
  refine AMx.region (ces := [(3, CE.obj (AObj.grow 5 1 UInt8 0 rowU8 [dg (n % 10)])), (4, CE.str [dg (n % 10)])]) (ks := [0, 3]) (hs := []) (cs := [(10 : Int) ≠ 0, (0 : Int) ≤ Int.tmod n 10, Int.tmod n 10 < List.length ([48, 49, 50, 51, 52, 53, 54, 55, 56, 57, 97, 98, 99, 100, 101, 102] : List UInt8), flat 1 rowU8 [dg (n % 10)] = [.s (u8 ((List.getD ([48, 49, 50, 51, 52, 53, 54, 55, 56, 57, 97, 98, 99, 100, 101, 102] : List UInt8) (Int.tmod n 10).toNat 0).toNat : Int))], List.length ([dg (n % 10)] : List UInt8) = 1, flat 1 rowU8 [dg (n % 10)] = flat 1 rowU8 [dg (n % 10)], List.length ([dg (n % 10)] : List UInt8) = List.length ([dg (n % 10)] : List UInt8), (List.length ([dg (n % 10)] : List UInt8) : Int) ≤ 140737488355328]) (s' := AS.lst 23 [(0, vc (i6 n)), (3, vc (st [dg (n % 10)]))] []) (by kernel_rfl) ?_ ?_
  · exact ⟨(show (10 : Int) ≠ 0 from (by first | omega | (have ht := tdiv_10 (n := n) (by omega); omega) | (have ht := tdiv_10 (n := m) (by omega); omega) | (have ht := tmod_10 (n := n) (by omega); first | omega | (simp only [List.length_cons, List.length_nil]; omega)) | (have ht := tmod_10 (n := m) (by omega); have hl := NumAt.len hN; first | omega | (simp only [List.length_append, List.length_cons, List.length_nil]; omega)))), (show (0 : Int) ≤ Int.tmod n 10 from (by first | omega | (have ht := tdiv_10 (n := n) (by omega); omega) | (have ht := tdiv_10 (n := m) (by omega); omega) | (have ht := tmod_10 (n := n) (by omega); first | omega | (simp only [List.length_cons, List.length_nil]; omega)) | (have ht := tmod_10 (n := m) (by omega); have hl := NumAt.len hN; first | omega | (simp only [List.length_append, List.length_cons, List.length_nil]; omega)))), (show Int.tmod n 10 < List.length ([48, 49, 50, 51, 52, 53, 54, 55, 56, 57, 97, 98, 99, 100, 101, 102] : List UInt8) from (by first | omega | (have ht := tdiv_10 (n := n) (by omega); omega) | (have ht := tdiv_10 (n := m) (by omega); omega) | (have ht := tmod_10 (n := n) (by omega); first | omega | (simp only [List.length_cons, List.length_nil]; omega)) | (have ht := tmod_10 (n := m) (by omega); have hl := NumAt.len hN; first | omega | (simp only [List.length_append, List.length_cons, List.length_nil]; omega)))), (one_dg (by omega)), rfl, rfl, rfl, (show (List.length ([dg (n % 10)] : List UInt8) : Int) ≤ 140737488355328 from (by first | omega | (have ht := tdiv_10 (n := n) (by omega); omega) | (have ht := tdiv_10 (n := m) (by omega); omega) | (have ht := tmod_10 (n := n) (by omega); first | omega | (simp only [List.length_cons, List.length_nil]; omega)) | (have ht := tmod_10 (n := m) (by omega); have hl := NumAt.len hN; first | omega | (simp only [List.length_append, List.length_cons, List.length_nil]; omega))))⟩
  refine AMx.seq ?_
  refine AMx.seq ?_
  refine AMx.region (ces := []) (ks := [0, 3]) (hs := []) (cs := [(10 : Int) ≠ 0, InR .i64 (Int.tdiv n 10)]) (s' := AS.lst 23 [(0, vc (i6 (Int.tdiv n 10))), (3, vc (st [dg (n % 10)]))] []) (by kernel_rfl) ?_ ?_
  · exact ⟨(show (10 : Int) ≠ 0 from (by first | omega | (have ht := tdiv_10 (n := n) (by omega); omega) | (have ht := tdiv_10 (n := m) (by omega); omega) | (have ht := tmod_10 (n := n) (by omega); first | omega | (simp only [List.length_cons, List.length_nil]; omega)) | (have ht := tmod_10 (n := m) (by omega); have hl := NumAt.len hN; first | omega | (simp only [List.length_append, List.length_cons, List.length_nil]; omega)))), (show InR .i64 (Int.tdiv n 10) from (inR64 (by first | omega | (have ht := tdiv_10 (n := n) (by omega); omega) | (have ht := tdiv_10 (n := m) (by omega); omega) | (have ht := tmod_10 (n := n) (by omega); first | omega | (simp only [List.length_cons, List.length_nil]; omega)) | (have ht := tmod_10 (n := m) (by omega); have hl := NumAt.len hN; first | omega | (simp only [List.length_append, List.length_cons, List.length_nil]; omega))) (by first | omega | (have ht := tdiv_10 (n := n) (by omega); omega) | (have ht := tdiv_10 (n := m) (by omega); omega) | (have ht := tmod_10 (n := n) (by omega); first | omega | (simp only [List.length_cons, List.length_nil]; omega)) | (have ht := tmod_10 (n := m) (by omega); have hl := NumAt.len hN; first | omega | (simp only [List.length_append, List.length_cons, List.length_nil]; omega)))))⟩
  rw [show Int.tdiv n 10 = n / 10 from tdiv_10 (by omega)]
  refine AMx.block ?_
  refine AMx.ent (s' := AS.lst 23 [(0, vc (i6 (n / 10))), (3, vc (st [dg (n % 10)]))] []) (ent_proj [0, 3] []) ?_
  refine AMx.loop (fun mm ss => ∃ (m : Int) (t : Bytes), ((0 ≤ m ∧ m ≤ 99) ∧ NumAt n m t) ∧ mm = m.toNat ∧ ss = AS.lst 23 [(0, vc (i6 m)), (3, vc (st t))] []) ⟨n / 10, [dg (n % 10)], ?_, rfl, ?_⟩ ?_
  · exact ⟨by omega, NumAt.first h0 h1⟩
  · rfl
  rintro mm ss ⟨m, t, ⟨hM, hN⟩, rfl, rfl⟩
  refine AMx.seq ?_
  refine AMx.seq ?_
  refine AMx.region (ces := []) (ks := [0, 3, 12]) (hs := []) (cs := []) (s' := AS.lst 23 [(0, vc (i6 m)), (3, vc (st t)), (12, vc (bo (decide (0 < m))))] []) (by kernel_rfl) ?_ ?_
  · exact trivial
  refine AMx.cond (b := decide (0 < m)) (by kernel_rfl) (fun hc1 => ?_) (fun hc1 => ?_)
  · try simp only [decide_eq_true_eq, decide_eq_false_iff_not] at hc1
    refine AMx.skip ?_
    refine AMx.seq ?_
    refine AMx.block ?_
    refine AMx.region (ces := [(3, CE.obj (AObj.grow 5 1 UInt8 0 rowU8 [dg (m % 10)])), (4, CE.str [dg (m % 10)])]) (ks := [0, 3]) (hs := []) (cs := [(10 : Int) ≠ 0, (0 : Int) ≤ Int.tmod m 10, Int.tmod m 10 < List.length ([48, 49, 50, 51, 52, 53, 54, 55, 56, 57, 97, 98, 99, 100, 101, 102] : List UInt8), flat 1 rowU8 [dg (m % 10)] = [.s (u8 ((List.getD ([48, 49, 50, 51, 52, 53, 54, 55, 56, 57, 97, 98, 99, 100, 101, 102] : List UInt8) (Int.tmod m 10).toNat 0).toNat : Int))], List.length ([dg (m % 10)] : List UInt8) = 1, flat 1 rowU8 [dg (m % 10)] = flat 1 rowU8 [dg (m % 10)], List.length ([dg (m % 10)] : List UInt8) = List.length ([dg (m % 10)] : List UInt8), (List.length ([dg (m % 10)] : List UInt8) : Int) ≤ 140737488355328, List.length ([dg (m % 10)] : List UInt8) + List.length t ≤ maxLen]) (s' := AS.lst 23 [(0, vc (i6 m)), (3, vc (st ([dg (m % 10)] ++ t)))] []) (by kernel_rfl) ?_ ?_
    · exact ⟨(show (10 : Int) ≠ 0 from (by first | omega | (have ht := tdiv_10 (n := n) (by omega); omega) | (have ht := tdiv_10 (n := m) (by omega); omega) | (have ht := tmod_10 (n := n) (by omega); first | omega | (simp only [List.length_cons, List.length_nil]; omega)) | (have ht := tmod_10 (n := m) (by omega); have hl := NumAt.len hN; first | omega | (simp only [List.length_append, List.length_cons, List.length_nil]; omega)))), (show (0 : Int) ≤ Int.tmod m 10 from (by first | omega | (have ht := tdiv_10 (n := n) (by omega); omega) | (have ht := tdiv_10 (n := m) (by omega); omega) | (have ht := tmod_10 (n := n) (by omega); first | omega | (simp only [List.length_cons, List.length_nil]; omega)) | (have ht := tmod_10 (n := m) (by omega); have hl := NumAt.len hN; first | omega | (simp only [List.length_append, List.length_cons, List.length_nil]; omega)))), (show Int.tmod m 10 < List.length ([48, 49, 50, 51, 52, 53, 54, 55, 56, 57, 97, 98, 99, 100, 101, 102] : List UInt8) from (by first | omega | (have ht := tdiv_10 (n := n) (by omega); omega) | (have ht := tdiv_10 (n := m) (by omega); omega) | (have ht := tmod_10 (n := n) (by omega); first | omega | (simp only [List.length_cons, List.length_nil]; omega)) | (have ht := tmod_10 (n := m) (by omega); have hl := NumAt.len hN; first | omega | (simp only [List.length_append, List.length_cons, List.length_nil]; omega)))), (one_dg (by omega)), rfl, rfl, rfl, (show (List.length ([dg (m % 10)] : List UInt8) : Int) ≤ 140737488355328 from (by first | omega | (have ht := tdiv_10 (n := n) (by omega); omega) | (have ht := tdiv_10 (n := m) (by omega); omega) | (have ht := tmod_10 (n := n) (by omega); first | omega | (simp only [List.length_cons, List.length_nil]; omega)) | (have ht := tmod_10 (n := m) (by omega); have hl := NumAt.len hN; first | omega | (simp only [List.length_append, List.length_cons, List.length_nil]; omega)))), (show List.length ([dg (m % 10)] : List UInt8) + List.length t ≤ maxLen from (by simp only [List.length_append, List.length_cons, List.length_nil, maxLen]; first | omega | (first | omega | (have ht := tdiv_10 (n := n) (by omega); omega) | (have ht := tdiv_10 (n := m) (by omega); omega) | (have ht := tmod_10 (n := n) (by omega); first | omega | (simp only [List.length_cons, List.length_nil]; omega)) | (have ht := tmod_10 (n := m) (by omega); have hl := NumAt.len hN; first | omega | (simp only [List.length_append, List.length_cons, List.length_nil]; omega)))))⟩
    refine AMx.blk ?_
    refine AMx.region (ces := []) (ks := [0, 3]) (hs := []) (cs := [(10 : Int) ≠ 0, InR .i64 (Int.tdiv m 10)]) (s' := AS.lst 23 [(0, vc (i6 (Int.tdiv m 10))), (3, vc (st ([dg (m % 10)] ++ t)))] []) (by kernel_rfl) ?_ ?_
    · exact ⟨(show (10 : Int) ≠ 0 from (by first | omega | (have ht := tdiv_10 (n := n) (by omega); omega) | (have ht := tdiv_10 (n := m) (by omega); omega) | (have ht := tmod_10 (n := n) (by omega); first | omega | (simp only [List.length_cons, List.length_nil]; omega)) | (have ht := tmod_10 (n := m) (by omega); have hl := NumAt.len hN; first | omega | (simp only [List.length_append, List.length_cons, List.length_nil]; omega)))), (show InR .i64 (Int.tdiv m 10) from (inR64 (by first | omega | (have ht := tdiv_10 (n := n) (by omega); omega) | (have ht := tdiv_10 (n := m) (by omega); omega) | (have ht := tmod_10 (n := n) (by omega); first | omega | (simp only [List.length_cons, List.length_nil]; omega)) | (have ht := tmod_10 (n := m) (by omega); have hl := NumAt.len hN; first | omega | (simp only [List.length_append, List.length_cons, List.length_nil]; omega))) (by first | omega | (have ht := tdiv_10 (n := n) (by omega); omega) | (have ht := tdiv_10 (n := m) (by omega); omega) | (have ht := tmod_10 (n := n) (by omega); first | omega | (simp only [List.length_cons, List.length_nil]; omega)) | (have ht := tmod_10 (n := m) (by omega); have hl := NumAt.len hN; first | omega | (simp only [List.length_append, List.length_cons, List.length_nil]; omega)))))⟩
    rw [show Int.tdiv m 10 = m / 10 from tdiv_10 (by omega)]
    refine AMx.ent_inv (s' := AS.lst 23 [(0, vc (i6 (m / 10))), (3, vc (st ([dg (m % 10)] ++ t)))] []) (ent_proj [0, 3] []) ?_
    refine AMx.inv ⟨_, ?_, m / 10, [dg (m % 10)] ++ t, ?_, rfl, ?_⟩
    rotate_left
    · exact ⟨by omega, NumAt.step hN (by omega) (by omega)⟩
    · rfl
    · omega
  · try simp only [decide_eq_true_eq, decide_eq_false_iff_not] at hc1
    refine AMx.exit ?_
    refine AMx.code_exit ?_
    refine AMx.inv_exit ?_
    refine AMx.blk_exit ?_
    refine AMx.seq ?_
    refine AMx.region (ces := []) (ks := [2]) (hs := []) (cs := []) (s' := AS.lst 23 [(2, vc (st t))] []) (by kernel_rfl) ?_ ?_
    · exact trivial
    refine AMx.ret ?_
    exact RetP.mk (r := vc (st t)) (by kernel_rfl) (by rw [NumAt.last hN (by omega) (by omega)])

theorem f31_body : Tryd.f31.body = some (.seq (.region 0 (rg Tryd.f31 0) false) (.seq (.seq (.region 1 (rg Tryd.f31 1) false) (.cond (.tmp 22) (.seq (.region 2 (rg Tryd.f31 2) false) (.ret)) (.skip))) (.seq (.region 3 (rg Tryd.f31 3) false) (.seq (.seq (.region 4 (rg Tryd.f31 4) false) (.block 0 (.loop (.seq (.region 5 (rg Tryd.f31 5) false) (.seq (.cond (.tmp 26) (.skip) (.exit 0)) (.block 1 (.seq (.region 6 (rg Tryd.f31 6) false) (.seq (.seq (.region 7 (rg Tryd.f31 7) false) (.cond (.tmp 33) (.seq (.region 8 (rg Tryd.f31 8) false) (.ret)) (.skip))) (.region 9 (rg Tryd.f31 9) false))))))))) (.seq (.region 10 (rg Tryd.f31 10) false) (.ret)))))) := by kernel_rfl

set_option maxRecDepth 100000 in
set_option maxHeartbeats 8000000 in
theorem numberOf_c (s : Bytes) : Pure Tryd.prog 31 [tc (st s)] (vc (i6 (scanN s))) := by
  refine Pure.of_body Tryd.func31 f31_body (by kernel_rfl) Tryd.ntmps31 (by kernel_rfl) (by kernel_rfl) ?_
  refine AMx.str 0 (b := s) rfl (fun hls => ?_)
  simp only [maxLen] at hls
  refine AMx.seq ?_
  refine AMx.region (ces := []) (ks := [0]) (hs := []) (cs := []) (s' := AS.lst 41 [(0, vc (st s))] []) (by kernel_rfl) ?_ ?_
  · exact trivial
  refine AMx.seq ?_
  refine AMx.seq ?_
  refine AMx.region (ces := []) (ks := [0, 22]) (hs := []) (cs := [((decide (s = [])) = false) → allP [], ((decide (s = [])) = false) → allP [(decide (s = [])) = false], ((decide (s = [])) = false) → allP [(decide (s = [])) = false], (decide (s = [])) = false → allP [(decide (s = [])) = false], (((decide (s = [])) || (decide (3 < (List.length s : Int)))) = false) → allP [], (((decide (s = [])) || (decide (3 < (List.length s : Int)))) = false) → allP [((decide (s = [])) || (decide (3 < (List.length s : Int)))) = false], (((decide (s = [])) || (decide (3 < (List.length s : Int)))) = false) → allP [((decide (s = [])) || (decide (3 < (List.length s : Int)))) = false], (((decide (s = [])) || (decide (3 < (List.length s : Int)))) = false) → allP [((decide (s = [])) || (decide (3 < (List.length s : Int)))) = false], ((((decide (s = [])) || (decide (3 < (List.length s : Int)))) = false) ∧ (decide (1 < (List.length s : Int))) = true) → allP [], ((((decide (s = [])) || (decide (3 < (List.length s : Int)))) = false) ∧ (decide (1 < (List.length s : Int))) = true) → allP [(((decide (s = [])) || (decide (3 < (List.length s : Int)))) = false) ∧ (decide (1 < (List.length s : Int))) = true, (0 : Int) ≤ 0, (0 : Int) < List.length s], ((((decide (s = [])) || (decide (3 < (List.length s : Int)))) = false) ∧ (decide (1 < (List.length s : Int))) = true) → allP [(((decide (s = [])) || (decide (3 < (List.length s : Int)))) = false) ∧ (decide (1 < (List.length s : Int))) = true], (((decide (s = [])) || (decide (3 < (List.length s : Int)))) = false) → allP [((decide (s = [])) || (decide (3 < (List.length s : Int)))) = false, (decide (1 < (List.length s : Int))) = true → allP [(((decide (s = [])) || (decide (3 < (List.length s : Int)))) = false) ∧ (decide (1 < (List.length s : Int))) = true]], ((decide (s = [])) || (decide (3 < (List.length s : Int)))) = false → allP [((decide (s = [])) || (decide (3 < (List.length s : Int)))) = false]]) (s' := AS.lst 41 [(0, vc (st s)), (22, vc (bo (((decide (s = [])) || (decide (3 < (List.length s : Int)))) || ((decide (1 < (List.length s : Int))) && (decide (((List.getD s 0 0).toNat : Int) = 48))))))] []) (by kernel_rfl) ?_ ?_
  · exact ⟨(fun _ => trivial), (fun hp => hp), (fun hp => hp), (fun hp2 => (by first | exact hp2 | exact ⟨hp, hp2⟩)), (fun _ => trivial), (fun hp => hp), (fun hp => hp), (fun hp => hp), (fun _ => trivial), (fun hp => by have hq := hp; (try simp only [decide_eq_true_eq, decide_eq_false_iff_not, Bool.and_eq_true, Bool.or_eq_true, Bool.and_eq_false_iff, Bool.or_eq_false_iff, Bool.not_eq_true', Bool.not_eq_false', Bool.not_eq_true, Bool.not_eq_false] at hq); exact ⟨hp, (show (0 : Int) ≤ 0 from (by first | omega | (have hv := val_rng s pos (by omega) (by omega) hD; first | omega | (have hp : (10 : Int) ^ pos ≤ 1000 := pow_le3 (by omega); omega)))), (show (0 : Int) < List.length s from (by first | omega | (have hv := val_rng s pos (by omega) (by omega) hD; first | omega | (have hp : (10 : Int) ^ pos ≤ 1000 := pow_le3 (by omega); omega))))⟩), (fun hp => hp), (fun hp => by have hq := hp; (try simp only [decide_eq_true_eq, decide_eq_false_iff_not, Bool.and_eq_true, Bool.or_eq_true, Bool.and_eq_false_iff, Bool.or_eq_false_iff, Bool.not_eq_true', Bool.not_eq_false', Bool.not_eq_true, Bool.not_eq_false] at hq); exact ⟨hp, (fun hp2 => (by first | exact hp2 | exact ⟨hp, hp2⟩))⟩), (fun hp2 => (by first | exact hp2 | exact ⟨hp, hp2⟩))⟩
  refine AMx.cond (b := (((decide (s = [])) || (decide (3 < (List.length s : Int)))) || ((decide (1 < (List.length s : Int))) && (decide (((List.getD s 0 0).toNat : Int) = 48))))) (by kernel_rfl) (fun hc1 => ?_) (fun hc1 => ?_)
  · try simp only [decide_eq_true_eq, decide_eq_false_iff_not, Bool.and_eq_true, Bool.and_eq_false_iff, Bool.or_eq_true, Bool.or_eq_false_iff] at hc1
    refine AMx.seq ?_
    refine AMx.region (ces := []) (ks := [2]) (hs := []) (cs := []) (s' := AS.lst 41 [(2, vc (i6 (-1)))] []) (by kernel_rfl) ?_ ?_
    · exact trivial
    refine AMx.ret ?_
    exact RetP.mk (r := vc (i6 (-1))) (by kernel_rfl) (by rw [show scanN s = (-1) from by first | rw [scan_size (by grind)] | rw [scan_not (pos := pos) (by omega) (by omega)] | rw [scan_fin (by grind) (by omega) hD]])
  · try simp only [decide_eq_true_eq, decide_eq_false_iff_not, Bool.and_eq_true, Bool.and_eq_false_iff, Bool.or_eq_true, Bool.or_eq_false_iff] at hc1
    refine AMx.skip ?_
    refine AMx.seq ?_
    refine AMx.region (ces := []) (ks := [0, 3]) (hs := []) (cs := []) (s' := AS.lst 41 [(0, vc (st s)), (3, vc (i6 0))] []) (by kernel_rfl) ?_ ?_
    · exact trivial
    refine AMx.seq ?_
    refine AMx.seq ?_
    refine AMx.region (ces := []) (ks := [3, 24]) (hs := [24]) (cs := []) (s' := AS.lst 41 [(3, vc (i6 0)), (24, vp 24 0)] [(24, AObj.iter s 0)]) (by kernel_rfl) ?_ ?_
    · exact trivial
    refine AMx.block ?_
    refine AMx.ent (s' := AS.lst 41 [(3, vc (i6 0)), (24, vp 24 0)] [(24, AObj.iter s 0)]) (ent_proj [3, 24] [24]) ?_
    refine AMx.loop (fun mm ss => ∃ (pos : Nat), (pos ≤ s.length ∧ (List.take pos s).all digB = true) ∧ mm = s.length - pos ∧ ss = AS.lst 41 [(3, vc (i6 (valS (List.take pos s)))), (24, vp 24 0)] [(24, AObj.iter s pos)]) ⟨0, ?_, rfl, ?_⟩ ?_
    · exact ⟨Nat.zero_le _, rfl⟩
    · rfl
    rintro mm ss ⟨pos, ⟨hI, hD⟩, rfl, rfl⟩
    refine AMx.seq ?_
    rcases Nat.lt_or_ge pos (List.length s) with hn1 | hn1
    · have hd1 := AL.Rune.dec_ok hn1
      refine AMx.region (ces := [(0, CE.str [])]) (ks := [3, 24, 25, 26]) (hs := [24]) (cs := [pos < List.length s, ((pos : Nat) : Int) ≤ 9223372036854775807]) (s' := AS.lst 41 [(3, vc (i6 (valS (List.take pos s)))), (24, vp 24 0), (25, AV.tup [tc (bo true), tc (i6 (pos : Int)), tc (i3 ((decS s pos).1 : Int))]), (26, vc (bo true))] [(24, AObj.iter s (pos + (decS s pos).2))]) (by kernel_rfl) ?_ ?_
      · exact ⟨(show pos < List.length s from (by first | omega | (have hv := val_rng s pos (by omega) (by omega) hD; first | omega | (have hp : (10 : Int) ^ pos ≤ 1000 := pow_le3 (by omega); omega)))), (show ((pos : Nat) : Int) ≤ 9223372036854775807 from (by first | omega | (have hv := val_rng s pos (by omega) (by omega) hD; first | omega | (have hp : (10 : Int) ^ pos ≤ 1000 := pow_le3 (by omega); omega))))⟩
      refine AMx.seq ?_
      refine AMx.cond (b := true) (by kernel_rfl) (fun hc2 => ?_) (fun hc2 => ?_)
      · skip
        refine AMx.skip ?_
        refine AMx.block ?_
        refine AMx.seq ?_
        refine AMx.region (ces := []) (ks := [3, 5, 24]) (hs := [24]) (cs := []) (s' := AS.lst 41 [(3, vc (i6 (valS (List.take pos s)))), (5, vc (i3 ((decS s pos).1 : Int))), (24, vp 24 0)] [(24, AObj.iter s (pos + (decS s pos).2))]) (by kernel_rfl) ?_ ?_
        · exact trivial
        refine AMx.seq ?_
        refine AMx.seq ?_
        refine AMx.region (ces := []) (ks := [3, 5, 24, 33]) (hs := [24]) (cs := [((decide (((decS s pos).1 : Int) < 48)) = false) → allP [], ((decide (((decS s pos).1 : Int) < 48)) = false) → allP [(decide (((decS s pos).1 : Int) < 48)) = false], (decide (((decS s pos).1 : Int) < 48)) = false → allP [(decide (((decS s pos).1 : Int) < 48)) = false]]) (s' := AS.lst 41 [(3, vc (i6 (valS (List.take pos s)))), (5, vc (i3 ((decS s pos).1 : Int))), (24, vp 24 0), (33, vc (bo ((decide (((decS s pos).1 : Int) < 48)) || (decide (57 < ((decS s pos).1 : Int))))))] [(24, AObj.iter s (pos + (decS s pos).2))]) (by kernel_rfl) ?_ ?_
        · exact ⟨(fun _ => trivial), (fun hp => hp), (fun hp2 => (by first | exact hp2 | exact ⟨hp, hp2⟩))⟩
        refine AMx.cond (b := ((decide (((decS s pos).1 : Int) < 48)) || (decide (57 < ((decS s pos).1 : Int))))) (by kernel_rfl) (fun hc3 => ?_) (fun hc3 => ?_)
        · try simp only [decide_eq_true_eq, decide_eq_false_iff_not, Bool.or_eq_true, Bool.or_eq_false_iff] at hc3
          refine AMx.seq ?_
          refine AMx.region (ces := []) (ks := [2]) (hs := []) (cs := []) (s' := AS.lst 41 [(2, vc (i6 (-1)))] []) (by kernel_rfl) ?_ ?_
          · exact trivial
          refine AMx.ret ?_
          exact RetP.mk (r := vc (i6 (-1))) (by kernel_rfl) (by rw [show scanN s = (-1) from by first | rw [scan_size (by grind)] | rw [scan_not (pos := pos) (by omega) (by omega)] | rw [scan_fin (by grind) (by omega) hD]])
        · try simp only [decide_eq_true_eq, decide_eq_false_iff_not, Bool.or_eq_true, Bool.or_eq_false_iff] at hc3
          refine AMx.skip ?_
          refine AMx.region (ces := []) (ks := [3, 24]) (hs := [24]) (cs := [InR .i64 (10 * (valS (List.take pos s))), InR .i32 (((decS s pos).1 : Int) - 48), InR .i64 ((10 * (valS (List.take pos s))) + (((decS s pos).1 : Int) - 48))]) (s' := AS.lst 41 [(3, vc (i6 ((10 * (valS (List.take pos s))) + (((decS s pos).1 : Int) - 48)))), (24, vp 24 0)] [(24, AObj.iter s (pos + (decS s pos).2))]) (by kernel_rfl) ?_ ?_
          · exact ⟨(show InR .i64 (10 * (valS (List.take pos s))) from (inR64 (by first | omega | (have hv := val_rng s pos (by omega) (by omega) hD; first | omega | (have hp : (10 : Int) ^ pos ≤ 1000 := pow_le3 (by omega); omega))) (by first | omega | (have hv := val_rng s pos (by omega) (by omega) hD; first | omega | (have hp : (10 : Int) ^ pos ≤ 1000 := pow_le3 (by omega); omega))))), (show InR .i32 (((decS s pos).1 : Int) - 48) from (by simp [inR64_iff, inR8_iff, inRu64_iff, inR32_iff]; omega)), (show InR .i64 ((10 * (valS (List.take pos s))) + (((decS s pos).1 : Int) - 48)) from (inR64 (by first | omega | (have hv := val_rng s pos (by omega) (by omega) hD; first | omega | (have hp : (10 : Int) ^ pos ≤ 1000 := pow_le3 (by omega); omega))) (by first | omega | (have hv := val_rng s pos (by omega) (by omega) hD; first | omega | (have hp : (10 : Int) ^ pos ≤ 1000 := pow_le3 (by omega); omega)))))⟩
          refine AMx.blk ?_
          refine AMx.ent_inv (s' := AS.lst 41 [(3, vc (i6 ((10 * (valS (List.take pos s))) + (((decS s pos).1 : Int) - 48)))), (24, vp 24 0)] [(24, AObj.iter s (pos + (decS s pos).2))]) (ent_proj [3, 24] [24]) ?_
          refine AMx.inv ⟨_, ?_, pos + (decS s pos).2, ?_, rfl, ?_⟩
          rotate_left
          · exact ⟨by omega, dig_dec (by omega) hD (by omega)⟩
          · rw [← val_dec (by omega) (by omega)]
          · omega
      · skip
        cases hc2
    · skip
      refine AMx.region (ces := []) (ks := [3, 24, 25, 26]) (hs := [24]) (cs := [List.length s ≤ pos]) (s' := AS.lst 41 [(3, vc (i6 (valS (List.take pos s)))), (24, vp 24 0), (25, AV.tup [tc (bo false)]), (26, vc (bo false))] [(24, AObj.iter s pos)]) (by kernel_rfl) ?_ ?_
      · exact (show List.length s ≤ pos from (by first | omega | (have hv := val_rng s pos (by omega) (by omega) hD; first | omega | (have hp : (10 : Int) ^ pos ≤ 1000 := pow_le3 (by omega); omega))))
      refine AMx.seq ?_
      refine AMx.cond (b := false) (by kernel_rfl) (fun hc4 => ?_) (fun hc4 => ?_)
      · skip
        cases hc4
      · skip
        refine AMx.exit ?_
        refine AMx.code_exit ?_
        refine AMx.inv_exit ?_
        refine AMx.blk_exit ?_
        refine AMx.seq ?_
        refine AMx.region (ces := []) (ks := [2]) (hs := []) (cs := []) (s' := AS.lst 41 [(2, vc (i6 (valS (List.take pos s))))] []) (by kernel_rfl) ?_ ?_
        · exact trivial
        refine AMx.ret ?_
        exact RetP.mk (r := vc (i6 (valS (List.take pos s)))) (by kernel_rfl) (by rw [show scanN s = valS (List.take pos s) from by first | rw [scan_size (by grind)] | rw [scan_not (pos := pos) (by omega) (by omega)] | rw [scan_fin (by grind) (by omega) hD]])

theorem f43_body : Tryd.f43.body = some (.seq (.region 0 (rg Tryd.f43 0) false) (.seq (.region 1 (rg Tryd.f43 1) false) (.seq (.seq (.region 2 (rg Tryd.f43 2) false) (.block 0 (.loop (.seq (.region 3 (rg Tryd.f43 3) false) (.seq (.cond (.tmp 12) (.skip) (.exit 0)) (.seq (.block 1 (.seq (.region 4 (rg Tryd.f43 4) false) (.region 5 (rg Tryd.f43 5) false))) (.region 6 (rg Tryd.f43 6) false))))))) (.seq (.region 7 (rg Tryd.f43 7) false) (.ret))))) := by kernel_rfl

set_option maxRecDepth 100000 in
set_option maxHeartbeats 8000000 in
theorem list_c (l : List Int) (hn : ∀ n ∈ l, 0 ≤ n ∧ n ≤ 999) (hl : l.length ≤ 1000) : Pure Tryd.prog 43 [tc (AL.Fnv.slI l)] (vc (st (listS l))) := by
  refine Pure.of_body Tryd.func43 f43_body (by kernel_rfl) Tryd.ntmps43 (by kernel_rfl) (by kernel_rfl) ?_
  refine AMx.seq ?_
  refine AMx.region (ces := []) (ks := [0]) (hs := []) (cs := []) (s' := AS.lst 24 [(0, vc (AL.Fnv.slI l))] []) (by kernel_rfl) ?_ ?_
  · exact trivial
  refine AMx.seq ?_
  refine AMx.region (ces := [(2, CE.obj (AObj.grow 9 1 Bytes [] AL.Fnv.rowS (List.replicate (List.length l) [])))]) (ks := [0, 3]) (hs := [8]) (cs := [0 ≤ (List.length l : Int), (List.length l : Int) ≤ (List.length l : Int), (16 : Int) * (List.length l : Int) ≤ 281474976710656, (List.length l : Int) ≤ 9223372036854775807, MakeC (List.length l) [.s (st [])] (AObj.grow 9 1 Bytes [] AL.Fnv.rowS (List.replicate (List.length l) []))]) (s' := AS.lst 24 [(0, vc (AL.Fnv.slI l)), (3, vo 8)] [(8, AObj.grow 9 1 Bytes [] AL.Fnv.rowS (List.replicate (List.length l) []))]) (by kernel_rfl) ?_ ?_
  · exact ⟨(show 0 ≤ (List.length l : Int) from (by first | omega | exact (hn _ (Lib.getD_mem 0 l k (by omega))).1 | exact (hn _ (Lib.getD_mem 0 l k (by omega))).2 | (have hz := list_len l; omega) | ((try simp only [List.length_append, List.length_cons, List.length_nil, List.length_replicate, List.length_map, List.length_take, List.length_drop, hex_len]); omega))), (show (List.length l : Int) ≤ (List.length l : Int) from (by first | omega | exact (hn _ (Lib.getD_mem 0 l k (by omega))).1 | exact (hn _ (Lib.getD_mem 0 l k (by omega))).2 | (have hz := list_len l; omega) | ((try simp only [List.length_append, List.length_cons, List.length_nil, List.length_replicate, List.length_map, List.length_take, List.length_drop, hex_len]); omega))), (show (16 : Int) * (List.length l : Int) ≤ 281474976710656 from (by first | omega | exact (hn _ (Lib.getD_mem 0 l k (by omega))).1 | exact (hn _ (Lib.getD_mem 0 l k (by omega))).2 | (have hz := list_len l; omega) | ((try simp only [List.length_append, List.length_cons, List.length_nil, List.length_replicate, List.length_map, List.length_take, List.length_drop, hex_len]); omega))), (show (List.length l : Int) ≤ 9223372036854775807 from (by first | omega | exact (hn _ (Lib.getD_mem 0 l k (by omega))).1 | exact (hn _ (Lib.getD_mem 0 l k (by omega))).2 | (have hz := list_len l; omega) | ((try simp only [List.length_append, List.length_cons, List.length_nil, List.length_replicate, List.length_map, List.length_take, List.length_drop, hex_len]); omega))), (⟨_, rfl, rfl⟩)⟩
  refine AMx.seq ?_
  refine AMx.seq ?_
  refine AMx.region (ces := []) (ks := [3, 9, 10, 11]) (hs := [8]) (cs := []) (s' := AS.lst 24 [(3, vo 8), (9, vc (AL.Fnv.slI l)), (10, vc (i6 (List.length l : Int))), (11, vc (i6 0))] [(8, AObj.grow 9 1 Bytes [] AL.Fnv.rowS (List.replicate (List.length l) []))]) (by kernel_rfl) ?_ ?_
  · exact trivial
  refine AMx.block ?_
  refine AMx.ent (s' := AS.lst 24 [(3, vo 8), (9, vc (AL.Fnv.slI l)), (10, vc (i6 (List.length l : Int))), (11, vc (i6 0))] [(8, AObj.grow 9 1 Bytes [] AL.Fnv.rowS (List.replicate (List.length l) []))]) (ent_proj [3, 9, 10, 11] [8]) ?_
  refine AMx.loop (fun mm ss => ∃ (k : Nat), (k ≤ l.length) ∧ mm = l.length - k ∧ ss = AS.lst 24 [(3, vo 8), (9, vc (AL.Fnv.slI l)), (10, vc (i6 (List.length l : Int))), (11, vc (i6 (k : Int)))] [(8, AObj.grow 9 1 Bytes [] AL.Fnv.rowS ((List.take k l).map numS ++ List.replicate (l.length - k) []))]) ⟨0, ?_, rfl, ?_⟩ ?_
  · omega
  · rfl
  rintro mm ss ⟨k, hI, rfl, rfl⟩
  refine AMx.seq ?_
  refine AMx.region (ces := []) (ks := [3, 9, 10, 11, 12]) (hs := [8]) (cs := []) (s' := AS.lst 24 [(3, vo 8), (9, vc (AL.Fnv.slI l)), (10, vc (i6 (List.length l : Int))), (11, vc (i6 (k : Int))), (12, vc (bo (decide ((k : Int) < (List.length l : Int)))))] [(8, AObj.grow 9 1 Bytes [] AL.Fnv.rowS ((List.take k l).map numS ++ List.replicate (l.length - k) []))]) (by kernel_rfl) ?_ ?_
  · exact trivial
  refine AMx.seq ?_
  refine AMx.cond (b := decide ((k : Int) < (List.length l : Int))) (by kernel_rfl) (fun hc1 => ?_) (fun hc1 => ?_)
  · try simp only [decide_eq_true_eq, decide_eq_false_iff_not] at hc1
    refine AMx.skip ?_
    refine AMx.seq ?_
    refine AMx.block ?_
    refine AMx.seq ?_
    refine AMx.region (ces := []) (ks := [3, 4, 5, 9, 10, 11]) (hs := [8]) (cs := [(0 : Int) ≤ (k : Int), (k : Int) < List.length l]) (s' := AS.lst 24 [(3, vo 8), (4, vc (i6 (k : Int))), (5, vc (i6 (List.getD l k 0))), (9, vc (AL.Fnv.slI l)), (10, vc (i6 (List.length l : Int))), (11, vc (i6 (k : Int)))] [(8, AObj.grow 9 1 Bytes [] AL.Fnv.rowS ((List.take k l).map numS ++ List.replicate (l.length - k) []))]) (by kernel_rfl) ?_ ?_
    · exact ⟨(show (0 : Int) ≤ (k : Int) from (by first | omega | exact (hn _ (Lib.getD_mem 0 l k (by omega))).1 | exact (hn _ (Lib.getD_mem 0 l k (by omega))).2 | (have hz := list_len l; omega) | ((try simp only [List.length_append, List.length_cons, List.length_nil, List.length_replicate, List.length_map, List.length_take, List.length_drop, hex_len]); omega))), (show (k : Int) < List.length l from (by first | omega | exact (hn _ (Lib.getD_mem 0 l k (by omega))).1 | exact (hn _ (Lib.getD_mem 0 l k (by omega))).2 | (have hz := list_len l; omega) | ((try simp only [List.length_append, List.length_cons, List.length_nil, List.length_replicate, List.length_map, List.length_take, List.length_drop, hex_len]); omega)))⟩
    refine AMx.region (ces := [(3, CE.call [] [] (vc (st (numS (List.getD l k 0)))) []), (5, CE.obj (AObj.grow 9 1 Bytes [] AL.Fnv.rowS (List.set ((List.take k l).map numS ++ List.replicate (l.length - k) []) k (numS (List.getD l k 0)))))]) (ks := [3, 9, 10, 11]) (hs := [8]) (cs := [Spec Tryd.prog 41 [tc (i6 (List.getD l k 0))] (ofH []) (vc (st (numS (List.getD l k 0)))) (ofH []), (0 : Int) ≤ (k : Int), (k : Int) < List.length ((List.take k l).map numS ++ List.replicate (l.length - k) [] : List Bytes), StoreC k 0 [.s (st (numS (List.getD l k 0)))] (AObj.grow 9 1 Bytes [] AL.Fnv.rowS ((List.take k l).map numS ++ List.replicate (l.length - k) [])) (AObj.grow 9 1 Bytes [] AL.Fnv.rowS (List.set ((List.take k l).map numS ++ List.replicate (l.length - k) []) k (numS (List.getD l k 0))))]) (s' := AS.lst 24 [(3, vo 8), (9, vc (AL.Fnv.slI l)), (10, vc (i6 (List.length l : Int))), (11, vc (i6 (k : Int)))] [(8, AObj.grow 9 1 Bytes [] AL.Fnv.rowS (List.set ((List.take k l).map numS ++ List.replicate (l.length - k) []) k (numS (List.getD l k 0))))]) (by kernel_rfl) ?_ ?_
    · exact ⟨(number_c (List.getD l k 0) (by first | omega | exact (hn _ (Lib.getD_mem 0 l k (by omega))).1 | exact (hn _ (Lib.getD_mem 0 l k (by omega))).2 | (have hz := list_len l; omega) | ((try simp only [List.length_append, List.length_cons, List.length_nil, List.length_replicate, List.length_map, List.length_take, List.length_drop, hex_len]); omega)) (by first | omega | exact (hn _ (Lib.getD_mem 0 l k (by omega))).1 | exact (hn _ (Lib.getD_mem 0 l k (by omega))).2 | (have hz := list_len l; omega) | ((try simp only [List.length_append, List.length_cons, List.length_nil, List.length_replicate, List.length_map, List.length_take, List.length_drop, hex_len]); omega))), (show (0 : Int) ≤ (k : Int) from (by first | omega | exact (hn _ (Lib.getD_mem 0 l k (by omega))).1 | exact (hn _ (Lib.getD_mem 0 l k (by omega))).2 | (have hz := list_len l; omega) | ((try simp only [List.length_append, List.length_cons, List.length_nil, List.length_replicate, List.length_map, List.length_take, List.length_drop, hex_len]); omega))), (show (k : Int) < List.length ((List.take k l).map numS ++ List.replicate (l.length - k) [] : List Bytes) from (by first | omega | exact (hn _ (Lib.getD_mem 0 l k (by omega))).1 | exact (hn _ (Lib.getD_mem 0 l k (by omega))).2 | (have hz := list_len l; omega) | ((try simp only [List.length_append, List.length_cons, List.length_nil, List.length_replicate, List.length_map, List.length_take, List.length_drop, hex_len]); omega))), (⟨numS (List.getD l k 0), rfl, by first | omega | exact (hn _ (Lib.getD_mem 0 l k (by omega))).1 | exact (hn _ (Lib.getD_mem 0 l k (by omega))).2 | (have hz := list_len l; omega) | ((try simp only [List.length_append, List.length_cons, List.length_nil, List.length_replicate, List.length_map, List.length_take, List.length_drop, hex_len]); omega), rfl⟩)⟩
    refine AMx.blk ?_
    refine AMx.region (ces := []) (ks := [3, 9, 10, 11]) (hs := [8]) (cs := [InR .i64 ((k : Int) + 1)]) (s' := AS.lst 24 [(3, vo 8), (9, vc (AL.Fnv.slI l)), (10, vc (i6 (List.length l : Int))), (11, vc (i6 ((k : Int) + 1)))] [(8, AObj.grow 9 1 Bytes [] AL.Fnv.rowS (List.set ((List.take k l).map numS ++ List.replicate (l.length - k) []) k (numS (List.getD l k 0))))]) (by kernel_rfl) ?_ ?_
    · exact (show InR .i64 ((k : Int) + 1) from (inR64 (by first | omega | exact (hn _ (Lib.getD_mem 0 l k (by omega))).1 | exact (hn _ (Lib.getD_mem 0 l k (by omega))).2 | (have hz := list_len l; omega) | ((try simp only [List.length_append, List.length_cons, List.length_nil, List.length_replicate, List.length_map, List.length_take, List.length_drop, hex_len]); omega)) (by first | omega | exact (hn _ (Lib.getD_mem 0 l k (by omega))).1 | exact (hn _ (Lib.getD_mem 0 l k (by omega))).2 | (have hz := list_len l; omega) | ((try simp only [List.length_append, List.length_cons, List.length_nil, List.length_replicate, List.length_map, List.length_take, List.length_drop, hex_len]); omega))))
    refine AMx.ent_inv (s' := AS.lst 24 [(3, vo 8), (9, vc (AL.Fnv.slI l)), (10, vc (i6 (List.length l : Int))), (11, vc (i6 ((k : Int) + 1)))] [(8, AObj.grow 9 1 Bytes [] AL.Fnv.rowS (List.set ((List.take k l).map numS ++ List.replicate (l.length - k) []) k (numS (List.getD l k 0))))]) (ent_proj [3, 9, 10, 11] [8]) ?_
    refine AMx.inv ⟨_, ?_, k + 1, ?_, rfl, ?_⟩
    rotate_left
    · omega
    · rw [← nums_step l k (by omega)]; rfl
    · omega
  · try simp only [decide_eq_true_eq, decide_eq_false_iff_not] at hc1
    refine AMx.exit ?_
    refine AMx.code_exit ?_
    refine AMx.inv_exit ?_
    refine AMx.blk_exit ?_
    rw [show (List.take k l).map numS ++ List.replicate (l.length - k) [] = l.map numS from nums_end l k (by omega)]
    refine AMx.seq ?_
    refine AMx.region (ces := [(1, CE.call [8] [] (vc (st (AL.Sep.joinC 44 (l.map numS)))) [])]) (ks := [2]) (hs := []) (cs := [Spec Tryd.prog 55 [tc (AL.Fnv.slS (l.map numS)), tc (st [44])] (ofH []) (vc (st (AL.Sep.joinC 44 (l.map numS)))) (ofH [])]) (s' := AS.lst 24 [(2, vc (st (AL.Sep.joinC 44 (l.map numS))))] []) (by kernel_rfl) ?_ ?_
    · exact (AL.Sep.Join_c 44 (l.map numS) (by first | omega | exact (hn _ (Lib.getD_mem 0 l k (by omega))).1 | exact (hn _ (Lib.getD_mem 0 l k (by omega))).2 | (have hz := list_len l; omega) | ((try simp only [List.length_append, List.length_cons, List.length_nil, List.length_replicate, List.length_map, List.length_take, List.length_drop, hex_len]); omega)))
    refine AMx.ret ?_
    exact RetP.mk (r := vc (st (AL.Sep.joinC 44 (l.map numS)))) (by kernel_rfl) rfl

end AL.Ask
