/- under: the contracts of its functions, by their walks. No condition. -/
import Derived.Test.YtmocbbealcdakaaUnderA
namespace AL.Under
open Go Go.Proofs AL AL.Fnv
set_option linter.unusedVariables false
set_option linter.unusedSimpArgs false

theorem f30_body : Try.f30.body = some (.seq (.region 0 (rg Try.f30 0) false) (.seq (.seq (.region 1 (rg Try.f30 1) false) (.cond (.tmp 10) (.seq (.region 2 (rg Try.f30 2) false) (.ret)) (.skip))) (.seq (.seq (.region 3 (rg Try.f30 3) false) (.block 0 (.loop (.seq (.seq (.region 4 (rg Try.f30 4) false) (.cond (.tmp 14) (.skip) (.exit 0))) (.seq (.block 1 (.seq (.region 6 (rg Try.f30 6) true) (.cond (.tmp 23) (.seq (.region 7 (rg Try.f30 7) false) (.ret)) (.skip)))) (.region 5 (rg Try.f30 5) false)))))) (.seq (.region 8 (rg Try.f30 8) false) (.ret))))) := by kernel_rfl

set_option maxRecDepth 100000 in
set_option maxHeartbeats 8000000 in
theorem RBegins_c (s t : Bytes) : Pure Try.prog 30 [tc (st s), tc (st t)] (vc (bo (hasP s t))) := by
  refine Pure.of_body Try.func30 f30_body (by kernel_rfl) Try.ntmps30 (by kernel_rfl) (by kernel_rfl) ?_
  refine AMx.str 0 (b := s) rfl (fun hls => ?_)
  simp only [maxLen] at hls
  refine AMx.str 1 (b := t) rfl (fun hlt => ?_)
  simp only [maxLen] at hlt
  refine AMx.seq ?_
  refine AMx.region (ces := []) (ks := [0, 1]) (hs := []) (cs := []) (s' := AS.lst 24 [(0, vc (st s)), (1, vc (st t))] []) (by kernel_rfl) ?_ ?_
  · exact trivial
  refine AMx.seq ?_
  refine AMx.seq ?_
  refine AMx.region (ces := []) (ks := [0, 1, 10]) (hs := []) (cs := []) (s' := AS.lst 24 [(0, vc (st s)), (1, vc (st t)), (10, vc (bo (decide ((List.length s : Int) < (List.length t : Int)))))] []) (by kernel_rfl) ?_ ?_
  · exact trivial
  refine AMx.cond (b := decide ((List.length s : Int) < (List.length t : Int))) (by kernel_rfl) (fun hc1 => ?_) (fun hc1 => ?_)
  · try simp only [decide_eq_true_eq, decide_eq_false_iff_not] at hc1
    refine AMx.seq ?_
    refine AMx.region (ces := []) (ks := [4]) (hs := []) (cs := []) (s' := AS.lst 24 [(4, vc (bo false))] []) (by kernel_rfl) ?_ ?_
    · exact trivial
    refine AMx.ret ?_
    exact RetP.mk (r := vc (bo false)) (by kernel_rfl) (by first | rw [hasP_long (by omega)] | rw [hasP_ne (i := k) (by omega) (by assumption)])
  · try simp only [decide_eq_true_eq, decide_eq_false_iff_not] at hc1
    refine AMx.skip ?_
    refine AMx.seq ?_
    refine AMx.seq ?_
    refine AMx.region (ces := []) (ks := [0, 1, 5]) (hs := []) (cs := []) (s' := AS.lst 24 [(0, vc (st s)), (1, vc (st t)), (5, vc (i6 0))] []) (by kernel_rfl) ?_ ?_
    · exact trivial
    refine AMx.block ?_
    refine AMx.ent (s' := AS.lst 24 [(0, vc (st s)), (1, vc (st t)), (5, vc (i6 0))] []) (ent_proj [0, 1, 5] []) ?_
    refine AMx.loop (fun mm ss => ∃ (k : Nat), (k ≤ t.length ∧ t.length ≤ s.length ∧ List.take k s = List.take k t) ∧ mm = t.length - k ∧ ss = AS.lst 24 [(0, vc (st s)), (1, vc (st t)), (5, vc (i6 (k : Int)))] []) ⟨0, ?_, rfl, ?_⟩ ?_
    · exact ⟨by omega, by omega, rfl⟩
    · rfl
    rintro mm ss ⟨k, ⟨hI, hS, hE⟩, rfl, rfl⟩
    refine AMx.seq ?_
    refine AMx.seq ?_
    refine AMx.region (ces := []) (ks := [0, 1, 5, 14]) (hs := []) (cs := []) (s' := AS.lst 24 [(0, vc (st s)), (1, vc (st t)), (5, vc (i6 (k : Int))), (14, vc (bo (decide ((k : Int) < (List.length t : Int)))))] []) (by kernel_rfl) ?_ ?_
    · exact trivial
    refine AMx.cond (b := decide ((k : Int) < (List.length t : Int))) (by kernel_rfl) (fun hc2 => ?_) (fun hc2 => ?_)
    · try simp only [decide_eq_true_eq, decide_eq_false_iff_not] at hc2
      refine AMx.skip ?_
      refine AMx.seq ?_
      refine AMx.block ?_
      refine AMx.seq ?_
      refine AMx.region_draw (ces := []) (ros := []) (ks := [0, 1, 5, 23]) (hs := []) (cs := [(0 : Int) ≤ (k : Int), (k : Int) < List.length s, (0 : Int) ≤ (k : Int), (k : Int) < List.length t]) (s' := AS.lst 24 [(0, vc (st s)), (1, vc (st t)), (5, vc (i6 (k : Int))), (23, vc (bo (!decide (((List.getD s k 0).toNat : Int) = ((List.getD t k 0).toNat : Int)))))] []) mixed (by kernel_rfl) ?_ ?_
      · exact ⟨(show (0 : Int) ≤ (k : Int) from (by omega)), (show (k : Int) < List.length s from (by omega)), (show (0 : Int) ≤ (k : Int) from (by omega)), (show (k : Int) < List.length t from (by omega))⟩
      refine AMx.cond (b := !decide (((List.getD s k 0).toNat : Int) = ((List.getD t k 0).toNat : Int))) (by kernel_rfl) (fun hc3 => ?_) (fun hc3 => ?_)
      · try simp only [decide_eq_true_eq, decide_eq_false_iff_not, Bool.not_eq_true', Bool.not_eq_false'] at hc3
        refine AMx.seq ?_
        refine AMx.region (ces := []) (ks := [4]) (hs := []) (cs := []) (s' := AS.lst 24 [(4, vc (bo false))] []) (by kernel_rfl) ?_ ?_
        · exact trivial
        refine AMx.ret ?_
        exact RetP.mk (r := vc (bo false)) (by kernel_rfl) (by first | rw [hasP_long (by omega)] | rw [hasP_ne (i := k) (by omega) (by assumption)])
      · try simp only [decide_eq_true_eq, decide_eq_false_iff_not, Bool.not_eq_true', Bool.not_eq_false'] at hc3
        refine AMx.skip ?_
        refine AMx.blk ?_
        refine AMx.region (ces := []) (ks := [0, 1, 5]) (hs := []) (cs := [InR .i64 ((k : Int) + 1)]) (s' := AS.lst 24 [(0, vc (st s)), (1, vc (st t)), (5, vc (i6 ((k : Int) + 1)))] []) (by kernel_rfl) ?_ ?_
        · exact (show InR .i64 ((k : Int) + 1) from (inR64 (by omega) (by omega)))
        refine AMx.ent_inv (s' := AS.lst 24 [(0, vc (st s)), (1, vc (st t)), (5, vc (i6 ((k : Int) + 1)))] []) (ent_proj [0, 1, 5] []) ?_
        refine AMx.inv ⟨_, ?_, k + 1, ?_, rfl, ?_⟩
        rotate_left
        · exact ⟨by omega, by omega, take_byte (by omega) (by omega) hE (by assumption)⟩
        · rfl
        · omega
    · try simp only [decide_eq_true_eq, decide_eq_false_iff_not] at hc2
      refine AMx.exit ?_
      refine AMx.code_exit ?_
      refine AMx.inv_exit ?_
      refine AMx.blk_exit ?_
      refine AMx.seq ?_
      refine AMx.region (ces := []) (ks := [4]) (hs := []) (cs := []) (s' := AS.lst 24 [(4, vc (bo true))] []) (by kernel_rfl) ?_ ?_
      · exact trivial
      refine AMx.ret ?_
      exact RetP.mk (r := vc (bo true)) (by kernel_rfl) (by rw [hasP_end (by omega) hS hE])

theorem f12_body : Try.f12.body = some (.seq (.region 0 (rg Try.f12 0) false) (.seq (.region 1 (rg Try.f12 1) false) (.ret))) := by kernel_rfl

set_option maxRecDepth 100000 in
set_option maxHeartbeats 8000000 in
theorem RWithin_c (s top : Bytes) (hb : top.length ≤ 100000) : Pure Try.prog 12 [tc (st s), tc (st top)] (vc (bo (withinS s top))) := by
  refine Pure.of_body Try.func12 f12_body (by kernel_rfl) Try.ntmps12 (by kernel_rfl) (by kernel_rfl) ?_
  refine AMx.seq ?_
  refine AMx.region (ces := []) (ks := [0, 1]) (hs := []) (cs := []) (s' := AS.lst 18 [(0, vc (st s)), (1, vc (st top))] []) (by kernel_rfl) ?_ ?_
  · exact trivial
  refine AMx.seq ?_
  refine AMx.region (ces := [(11, CE.call [] [] (vc (bo (hasP s (top ++ [47])))) [])]) (ks := [4]) (hs := []) (cs := [((decide (top = [])) = false) → allP [], ((decide (top = [])) = false) → allP [], ((decide (top = [])) = false) → allP [(decide (top = [])) = false, (decide (top = [])) = false], (decide (top = [])) = false → allP [(decide (top = [])) = false], (((decide (top = [])) || (decide (s = top))) = false) → allP [], (((decide (top = [])) || (decide (s = top))) = false) → allP [], (((decide (top = [])) || (decide (s = top))) = false) → allP [((decide (top = [])) || (decide (s = top))) = false, List.length top + List.length ([47] : List UInt8) ≤ maxLen], (((decide (top = [])) || (decide (s = top))) = false) → allP [((decide (top = [])) || (decide (s = top))) = false, ((decide (top = [])) || (decide (s = top))) = false, Spec Try.prog 30 [tc (st s), tc (st (top ++ [47]))] (ofH []) (vc (bo (hasP s (top ++ [47])))) (ofH [])], ((decide (top = [])) || (decide (s = top))) = false → allP [((decide (top = [])) || (decide (s = top))) = false]]) (s' := AS.lst 18 [(4, vc (bo (((decide (top = [])) || (decide (s = top))) || (hasP s (top ++ [47])))))] []) (by kernel_rfl) ?_ ?_
  · exact ⟨(fun _ => trivial), (fun _ => trivial), (fun hp => ⟨hp, hp⟩), (fun hp2 => (by first | exact hp2 | exact ⟨hp, hp2⟩)), (fun _ => trivial), (fun _ => trivial), (fun hp => by have hq := hp; (try simp only [decide_eq_true_eq, decide_eq_false_iff_not, Bool.and_eq_true, Bool.or_eq_true, Bool.and_eq_false_iff, Bool.or_eq_false_iff, Bool.not_eq_true', Bool.not_eq_false', Bool.not_eq_true, Bool.not_eq_false] at hq); exact ⟨hp, (show List.length top + List.length ([47] : List UInt8) ≤ maxLen from (by simp only [List.length_append, List.length_cons, List.length_nil, maxLen]; omega))⟩), (fun hp => by have hq := hp; (try simp only [decide_eq_true_eq, decide_eq_false_iff_not, Bool.and_eq_true, Bool.or_eq_true, Bool.and_eq_false_iff, Bool.or_eq_false_iff, Bool.not_eq_true', Bool.not_eq_false', Bool.not_eq_true, Bool.not_eq_false] at hq); exact ⟨hp, hp, (RBegins_c s (top ++ [47]))⟩), (fun hp2 => (by first | exact hp2 | exact ⟨hp, hp2⟩))⟩
  refine AMx.ret ?_
  exact RetP.mk (r := vc (bo (((decide (top = [])) || (decide (s = top))) || (hasP s (top ++ [47]))))) (by kernel_rfl) (by rw [within_ref])

theorem f14_body : Try.f14.body = some (.seq (.region 0 (rg Try.f14 0) false) (.seq (.region 1 (rg Try.f14 1) false) (.ret))) := by kernel_rfl

set_option maxRecDepth 100000 in
set_option maxHeartbeats 8000000 in
theorem RBelow_c (s top : Bytes) (hb : top.length ≤ 100000) : Pure Try.prog 14 [tc (st s), tc (st top)] (vc (bo (belowS s top))) := by
  refine Pure.of_body Try.func14 f14_body (by kernel_rfl) Try.ntmps14 (by kernel_rfl) (by kernel_rfl) ?_
  refine AMx.seq ?_
  refine AMx.region (ces := []) (ks := [0, 1]) (hs := []) (cs := []) (s' := AS.lst 13 [(0, vc (st s)), (1, vc (st top))] []) (by kernel_rfl) ?_ ?_
  · exact trivial
  refine AMx.seq ?_
  refine AMx.region (ces := [(2, CE.call [] [] (vc (bo (withinS s top))) [])]) (ks := [4]) (hs := []) (cs := [Spec Try.prog 12 [tc (st s), tc (st top)] (ofH []) (vc (bo (withinS s top))) (ofH []), ((withinS s top) = true) → allP [], ((withinS s top) = true) → allP [], ((withinS s top) = true) → allP [(withinS s top) = true, (withinS s top) = true], (withinS s top) = true → allP [(withinS s top) = true]]) (s' := AS.lst 13 [(4, vc (bo ((withinS s top) && (!decide (s = top)))))] []) (by kernel_rfl) ?_ ?_
  · exact ⟨(RWithin_c s top (by first | omega | decide | exact getD_len hb _ (by omega) | (simp only [List.length_take, List.length_cons, List.length_nil]; omega))), (fun _ => trivial), (fun _ => trivial), (fun hp => ⟨hp, hp⟩), (fun hp2 => (by first | exact hp2 | exact ⟨hp, hp2⟩))⟩
  refine AMx.ret ?_
  exact RetP.mk (r := vc (bo ((withinS s top) && (!decide (s = top))))) (by kernel_rfl) (by rw [below_ref])

theorem f16_body : Try.f16.body = some (.seq (.region 0 (rg Try.f16 0) false) (.seq (.region 1 (rg Try.f16 1) false) (.seq (.seq (.region 2 (rg Try.f16 2) false) (.block 0 (.loop (.seq (.seq (.region 3 (rg Try.f16 3) false) (.cond (.tmp 8) (.skip) (.exit 0))) (.seq (.block 1 (.seq (.region 5 (rg Try.f16 5) false) (.cond (.tmp 14) (.region 6 (rg Try.f16 6) false) (.skip)))) (.region 4 (rg Try.f16 4) false)))))) (.seq (.region 7 (rg Try.f16 7) false) (.ret))))) := by kernel_rfl

set_option maxRecDepth 100000 in
set_option maxHeartbeats 8000000 in
theorem RParent_c (s : Bytes) : Pure Try.prog 16 [tc (st s)] (vc (st (parentS s))) := by
  refine Pure.of_body Try.func16 f16_body (by kernel_rfl) Try.ntmps16 (by kernel_rfl) (by kernel_rfl) ?_
  refine AMx.str 0 (b := s) rfl (fun hl => ?_)
  simp only [maxLen] at hl
  refine AMx.seq ?_
  refine AMx.region (ces := []) (ks := [0]) (hs := []) (cs := []) (s' := AS.lst 19 [(0, vc (st s))] []) (by kernel_rfl) ?_ ?_
  · exact trivial
  refine AMx.seq ?_
  refine AMx.region (ces := []) (ks := [0, 3]) (hs := []) (cs := []) (s' := AS.lst 19 [(0, vc (st s)), (3, vc (st []))] []) (by kernel_rfl) ?_ ?_
  · exact trivial
  refine AMx.seq ?_
  refine AMx.seq ?_
  refine AMx.region (ces := []) (ks := [0, 3, 4]) (hs := []) (cs := []) (s' := AS.lst 19 [(0, vc (st s)), (3, vc (st [])), (4, vc (i6 0))] []) (by kernel_rfl) ?_ ?_
  · exact trivial
  refine AMx.block ?_
  refine AMx.ent (s' := AS.lst 19 [(0, vc (st s)), (3, vc (st [])), (4, vc (i6 0))] []) (ent_proj [0, 3, 4] []) ?_
  refine AMx.loop (fun mm ss => ∃ (k : Nat), (k ≤ s.length) ∧ mm = s.length - k ∧ ss = AS.lst 19 [(0, vc (st s)), (3, vc (st (parentS (List.take k s)))), (4, vc (i6 (k : Int)))] []) ⟨0, ?_, rfl, ?_⟩ ?_
  · omega
  · rfl
  rintro mm ss ⟨k, hI, rfl, rfl⟩
  refine AMx.seq ?_
  refine AMx.seq ?_
  refine AMx.region (ces := []) (ks := [0, 3, 4, 8]) (hs := []) (cs := []) (s' := AS.lst 19 [(0, vc (st s)), (3, vc (st (parentS (List.take k s)))), (4, vc (i6 (k : Int))), (8, vc (bo (decide ((k : Int) < (List.length s : Int)))))] []) (by kernel_rfl) ?_ ?_
  · exact trivial
  refine AMx.cond (b := decide ((k : Int) < (List.length s : Int))) (by kernel_rfl) (fun hc1 => ?_) (fun hc1 => ?_)
  · try simp only [decide_eq_true_eq, decide_eq_false_iff_not] at hc1
    refine AMx.skip ?_
    refine AMx.seq ?_
    refine AMx.block ?_
    refine AMx.seq ?_
    refine AMx.region (ces := []) (ks := [0, 3, 4, 14]) (hs := []) (cs := [(0 : Int) ≤ (k : Int), (k : Int) < List.length s]) (s' := AS.lst 19 [(0, vc (st s)), (3, vc (st (parentS (List.take k s)))), (4, vc (i6 (k : Int))), (14, vc (bo (decide (((List.getD s k 0).toNat : Int) = 47))))] []) (by kernel_rfl) ?_ ?_
    · exact ⟨(show (0 : Int) ≤ (k : Int) from (by omega)), (show (k : Int) < List.length s from (by omega))⟩
    refine AMx.cond (b := decide (((List.getD s k 0).toNat : Int) = 47)) (by kernel_rfl) (fun hc2 => ?_) (fun hc2 => ?_)
    · try simp only [decide_eq_true_eq, decide_eq_false_iff_not] at hc2
      refine AMx.region (ces := []) (ks := [0, 3, 4]) (hs := []) (cs := [0 ≤ (k : Int), (k : Int) ≤ List.length s]) (s' := AS.lst 19 [(0, vc (st s)), (3, vc (st (List.take k s))), (4, vc (i6 (k : Int)))] []) (by kernel_rfl) ?_ ?_
      · exact ⟨(show 0 ≤ (k : Int) from (by omega)), (show (k : Int) ≤ List.length s from (by omega))⟩
      refine AMx.blk ?_
      refine AMx.region (ces := []) (ks := [0, 3, 4]) (hs := []) (cs := [InR .i64 ((k : Int) + 1)]) (s' := AS.lst 19 [(0, vc (st s)), (3, vc (st (List.take k s))), (4, vc (i6 ((k : Int) + 1)))] []) (by kernel_rfl) ?_ ?_
      · exact (show InR .i64 ((k : Int) + 1) from (inR64 (by omega) (by omega)))
      refine AMx.ent_inv (s' := AS.lst 19 [(0, vc (st s)), (3, vc (st (List.take k s))), (4, vc (i6 ((k : Int) + 1)))] []) (ent_proj [0, 3, 4] []) ?_
      refine AMx.inv ⟨_, ?_, k + 1, ?_, rfl, ?_⟩
      rotate_left
      · omega
      · rw [parent_t s k (by omega) (byte47.1 (by assumption))]; rfl
      · omega
    · try simp only [decide_eq_true_eq, decide_eq_false_iff_not] at hc2
      refine AMx.skip ?_
      refine AMx.blk ?_
      refine AMx.region (ces := []) (ks := [0, 3, 4]) (hs := []) (cs := [InR .i64 ((k : Int) + 1)]) (s' := AS.lst 19 [(0, vc (st s)), (3, vc (st (parentS (List.take k s)))), (4, vc (i6 ((k : Int) + 1)))] []) (by kernel_rfl) ?_ ?_
      · exact (show InR .i64 ((k : Int) + 1) from (inR64 (by omega) (by omega)))
      refine AMx.ent_inv (s' := AS.lst 19 [(0, vc (st s)), (3, vc (st (parentS (List.take k s)))), (4, vc (i6 ((k : Int) + 1)))] []) (ent_proj [0, 3, 4] []) ?_
      refine AMx.inv ⟨_, ?_, k + 1, ?_, rfl, ?_⟩
      rotate_left
      · omega
      · rw [parent_f s k (by omega) (fun h => hc2 (byte47.2 h))]; rfl
      · omega
  · try simp only [decide_eq_true_eq, decide_eq_false_iff_not] at hc1
    refine AMx.exit ?_
    refine AMx.code_exit ?_
    refine AMx.inv_exit ?_
    refine AMx.blk_exit ?_
    refine AMx.seq ?_
    refine AMx.region (ces := []) (ks := [2]) (hs := []) (cs := []) (s' := AS.lst 19 [(2, vc (st (parentS (List.take k s))))] []) (by kernel_rfl) ?_ ?_
    · exact trivial
    refine AMx.ret ?_
    exact RetP.mk (r := vc (st (parentS (List.take k s)))) (by kernel_rfl) (by rw [List.take_of_length_le (by omega)])

theorem f10_body : Try.f10.body = some (.seq (.region 0 (rg Try.f10 0) false) (.seq (.seq (.region 1 (rg Try.f10 1) false) (.cond (.tmp 11) (.seq (.region 2 (rg Try.f10 2) false) (.ret)) (.skip))) (.seq (.region 3 (rg Try.f10 3) false) (.seq (.seq (.region 4 (rg Try.f10 4) false) (.cond (.tmp 14) (.region 5 (rg Try.f10 5) false) (.skip))) (.seq (.seq (.region 6 (rg Try.f10 6) false) (.block 0 (.loop (.seq (.seq (.region 7 (rg Try.f10 7) false) (.cond (.tmp 23) (.skip) (.exit 0))) (.seq (.block 1 (.seq (.region 9 (rg Try.f10 9) false) (.cond (.tmp 29) (.seq (.region 10 (rg Try.f10 10) false) (.ret)) (.skip)))) (.region 8 (rg Try.f10 8) false)))))) (.seq (.region 11 (rg Try.f10 11) false) (.ret))))))) := by kernel_rfl

set_option maxRecDepth 100000 in
set_option maxHeartbeats 8000000 in
theorem RChild_c (s top : Bytes) (hb : s.length ≤ 100000) (ht : top.length ≤ 100000) : Pure Try.prog 10 [tc (st s), tc (st top)] (AV.tup [tc (st ((childS s top).1)), tc (bo ((childS s top).2))]) := by
  refine Pure.of_body Try.func10 f10_body (by kernel_rfl) Try.ntmps10 (by kernel_rfl) (by kernel_rfl) ?_
  refine AMx.seq ?_
  refine AMx.region (ces := []) (ks := [0, 1]) (hs := []) (cs := []) (s' := AS.lst 35 [(0, vc (st s)), (1, vc (st top))] []) (by kernel_rfl) ?_ ?_
  · exact trivial
  refine AMx.seq ?_
  refine AMx.seq ?_
  refine AMx.region (ces := [(2, CE.call [] [] (vc (bo (belowS s top))) [])]) (ks := [0, 1, 11]) (hs := []) (cs := [Spec Try.prog 14 [tc (st s), tc (st top)] (ofH []) (vc (bo (belowS s top))) (ofH [])]) (s' := AS.lst 35 [(0, vc (st s)), (1, vc (st top)), (11, vc (bo (!(belowS s top))))] []) (by kernel_rfl) ?_ ?_
  · exact (RBelow_c s top (by first | omega | decide | exact getD_len hb _ (by omega) | (simp only [List.length_take, List.length_cons, List.length_nil]; omega)))
  refine AMx.cond (b := !(belowS s top)) (by kernel_rfl) (fun hc1 => ?_) (fun hc1 => ?_)
  · try simp only [decide_eq_true_eq, decide_eq_false_iff_not, Bool.not_eq_true', Bool.not_eq_false'] at hc1
    refine AMx.seq ?_
    refine AMx.region (ces := []) (ks := [4, 5]) (hs := []) (cs := []) (s' := AS.lst 35 [(4, vc (st [])), (5, vc (bo false))] []) (by kernel_rfl) ?_ ?_
    · exact trivial
    refine AMx.ret ?_
    exact RetP.mk (r := AV.tup [tc (st []), tc (bo false)]) (by kernel_rfl) (by rw [show childS s top = ([], false) from child_none hc1])
  · try simp only [decide_eq_true_eq, decide_eq_false_iff_not, Bool.not_eq_true', Bool.not_eq_false'] at hc1
    refine AMx.skip ?_
    refine AMx.seq ?_
    refine AMx.region (ces := []) (ks := [0, 1, 6]) (hs := []) (cs := []) (s' := AS.lst 35 [(0, vc (st s)), (1, vc (st top)), (6, vc (st s))] []) (by kernel_rfl) ?_ ?_
    · exact trivial
    refine AMx.seq ?_
    refine AMx.seq ?_
    refine AMx.region (ces := []) (ks := [0, 1, 6, 14]) (hs := []) (cs := []) (s' := AS.lst 35 [(0, vc (st s)), (1, vc (st top)), (6, vc (st s)), (14, vc (bo (!decide (top = []))))] []) (by kernel_rfl) ?_ ?_
    · exact trivial
    refine AMx.cond (b := !decide (top = [])) (by kernel_rfl) (fun hc2 => ?_) (fun hc2 => ?_)
    · try simp only [decide_eq_true_eq, decide_eq_false_iff_not, Bool.not_eq_true', Bool.not_eq_false'] at hc2
      refine AMx.region (ces := []) (ks := [6]) (hs := []) (cs := [InR .i64 ((List.length top : Int) + 1), 0 ≤ (List.length top : Int) + 1, (List.length top : Int) + 1 ≤ List.length s]) (s' := AS.lst 35 [(6, vc (st (List.drop ((List.length top) + 1) s)))] []) (by kernel_rfl) ?_ ?_
      · exact ⟨(show InR .i64 ((List.length top : Int) + 1) from (inR64 (by first | omega | (have h3 := below_len hc1 hc2; omega) | (have h3 := rest_len s top; omega)) (by first | omega | (have h3 := below_len hc1 hc2; omega) | (have h3 := rest_len s top; omega)))), (show 0 ≤ (List.length top : Int) + 1 from (by first | omega | (have h3 := below_len hc1 hc2; omega) | (have h3 := rest_len s top; omega))), (show (List.length top : Int) + 1 ≤ List.length s from (by first | omega | (have h3 := below_len hc1 hc2; omega) | (have h3 := rest_len s top; omega)))⟩
      refine AMx.seq ?_
      refine AMx.seq ?_
      refine AMx.region (ces := []) (ks := [6, 7]) (hs := []) (cs := []) (s' := AS.lst 35 [(6, vc (st (List.drop ((List.length top) + 1) s))), (7, vc (i6 0))] []) (by kernel_rfl) ?_ ?_
      · exact trivial
      refine AMx.block ?_
      refine AMx.ent (s' := AS.lst 35 [(6, vc (st (List.drop ((List.length top) + 1) s))), (7, vc (i6 0))] []) (ent_proj [6, 7] []) ?_
      refine AMx.loop (fun mm ss => ∃ (i : Nat), (i ≤ (restS s top).1.length ∧ ∀ x ∈ List.take i (restS s top).1, x ≠ 47) ∧ mm = (restS s top).1.length - i ∧ ss = AS.lst 35 [(6, vc (st ((restS s top).1))), (7, vc (i6 (i : Int)))] []) ⟨0, ?_, rfl, ?_⟩ ?_
      · exact ⟨by omega, fun x hx => by simp at hx⟩
      · first | (rw [rest_one hc1, if_pos hc2]; rfl) | (rw [rest_one hc1, if_neg hc2]; rfl)
      rintro mm ss ⟨i, ⟨hI, hN⟩, rfl, rfl⟩
      refine AMx.seq ?_
      refine AMx.seq ?_
      refine AMx.region (ces := []) (ks := [6, 7, 23]) (hs := []) (cs := []) (s' := AS.lst 35 [(6, vc (st ((restS s top).1))), (7, vc (i6 (i : Int))), (23, vc (bo (decide ((i : Int) < (List.length ((restS s top).1 : List UInt8) : Int)))))] []) (by kernel_rfl) ?_ ?_
      · exact trivial
      refine AMx.cond (b := decide ((i : Int) < (List.length ((restS s top).1 : List UInt8) : Int))) (by kernel_rfl) (fun hc3 => ?_) (fun hc3 => ?_)
      · try simp only [decide_eq_true_eq, decide_eq_false_iff_not] at hc3
        refine AMx.skip ?_
        refine AMx.seq ?_
        refine AMx.block ?_
        refine AMx.seq ?_
        refine AMx.region (ces := []) (ks := [6, 7, 29]) (hs := []) (cs := [(0 : Int) ≤ (i : Int), (i : Int) < List.length ((restS s top).1 : List UInt8)]) (s' := AS.lst 35 [(6, vc (st ((restS s top).1))), (7, vc (i6 (i : Int))), (29, vc (bo (decide (((List.getD ((restS s top).1) i 0).toNat : Int) = 47))))] []) (by kernel_rfl) ?_ ?_
        · exact ⟨(show (0 : Int) ≤ (i : Int) from (by first | omega | (have h3 := below_len hc1 hc2; omega) | (have h3 := rest_len s top; omega))), (show (i : Int) < List.length ((restS s top).1 : List UInt8) from (by first | omega | (have h3 := below_len hc1 hc2; omega) | (have h3 := rest_len s top; omega)))⟩
        refine AMx.cond (b := decide (((List.getD ((restS s top).1) i 0).toNat : Int) = 47)) (by kernel_rfl) (fun hc4 => ?_) (fun hc4 => ?_)
        · try simp only [decide_eq_true_eq, decide_eq_false_iff_not] at hc4
          refine AMx.seq ?_
          refine AMx.region (ces := []) (ks := [4, 5]) (hs := []) (cs := [InR .i64 ((i : Int) + 1), 0 ≤ (i : Int) + 1, (i : Int) + 1 ≤ List.length ((restS s top).1 : List UInt8)]) (s' := AS.lst 35 [(4, vc (st (List.take (i + 1) ((restS s top).1)))), (5, vc (bo true))] []) (by kernel_rfl) ?_ ?_
          · exact ⟨(show InR .i64 ((i : Int) + 1) from (inR64 (by first | omega | (have h3 := below_len hc1 hc2; omega) | (have h3 := rest_len s top; omega)) (by first | omega | (have h3 := below_len hc1 hc2; omega) | (have h3 := rest_len s top; omega)))), (show 0 ≤ (i : Int) + 1 from (by first | omega | (have h3 := below_len hc1 hc2; omega) | (have h3 := rest_len s top; omega))), (show (i : Int) + 1 ≤ List.length ((restS s top).1 : List UInt8) from (by first | omega | (have h3 := below_len hc1 hc2; omega) | (have h3 := rest_len s top; omega)))⟩
          refine AMx.ret ?_
          exact RetP.mk (r := AV.tup [tc (st (List.take (i + 1) ((restS s top).1))), tc (bo true)]) (by kernel_rfl) (by rw [show childS s top = (List.take (i + 1) ((restS s top).1), true) from by rw [child_some hc1, first_at i (by omega) hN (byte47.1 (by assumption))]])
        · try simp only [decide_eq_true_eq, decide_eq_false_iff_not] at hc4
          refine AMx.skip ?_
          refine AMx.blk ?_
          refine AMx.region (ces := []) (ks := [6, 7]) (hs := []) (cs := [InR .i64 ((i : Int) + 1)]) (s' := AS.lst 35 [(6, vc (st ((restS s top).1))), (7, vc (i6 ((i : Int) + 1)))] []) (by kernel_rfl) ?_ ?_
          · exact (show InR .i64 ((i : Int) + 1) from (inR64 (by first | omega | (have h3 := below_len hc1 hc2; omega) | (have h3 := rest_len s top; omega)) (by first | omega | (have h3 := below_len hc1 hc2; omega) | (have h3 := rest_len s top; omega))))
          refine AMx.ent_inv (s' := AS.lst 35 [(6, vc (st ((restS s top).1))), (7, vc (i6 ((i : Int) + 1)))] []) (ent_proj [6, 7] []) ?_
          refine AMx.inv ⟨_, ?_, i + 1, ?_, rfl, ?_⟩
          rotate_left
          · exact ⟨by omega, no_step (by omega) hN (by assumption)⟩
          · rfl
          · omega
      · try simp only [decide_eq_true_eq, decide_eq_false_iff_not] at hc3
        refine AMx.exit ?_
        refine AMx.code_exit ?_
        refine AMx.inv_exit ?_
        refine AMx.blk_exit ?_
        refine AMx.seq ?_
        refine AMx.region (ces := []) (ks := [4, 5]) (hs := []) (cs := []) (s' := AS.lst 35 [(4, vc (st ((restS s top).1))), (5, vc (bo true))] []) (by kernel_rfl) ?_ ?_
        · exact trivial
        refine AMx.ret ?_
        exact RetP.mk (r := AV.tup [tc (st ((restS s top).1)), tc (bo true)]) (by kernel_rfl) (by rw [show childS s top = ((restS s top).1, true) from by rw [child_some hc1, first_no (by rwa [List.take_of_length_le (by omega)] at hN)]])
    · try simp only [decide_eq_true_eq, decide_eq_false_iff_not, Bool.not_eq_true', Bool.not_eq_false'] at hc2
      refine AMx.skip ?_
      refine AMx.seq ?_
      refine AMx.seq ?_
      refine AMx.region (ces := []) (ks := [6, 7]) (hs := []) (cs := []) (s' := AS.lst 35 [(6, vc (st s)), (7, vc (i6 0))] []) (by kernel_rfl) ?_ ?_
      · exact trivial
      refine AMx.block ?_
      refine AMx.ent (s' := AS.lst 35 [(6, vc (st s)), (7, vc (i6 0))] []) (ent_proj [6, 7] []) ?_
      refine AMx.loop (fun mm ss => ∃ (i : Nat), (i ≤ (restS s top).1.length ∧ ∀ x ∈ List.take i (restS s top).1, x ≠ 47) ∧ mm = (restS s top).1.length - i ∧ ss = AS.lst 35 [(6, vc (st ((restS s top).1))), (7, vc (i6 (i : Int)))] []) ⟨0, ?_, rfl, ?_⟩ ?_
      · exact ⟨by omega, fun x hx => by simp at hx⟩
      · first | (rw [rest_one hc1, if_pos hc2]; rfl) | (rw [rest_one hc1, if_neg hc2]; rfl)
      rintro mm ss ⟨i, ⟨hI, hN⟩, rfl, rfl⟩
      refine AMx.seq ?_
      refine AMx.seq ?_
      refine AMx.region (ces := []) (ks := [6, 7, 23]) (hs := []) (cs := []) (s' := AS.lst 35 [(6, vc (st ((restS s top).1))), (7, vc (i6 (i : Int))), (23, vc (bo (decide ((i : Int) < (List.length ((restS s top).1 : List UInt8) : Int)))))] []) (by kernel_rfl) ?_ ?_
      · exact trivial
      refine AMx.cond (b := decide ((i : Int) < (List.length ((restS s top).1 : List UInt8) : Int))) (by kernel_rfl) (fun hc5 => ?_) (fun hc5 => ?_)
      · try simp only [decide_eq_true_eq, decide_eq_false_iff_not] at hc5
        refine AMx.skip ?_
        refine AMx.seq ?_
        refine AMx.block ?_
        refine AMx.seq ?_
        refine AMx.region (ces := []) (ks := [6, 7, 29]) (hs := []) (cs := [(0 : Int) ≤ (i : Int), (i : Int) < List.length ((restS s top).1 : List UInt8)]) (s' := AS.lst 35 [(6, vc (st ((restS s top).1))), (7, vc (i6 (i : Int))), (29, vc (bo (decide (((List.getD ((restS s top).1) i 0).toNat : Int) = 47))))] []) (by kernel_rfl) ?_ ?_
        · exact ⟨(show (0 : Int) ≤ (i : Int) from (by first | omega | (have h3 := below_len hc1 hc2; omega) | (have h3 := rest_len s top; omega))), (show (i : Int) < List.length ((restS s top).1 : List UInt8) from (by first | omega | (have h3 := below_len hc1 hc2; omega) | (have h3 := rest_len s top; omega)))⟩
        refine AMx.cond (b := decide (((List.getD ((restS s top).1) i 0).toNat : Int) = 47)) (by kernel_rfl) (fun hc6 => ?_) (fun hc6 => ?_)
        · try simp only [decide_eq_true_eq, decide_eq_false_iff_not] at hc6
          refine AMx.seq ?_
          refine AMx.region (ces := []) (ks := [4, 5]) (hs := []) (cs := [InR .i64 ((i : Int) + 1), 0 ≤ (i : Int) + 1, (i : Int) + 1 ≤ List.length ((restS s top).1 : List UInt8)]) (s' := AS.lst 35 [(4, vc (st (List.take (i + 1) ((restS s top).1)))), (5, vc (bo true))] []) (by kernel_rfl) ?_ ?_
          · exact ⟨(show InR .i64 ((i : Int) + 1) from (inR64 (by first | omega | (have h3 := below_len hc1 hc2; omega) | (have h3 := rest_len s top; omega)) (by first | omega | (have h3 := below_len hc1 hc2; omega) | (have h3 := rest_len s top; omega)))), (show 0 ≤ (i : Int) + 1 from (by first | omega | (have h3 := below_len hc1 hc2; omega) | (have h3 := rest_len s top; omega))), (show (i : Int) + 1 ≤ List.length ((restS s top).1 : List UInt8) from (by first | omega | (have h3 := below_len hc1 hc2; omega) | (have h3 := rest_len s top; omega)))⟩
          refine AMx.ret ?_
          exact RetP.mk (r := AV.tup [tc (st (List.take (i + 1) ((restS s top).1))), tc (bo true)]) (by kernel_rfl) (by rw [show childS s top = (List.take (i + 1) ((restS s top).1), true) from by rw [child_some hc1, first_at i (by omega) hN (byte47.1 (by assumption))]])
        · try simp only [decide_eq_true_eq, decide_eq_false_iff_not] at hc6
          refine AMx.skip ?_
          refine AMx.blk ?_
          refine AMx.region (ces := []) (ks := [6, 7]) (hs := []) (cs := [InR .i64 ((i : Int) + 1)]) (s' := AS.lst 35 [(6, vc (st ((restS s top).1))), (7, vc (i6 ((i : Int) + 1)))] []) (by kernel_rfl) ?_ ?_
          · exact (show InR .i64 ((i : Int) + 1) from (inR64 (by first | omega | (have h3 := below_len hc1 hc2; omega) | (have h3 := rest_len s top; omega)) (by first | omega | (have h3 := below_len hc1 hc2; omega) | (have h3 := rest_len s top; omega))))
          refine AMx.ent_inv (s' := AS.lst 35 [(6, vc (st ((restS s top).1))), (7, vc (i6 ((i : Int) + 1)))] []) (ent_proj [6, 7] []) ?_
          refine AMx.inv ⟨_, ?_, i + 1, ?_, rfl, ?_⟩
          rotate_left
          · exact ⟨by omega, no_step (by omega) hN (by assumption)⟩
          · rfl
          · omega
      · try simp only [decide_eq_true_eq, decide_eq_false_iff_not] at hc5
        refine AMx.exit ?_
        refine AMx.code_exit ?_
        refine AMx.inv_exit ?_
        refine AMx.blk_exit ?_
        refine AMx.seq ?_
        refine AMx.region (ces := []) (ks := [4, 5]) (hs := []) (cs := []) (s' := AS.lst 35 [(4, vc (st ((restS s top).1))), (5, vc (bo true))] []) (by kernel_rfl) ?_ ?_
        · exact trivial
        refine AMx.ret ?_
        exact RetP.mk (r := AV.tup [tc (st ((restS s top).1)), tc (bo true)]) (by kernel_rfl) (by rw [show childS s top = ((restS s top).1, true) from by rw [child_some hc1, first_no (by rwa [List.take_of_length_le (by omega)] at hN)]])

theorem f34_body : Try.f34.body = some (.seq (.region 0 (rg Try.f34 0) false) (.seq (.region 1 (rg Try.f34 1) false) (.seq (.block 0 (.loop (.seq (.seq (.region 2 (rg Try.f34 2) false) (.cond (.tmp 18) (.skip) (.exit 0))) (.block 1 (.region 3 (rg Try.f34 3) false))))) (.seq (.seq (.region 4 (rg Try.f34 4) false) (.cond (.tmp 32) (.seq (.region 5 (rg Try.f34 5) false) (.ret)) (.skip))) (.seq (.region 6 (rg Try.f34 6) false) (.seq (.region 7 (rg Try.f34 7) false) (.ret))))))) := by kernel_rfl

set_option maxRecDepth 100000 in
set_option maxHeartbeats 8000000 in
theorem RInto_c (l : List Bytes) (s : Bytes) (hb : l.length ≤ 100000) : Pure Try.prog 34 [tc (slS l), tc (st s)] (vc (slS (intoS l s))) := by
  refine Pure.of_body Try.func34 f34_body (by kernel_rfl) Try.ntmps34 (by kernel_rfl) (by kernel_rfl) ?_
  refine AMx.seq ?_
  refine AMx.region (ces := []) (ks := [0, 1]) (hs := []) (cs := []) (s' := AS.lst 47 [(0, vc (slS l)), (1, vc (st s))] []) (by kernel_rfl) ?_ ?_
  · exact trivial
  refine AMx.seq ?_
  refine AMx.region (ces := []) (ks := [0, 1, 5]) (hs := []) (cs := []) (s' := AS.lst 47 [(0, vc (slS l)), (1, vc (st s)), (5, vc (i6 0))] []) (by kernel_rfl) ?_ ?_
  · exact trivial
  refine AMx.seq ?_
  refine AMx.block ?_
  refine AMx.ent (s' := AS.lst 47 [(0, vc (slS l)), (1, vc (st s)), (5, vc (i6 0))] []) (ent_proj [0, 1, 5] []) ?_
  refine AMx.loop (fun mm ss => ∃ (k : Nat), (k ≤ l.length ∧ ∀ y ∈ List.take k l, Op.bytesLess y s = true) ∧ mm = l.length - k ∧ ss = AS.lst 47 [(0, vc (slS l)), (1, vc (st s)), (5, vc (i6 (k : Int)))] []) ⟨0, ?_, rfl, ?_⟩ ?_
  · exact ⟨by omega, fun x hx => by simp at hx⟩
  · rfl
  rintro mm ss ⟨k, ⟨hI, hN⟩, rfl, rfl⟩
  refine AMx.seq ?_
  refine AMx.seq ?_
  refine AMx.region (ces := []) (ks := [0, 1, 5, 18]) (hs := []) (cs := [((decide ((k : Int) < (List.length l : Int))) = true) → allP [], ((decide ((k : Int) < (List.length l : Int))) = true) → allP [], ((decide ((k : Int) < (List.length l : Int))) = true) → allP [(decide ((k : Int) < (List.length l : Int))) = true, (decide ((k : Int) < (List.length l : Int))) = true, (0 : Int) ≤ (k : Int), (k : Int) < List.length l], ((decide ((k : Int) < (List.length l : Int))) = true) → allP [(decide ((k : Int) < (List.length l : Int))) = true], ((decide ((k : Int) < (List.length l : Int))) = true) → allP [], ((decide ((k : Int) < (List.length l : Int))) = true) → allP [(decide ((k : Int) < (List.length l : Int))) = true, (decide ((k : Int) < (List.length l : Int))) = true], (decide ((k : Int) < (List.length l : Int))) = true → allP [(decide ((k : Int) < (List.length l : Int))) = true]]) (s' := AS.lst 47 [(0, vc (slS l)), (1, vc (st s)), (5, vc (i6 (k : Int))), (18, vc (bo ((decide ((k : Int) < (List.length l : Int))) && (Op.bytesLess (List.getD l k []) s))))] []) (by kernel_rfl) ?_ ?_
  · exact ⟨(fun _ => trivial), (fun _ => trivial), (fun hp => by have hq := hp; (try simp only [decide_eq_true_eq, decide_eq_false_iff_not, Bool.and_eq_true, Bool.or_eq_true, Bool.and_eq_false_iff, Bool.or_eq_false_iff, Bool.not_eq_true', Bool.not_eq_false', Bool.not_eq_true, Bool.not_eq_false] at hq); exact ⟨hp, hp, (show (0 : Int) ≤ (k : Int) from (by omega)), (show (k : Int) < List.length l from (by omega))⟩), (fun hp => hp), (fun _ => trivial), (fun hp => ⟨hp, hp⟩), (fun hp2 => (by first | exact hp2 | exact ⟨hp, hp2⟩))⟩
  refine AMx.cond (b := ((decide ((k : Int) < (List.length l : Int))) && (Op.bytesLess (List.getD l k []) s))) (by kernel_rfl) (fun hc1 => ?_) (fun hc1 => ?_)
  · try simp only [decide_eq_true_eq, decide_eq_false_iff_not, Bool.and_eq_true, Bool.and_eq_false_iff] at hc1
    refine AMx.skip ?_
    refine AMx.block ?_
    refine AMx.region (ces := []) (ks := [0, 1, 5]) (hs := []) (cs := [InR .i64 ((k : Int) + 1)]) (s' := AS.lst 47 [(0, vc (slS l)), (1, vc (st s)), (5, vc (i6 ((k : Int) + 1)))] []) (by kernel_rfl) ?_ ?_
    · exact (show InR .i64 ((k : Int) + 1) from (inR64 (by omega) (by omega)))
    refine AMx.blk ?_
    refine AMx.ent_inv (s' := AS.lst 47 [(0, vc (slS l)), (1, vc (st s)), (5, vc (i6 ((k : Int) + 1)))] []) (ent_proj [0, 1, 5] []) ?_
    refine AMx.inv ⟨_, ?_, k + 1, ?_, rfl, ?_⟩
    rotate_left
    · exact ⟨by omega, less_step (by omega) hN hc1.2⟩
    · rfl
    · omega
  · try simp only [decide_eq_true_eq, decide_eq_false_iff_not, Bool.and_eq_true, Bool.and_eq_false_iff] at hc1
    refine AMx.exit ?_
    refine AMx.code_exit ?_
    refine AMx.inv_exit ?_
    refine AMx.blk_exit ?_
    refine AMx.seq ?_
    refine AMx.seq ?_
    refine AMx.region (ces := []) (ks := [0, 1, 5, 32]) (hs := []) (cs := [((decide ((k : Int) < (List.length l : Int))) = true) → allP [], ((decide ((k : Int) < (List.length l : Int))) = true) → allP [], ((decide ((k : Int) < (List.length l : Int))) = true) → allP [(decide ((k : Int) < (List.length l : Int))) = true, (decide ((k : Int) < (List.length l : Int))) = true, (0 : Int) ≤ (k : Int), (k : Int) < List.length l], ((decide ((k : Int) < (List.length l : Int))) = true) → allP [(decide ((k : Int) < (List.length l : Int))) = true], ((decide ((k : Int) < (List.length l : Int))) = true) → allP [], ((decide ((k : Int) < (List.length l : Int))) = true) → allP [(decide ((k : Int) < (List.length l : Int))) = true, (decide ((k : Int) < (List.length l : Int))) = true], (decide ((k : Int) < (List.length l : Int))) = true → allP [(decide ((k : Int) < (List.length l : Int))) = true]]) (s' := AS.lst 47 [(0, vc (slS l)), (1, vc (st s)), (5, vc (i6 (k : Int))), (32, vc (bo ((decide ((k : Int) < (List.length l : Int))) && (decide ((List.getD l k []) = s)))))] []) (by kernel_rfl) ?_ ?_
    · exact ⟨(fun _ => trivial), (fun _ => trivial), (fun hp => by have hq := hp; (try simp only [decide_eq_true_eq, decide_eq_false_iff_not, Bool.and_eq_true, Bool.or_eq_true, Bool.and_eq_false_iff, Bool.or_eq_false_iff, Bool.not_eq_true', Bool.not_eq_false', Bool.not_eq_true, Bool.not_eq_false] at hq); exact ⟨hp, hp, (show (0 : Int) ≤ (k : Int) from (by omega)), (show (k : Int) < List.length l from (by omega))⟩), (fun hp => hp), (fun _ => trivial), (fun hp => ⟨hp, hp⟩), (fun hp2 => (by first | exact hp2 | exact ⟨hp, hp2⟩))⟩
    refine AMx.cond (b := ((decide ((k : Int) < (List.length l : Int))) && (decide ((List.getD l k []) = s)))) (by kernel_rfl) (fun hc2 => ?_) (fun hc2 => ?_)
    · try simp only [decide_eq_true_eq, decide_eq_false_iff_not, Bool.and_eq_true, Bool.and_eq_false_iff] at hc2
      refine AMx.seq ?_
      refine AMx.region (ces := []) (ks := [4]) (hs := []) (cs := []) (s' := AS.lst 47 [(4, vc (slS l))] []) (by kernel_rfl) ?_ ?_
      · exact trivial
      refine AMx.ret ?_
      exact RetP.mk (r := vc (slS l)) (by kernel_rfl) (by rw [into_eq k (by omega) hN (fun hk => by have hq := hc1; simp_all) (by omega) hc2.2])
    · try simp only [decide_eq_true_eq, decide_eq_false_iff_not, Bool.and_eq_true, Bool.and_eq_false_iff] at hc2
      refine AMx.skip ?_
      refine AMx.seq ?_
      refine AMx.region (ces := [(0, CE.obj (AObj.grow 9 1 Bytes [] rowS [])), (4, CE.obj (AObj.grow 9 1 Bytes [] rowS ([] ++ (List.take k l)))), (6, CE.obj (AObj.grow 9 1 Bytes [] rowS [s])), (7, CE.obj (AObj.grow 9 1 Bytes [] rowS (([] ++ (List.take k l)) ++ [s])))]) (ks := [0, 5, 6]) (hs := [41]) (cs := [flat 1 rowS [] = [], List.length ([] : List Bytes) = 0, 0 ≤ (k : Int), (k : Int) ≤ List.length l, AppC (flat 1 rowS (List.take k l)) (List.length (List.take k l : List Bytes)) 16 (AObj.grow 9 1 Bytes [] rowS []) (AObj.grow 9 1 Bytes [] rowS ([] ++ (List.take k l))), flat 1 rowS [s] = [.s (st s)], List.length ([s] : List Bytes) = 1, AppC (flat 1 rowS [s]) (List.length ([s] : List Bytes)) 16 (AObj.grow 9 1 Bytes [] rowS ([] ++ (List.take k l))) (AObj.grow 9 1 Bytes [] rowS (([] ++ (List.take k l)) ++ [s]))]) (s' := AS.lst 47 [(0, vc (slS l)), (5, vc (i6 (k : Int))), (6, vo 41)] [(41, AObj.grow 9 1 Bytes [] rowS (([] ++ (List.take k l)) ++ [s]))]) (by kernel_rfl) ?_ ?_
      · exact ⟨rfl, rfl, (show 0 ≤ (k : Int) from (by omega)), (show (k : Int) ≤ List.length l from (by omega)), (⟨_, rfl, rfl, rfl, by simp only [List.length_append, List.length_take, List.length_drop, List.length_cons, List.length_nil]; omega, by simp only [maxLen, List.length_append, List.length_take, List.length_drop, List.length_cons, List.length_nil]; omega⟩), rfl, rfl, (⟨_, rfl, rfl, rfl, by simp only [List.length_append, List.length_take, List.length_drop, List.length_cons, List.length_nil]; omega, by simp only [maxLen, List.length_append, List.length_take, List.length_drop, List.length_cons, List.length_nil]; omega⟩)⟩
      refine AMx.seq ?_
      refine AMx.region (ces := [(4, CE.obj (AObj.grow 9 1 Bytes [] rowS ((([] ++ (List.take k l)) ++ [s]) ++ (List.drop k l))))]) (ks := [4]) (hs := [46]) (cs := [0 ≤ (k : Int), (k : Int) ≤ List.length l, AppC (flat 1 rowS (List.drop k l)) (List.length (List.drop k l : List Bytes)) 16 (AObj.grow 9 1 Bytes [] rowS (([] ++ (List.take k l)) ++ [s])) (AObj.grow 9 1 Bytes [] rowS ((([] ++ (List.take k l)) ++ [s]) ++ (List.drop k l)))]) (s' := AS.lst 47 [(4, vo 46)] [(46, AObj.grow 9 1 Bytes [] rowS ((([] ++ (List.take k l)) ++ [s]) ++ (List.drop k l)))]) (by kernel_rfl) ?_ ?_
      · exact ⟨(show 0 ≤ (k : Int) from (by omega)), (show (k : Int) ≤ List.length l from (by omega)), (⟨_, rfl, rfl, rfl, by simp only [List.length_append, List.length_take, List.length_drop, List.length_cons, List.length_nil]; omega, by simp only [maxLen, List.length_append, List.length_take, List.length_drop, List.length_cons, List.length_nil]; omega⟩)⟩
      refine AMx.ent (s' := AS.lst 47 [(4, vc (slS ((([] ++ (List.take k l)) ++ [s]) ++ (List.drop k l))))] []) (ent_freeze (id := 46) (T := 9) (by kernel_rfl)) ?_
      refine AMx.ret ?_
      exact RetP.mk (r := vc (slS ((([] ++ (List.take k l)) ++ [s]) ++ (List.drop k l)))) (by kernel_rfl) (by rw [into_ne k (by omega) hN (fun hk => by have hq := hc1; simp_all) (fun h1 h2 => by have hq := hc2; simp_all)]; rfl)

theorem f22_body : Try.f22.body = some (.seq (.region 0 (rg Try.f22 0) false) (.seq (.region 1 (rg Try.f22 1) false) (.seq (.seq (.region 2 (rg Try.f22 2) false) (.block 0 (.loop (.seq (.seq (.region 3 (rg Try.f22 3) false) (.cond (.tmp 12) (.skip) (.exit 0))) (.seq (.block 1 (.seq (.region 5 (rg Try.f22 5) false) (.seq (.region 6 (rg Try.f22 6) false) (.cond (.tmp 24) (.region 7 (rg Try.f22 7) false) (.skip))))) (.region 4 (rg Try.f22 4) false)))))) (.seq (.region 8 (rg Try.f22 8) false) (.ret))))) := by kernel_rfl

set_option maxRecDepth 100000 in
set_option maxHeartbeats 8000000 in
theorem RChildren_c (top : Bytes) (l : List Bytes) (ht : top.length ≤ 100000) (hl : l.length ≤ 1000) (hb : ∀ x ∈ l, x.length ≤ 100000) : Pure Try.prog 22 [tc (st top), tc (slS l)] (vc (slS (childrenS top l))) := by
  refine Pure.of_body Try.func22 f22_body (by kernel_rfl) Try.ntmps22 (by kernel_rfl) (by kernel_rfl) ?_
  refine AMx.seq ?_
  refine AMx.region (ces := []) (ks := [0, 1]) (hs := []) (cs := []) (s' := AS.lst 29 [(0, vc (st top)), (1, vc (slS l))] []) (by kernel_rfl) ?_ ?_
  · exact trivial
  refine AMx.seq ?_
  refine AMx.region (ces := []) (ks := [0, 1, 5]) (hs := []) (cs := []) (s' := AS.lst 29 [(0, vc (st top)), (1, vc (slS l)), (5, vc (SC.nilsl))] []) (by kernel_rfl) ?_ ?_
  · exact trivial
  refine AMx.seq ?_
  refine AMx.seq ?_
  refine AMx.region (ces := []) (ks := [0, 1, 5, 6]) (hs := []) (cs := []) (s' := AS.lst 29 [(0, vc (st top)), (1, vc (slS l)), (5, vc (SC.nilsl)), (6, vc (i6 0))] []) (by kernel_rfl) ?_ ?_
  · exact trivial
  refine AMx.block ?_
  refine AMx.ent (ent_weak 5 (v' := vc (slS [])) (by kernel_rfl) (AV.le_t (TV.le_c AC.le_nil))) ?_
  refine AMx.ent (s' := AS.lst 29 [(0, vc (st top)), (1, vc (slS l)), (5, vc (slS [])), (6, vc (i6 0))] []) (ent_proj [0, 1, 5, 6] []) ?_
  refine AMx.loop (fun mm ss => ∃ (k : Nat), (k ≤ l.length) ∧ mm = l.length - k ∧ ss = AS.lst 29 [(0, vc (st top)), (1, vc (slS l)), (5, vc (slS (childrenS top (List.take k l)))), (6, vc (i6 (k : Int)))] []) ⟨0, ?_, rfl, ?_⟩ ?_
  · omega
  · rfl
  rintro mm ss ⟨k, hI, rfl, rfl⟩
  refine AMx.seq ?_
  refine AMx.seq ?_
  refine AMx.region (ces := []) (ks := [0, 1, 5, 6, 12]) (hs := []) (cs := []) (s' := AS.lst 29 [(0, vc (st top)), (1, vc (slS l)), (5, vc (slS (childrenS top (List.take k l)))), (6, vc (i6 (k : Int))), (12, vc (bo (decide ((k : Int) < (List.length l : Int)))))] []) (by kernel_rfl) ?_ ?_
  · exact trivial
  refine AMx.cond (b := decide ((k : Int) < (List.length l : Int))) (by kernel_rfl) (fun hc1 => ?_) (fun hc1 => ?_)
  · try simp only [decide_eq_true_eq, decide_eq_false_iff_not] at hc1
    refine AMx.skip ?_
    refine AMx.seq ?_
    refine AMx.block ?_
    refine AMx.seq ?_
    refine AMx.region (ces := [(5, CE.call [] [] (AV.tup [tc (st ((childS (List.getD l k []) top).1)), tc (bo ((childS (List.getD l k []) top).2))]) [])]) (ks := [0, 1, 5, 6, 7, 8]) (hs := []) (cs := [(0 : Int) ≤ (k : Int), (k : Int) < List.length l, Spec Try.prog 10 [tc (st (List.getD l k [])), tc (st top)] (ofH []) (AV.tup [tc (st ((childS (List.getD l k []) top).1)), tc (bo ((childS (List.getD l k []) top).2))]) (ofH [])]) (s' := AS.lst 29 [(0, vc (st top)), (1, vc (slS l)), (5, vc (slS (childrenS top (List.take k l)))), (6, vc (i6 (k : Int))), (7, vc (st ((childS (List.getD l k []) top).1))), (8, vc (bo ((childS (List.getD l k []) top).2)))] []) (by kernel_rfl) ?_ ?_
    · exact ⟨(show (0 : Int) ≤ (k : Int) from (by first | omega | assumption | exact getD_len hb _ (by omega))), (show (k : Int) < List.length l from (by first | omega | assumption | exact getD_len hb _ (by omega))), (RChild_c (List.getD l k []) top (by first | omega | decide | exact getD_len hb _ (by omega) | (simp only [List.length_cons, List.length_nil]; omega)) (by first | omega | decide | exact getD_len hb _ (by omega) | (simp only [List.length_take, List.length_cons, List.length_nil]; omega)))⟩
    refine AMx.seq ?_
    refine AMx.region (ces := []) (ks := [0, 1, 5, 6, 7, 24]) (hs := []) (cs := []) (s' := AS.lst 29 [(0, vc (st top)), (1, vc (slS l)), (5, vc (slS (childrenS top (List.take k l)))), (6, vc (i6 (k : Int))), (7, vc (st ((childS (List.getD l k []) top).1))), (24, vc (bo ((childS (List.getD l k []) top).2)))] []) (by kernel_rfl) ?_ ?_
    · exact trivial
    refine AMx.cond (b := (childS (List.getD l k []) top).2) (by kernel_rfl) (fun hc2 => ?_) (fun hc2 => ?_)
    · try simp only [decide_eq_true_eq, decide_eq_false_iff_not] at hc2
      refine AMx.region (ces := [(2, CE.call [] [] (vc (slS (intoS (childrenS top (List.take k l)) ((childS (List.getD l k []) top).1)))) [])]) (ks := [0, 1, 5, 6]) (hs := []) (cs := [Spec Try.prog 34 [tc (slS (childrenS top (List.take k l))), tc (st ((childS (List.getD l k []) top).1))] (ofH []) (vc (slS (intoS (childrenS top (List.take k l)) ((childS (List.getD l k []) top).1)))) (ofH [])]) (s' := AS.lst 29 [(0, vc (st top)), (1, vc (slS l)), (5, vc (slS (intoS (childrenS top (List.take k l)) ((childS (List.getD l k []) top).1)))), (6, vc (i6 (k : Int)))] []) (by kernel_rfl) ?_ ?_
      · exact (RInto_c (childrenS top (List.take k l)) ((childS (List.getD l k []) top).1) (by have hk := children_len top (List.take k l); rw [List.length_take] at hk; omega))
      refine AMx.blk ?_
      refine AMx.region (ces := []) (ks := [0, 1, 5, 6]) (hs := []) (cs := [InR .i64 ((k : Int) + 1)]) (s' := AS.lst 29 [(0, vc (st top)), (1, vc (slS l)), (5, vc (slS (intoS (childrenS top (List.take k l)) ((childS (List.getD l k []) top).1)))), (6, vc (i6 ((k : Int) + 1)))] []) (by kernel_rfl) ?_ ?_
      · exact (show InR .i64 ((k : Int) + 1) from (inR64 (by first | omega | assumption | exact getD_len hb _ (by omega)) (by first | omega | assumption | exact getD_len hb _ (by omega))))
      refine AMx.ent_inv (s' := AS.lst 29 [(0, vc (st top)), (1, vc (slS l)), (5, vc (slS (intoS (childrenS top (List.take k l)) ((childS (List.getD l k []) top).1)))), (6, vc (i6 ((k : Int) + 1)))] []) (ent_proj [0, 1, 5, 6] []) ?_
      refine AMx.inv ⟨_, ?_, k + 1, ?_, rfl, ?_⟩
      rotate_left
      · omega
      · rw [← children_t top l k (by omega) (by assumption)]; rfl
      · omega
    · try simp only [decide_eq_true_eq, decide_eq_false_iff_not] at hc2
      refine AMx.skip ?_
      refine AMx.blk ?_
      refine AMx.region (ces := []) (ks := [0, 1, 5, 6]) (hs := []) (cs := [InR .i64 ((k : Int) + 1)]) (s' := AS.lst 29 [(0, vc (st top)), (1, vc (slS l)), (5, vc (slS (childrenS top (List.take k l)))), (6, vc (i6 ((k : Int) + 1)))] []) (by kernel_rfl) ?_ ?_
      · exact (show InR .i64 ((k : Int) + 1) from (inR64 (by first | omega | assumption | exact getD_len hb _ (by omega)) (by first | omega | assumption | exact getD_len hb _ (by omega))))
      refine AMx.ent_inv (s' := AS.lst 29 [(0, vc (st top)), (1, vc (slS l)), (5, vc (slS (childrenS top (List.take k l)))), (6, vc (i6 ((k : Int) + 1)))] []) (ent_proj [0, 1, 5, 6] []) ?_
      refine AMx.inv ⟨_, ?_, k + 1, ?_, rfl, ?_⟩
      rotate_left
      · omega
      · rw [← children_f top l k (by omega) (by assumption)]; rfl
      · omega
  · try simp only [decide_eq_true_eq, decide_eq_false_iff_not] at hc1
    refine AMx.exit ?_
    refine AMx.code_exit ?_
    refine AMx.inv_exit ?_
    refine AMx.blk_exit ?_
    refine AMx.seq ?_
    refine AMx.region (ces := []) (ks := [4]) (hs := []) (cs := []) (s' := AS.lst 29 [(4, vc (slS (childrenS top (List.take k l))))] []) (by kernel_rfl) ?_ ?_
    · exact trivial
    refine AMx.ret ?_
    exact RetP.mk (r := vc (slS (childrenS top (List.take k l)))) (by kernel_rfl) (by rw [List.take_of_length_le (by omega)])

theorem f18_body : Try.f18.body = some (.seq (.region 0 (rg Try.f18 0) false) (.seq (.seq (.region 1 (rg Try.f18 1) false) (.block 0 (.loop (.seq (.seq (.region 2 (rg Try.f18 2) false) (.cond (.tmp 9) (.skip) (.exit 0))) (.seq (.block 1 (.seq (.region 4 (rg Try.f18 4) false) (.cond (.tmp 23) (.seq (.region 5 (rg Try.f18 5) false) (.ret)) (.skip)))) (.region 3 (rg Try.f18 3) false)))))) (.seq (.region 6 (rg Try.f18 6) false) (.ret)))) := by kernel_rfl

set_option maxRecDepth 100000 in
set_option maxHeartbeats 8000000 in
theorem RCommon_c (a b : Bytes) (hb : a.length ≤ 100000) : Pure Try.prog 18 [tc (st a), tc (st b)] (vc (st (commonS a b))) := by
  refine Pure.of_body Try.func18 f18_body (by kernel_rfl) Try.ntmps18 (by kernel_rfl) (by kernel_rfl) ?_
  refine AMx.seq ?_
  refine AMx.region (ces := []) (ks := [0, 1]) (hs := []) (cs := []) (s' := AS.lst 27 [(0, vc (st a)), (1, vc (st b))] []) (by kernel_rfl) ?_ ?_
  · exact trivial
  refine AMx.seq ?_
  refine AMx.seq ?_
  refine AMx.region (ces := []) (ks := [0, 1, 5]) (hs := []) (cs := []) (s' := AS.lst 27 [(0, vc (st a)), (1, vc (st b)), (5, vc (i6 (List.length a : Int)))] []) (by kernel_rfl) ?_ ?_
  · exact trivial
  refine AMx.block ?_
  refine AMx.ent (s' := AS.lst 27 [(0, vc (st a)), (1, vc (st b)), (5, vc (i6 (List.length a : Int)))] []) (ent_proj [0, 1, 5] []) ?_
  refine AMx.loop (fun mm ss => ∃ (n : Nat), (n ≤ a.length ∧ commonS a b = comm a b n) ∧ mm = 1 + n ∧ ss = AS.lst 27 [(0, vc (st a)), (1, vc (st b)), (5, vc (i6 (n : Int)))] []) ⟨a.length, ?_, rfl, ?_⟩ ?_
  · exact ⟨Nat.le_refl _, rfl⟩
  · rfl
  rintro mm ss ⟨n, ⟨hN, hC⟩, rfl, rfl⟩
  refine AMx.seq ?_
  refine AMx.seq ?_
  refine AMx.region (ces := []) (ks := [0, 1, 5, 9]) (hs := []) (cs := []) (s' := AS.lst 27 [(0, vc (st a)), (1, vc (st b)), (5, vc (i6 (n : Int))), (9, vc (bo (decide (0 < (n : Int)))))] []) (by kernel_rfl) ?_ ?_
  · exact trivial
  refine AMx.cond (b := decide (0 < (n : Int))) (by kernel_rfl) (fun hc1 => ?_) (fun hc1 => ?_)
  · try simp only [decide_eq_true_eq, decide_eq_false_iff_not] at hc1
    refine AMx.skip ?_
    refine AMx.seq ?_
    refine AMx.block ?_
    refine AMx.seq ?_
    refine AMx.region (ces := [(4, CE.call [] [] (vc (bo (withinS a (List.take n a)))) []), (10, CE.call [] [] (vc (bo (withinS b (List.take n a)))) [])]) (ks := [0, 1, 5, 23]) (hs := []) (cs := [0 ≤ (n : Int), (n : Int) ≤ List.length a, Spec Try.prog 12 [tc (st a), tc (st (List.take n a))] (ofH []) (vc (bo (withinS a (List.take n a)))) (ofH []), ((withinS a (List.take n a)) = true) → allP [], ((withinS a (List.take n a)) = true) → allP [], ((withinS a (List.take n a)) = true) → allP [], ((withinS a (List.take n a)) = true) → allP [(withinS a (List.take n a)) = true, (withinS a (List.take n a)) = true, 0 ≤ (n : Int), (n : Int) ≤ List.length a], ((withinS a (List.take n a)) = true) → allP [(withinS a (List.take n a)) = true, (withinS a (List.take n a)) = true, Spec Try.prog 12 [tc (st b), tc (st (List.take n a))] (ofH []) (vc (bo (withinS b (List.take n a)))) (ofH [])], (withinS a (List.take n a)) = true → allP [(withinS a (List.take n a)) = true]]) (s' := AS.lst 27 [(0, vc (st a)), (1, vc (st b)), (5, vc (i6 (n : Int))), (23, vc (bo ((withinS a (List.take n a)) && (withinS b (List.take n a)))))] []) (by kernel_rfl) ?_ ?_
    · exact ⟨(show 0 ≤ (n : Int) from (by first | omega | (simp only [List.length_take]; omega))), (show (n : Int) ≤ List.length a from (by first | omega | (simp only [List.length_take]; omega))), (RWithin_c a (List.take n a) (by first | omega | decide | exact getD_len hb _ (by omega) | (simp only [List.length_take, List.length_cons, List.length_nil]; omega))), (fun _ => trivial), (fun _ => trivial), (fun _ => trivial), (fun hp => by have hq := hp; (try simp only [decide_eq_true_eq, decide_eq_false_iff_not, Bool.and_eq_true, Bool.or_eq_true, Bool.and_eq_false_iff, Bool.or_eq_false_iff, Bool.not_eq_true', Bool.not_eq_false', Bool.not_eq_true, Bool.not_eq_false] at hq); exact ⟨hp, hp, (show 0 ≤ (n : Int) from (by first | omega | (simp only [List.length_take]; omega))), (show (n : Int) ≤ List.length a from (by first | omega | (simp only [List.length_take]; omega)))⟩), (fun hp => by have hq := hp; (try simp only [decide_eq_true_eq, decide_eq_false_iff_not, Bool.and_eq_true, Bool.or_eq_true, Bool.and_eq_false_iff, Bool.or_eq_false_iff, Bool.not_eq_true', Bool.not_eq_false', Bool.not_eq_true, Bool.not_eq_false] at hq); exact ⟨hp, hp, (RWithin_c b (List.take n a) (by first | omega | decide | exact getD_len hb _ (by omega) | (simp only [List.length_take, List.length_cons, List.length_nil]; omega)))⟩), (fun hp2 => (by first | exact hp2 | exact ⟨hp, hp2⟩))⟩
    refine AMx.cond (b := ((withinS a (List.take n a)) && (withinS b (List.take n a)))) (by kernel_rfl) (fun hc2 => ?_) (fun hc2 => ?_)
    · try simp only [decide_eq_true_eq, decide_eq_false_iff_not, Bool.and_eq_true, Bool.and_eq_false_iff] at hc2
      refine AMx.seq ?_
      refine AMx.region (ces := []) (ks := [4]) (hs := []) (cs := [0 ≤ (n : Int), (n : Int) ≤ List.length a]) (s' := AS.lst 27 [(4, vc (st (List.take n a)))] []) (by kernel_rfl) ?_ ?_
      · exact ⟨(show 0 ≤ (n : Int) from (by first | omega | (simp only [List.length_take]; omega))), (show (n : Int) ≤ List.length a from (by first | omega | (simp only [List.length_take]; omega)))⟩
      refine AMx.ret ?_
      exact RetP.mk (r := vc (st (List.take n a))) (by kernel_rfl) (by rw [hC, comm_hit (by omega) (by rw [hc2.1, hc2.2]; rfl)])
    · try simp only [decide_eq_true_eq, decide_eq_false_iff_not, Bool.and_eq_true, Bool.and_eq_false_iff] at hc2
      refine AMx.skip ?_
      refine AMx.blk ?_
      refine AMx.region (ces := []) (ks := [0, 1, 5]) (hs := []) (cs := [InR .i64 ((n : Int) - 1)]) (s' := AS.lst 27 [(0, vc (st a)), (1, vc (st b)), (5, vc (i6 ((n : Int) - 1)))] []) (by kernel_rfl) ?_ ?_
      · exact (show InR .i64 ((n : Int) - 1) from (inR64 (by first | omega | (simp only [List.length_take]; omega)) (by first | omega | (simp only [List.length_take]; omega))))
      refine AMx.ent_inv (s' := AS.lst 27 [(0, vc (st a)), (1, vc (st b)), (5, vc (i6 ((n : Int) - 1)))] []) (ent_proj [0, 1, 5] []) ?_
      refine AMx.inv ⟨_, ?_, n - 1, ?_, rfl, ?_⟩
      rotate_left
      · exact ⟨by omega, by rw [hC, comm_miss (by omega) (by rcases hc2 with h | h <;> rw [h] <;> simp)]⟩
      · rw [show ((n - 1 : Nat) : Int) = (n : Int) - 1 by omega] <;> rfl
      · omega
  · try simp only [decide_eq_true_eq, decide_eq_false_iff_not] at hc1
    refine AMx.exit ?_
    refine AMx.code_exit ?_
    refine AMx.inv_exit ?_
    refine AMx.blk_exit ?_
    refine AMx.seq ?_
    refine AMx.region (ces := []) (ks := [4]) (hs := []) (cs := []) (s' := AS.lst 27 [(4, vc (st []))] []) (by kernel_rfl) ?_ ?_
    · exact trivial
    refine AMx.ret ?_
    exact RetP.mk (r := vc (st [])) (by kernel_rfl) (by rw [hC, show n = 0 by omega]; rfl)

theorem f24_body : Try.f24.body = some (.seq (.region 0 (rg Try.f24 0) false) (.seq (.region 1 (rg Try.f24 1) false) (.seq (.seq (.region 2 (rg Try.f24 2) false) (.block 0 (.loop (.seq (.seq (.region 3 (rg Try.f24 3) false) (.cond (.tmp 10) (.skip) (.exit 0))) (.seq (.block 1 (.seq (.region 5 (rg Try.f24 5) true) (.cond (.tmp 35) (.region 6 (rg Try.f24 6) false) (.skip)))) (.region 4 (rg Try.f24 4) false)))))) (.seq (.region 7 (rg Try.f24 7) false) (.ret))))) := by kernel_rfl

set_option maxRecDepth 100000 in
set_option maxHeartbeats 8000000 in
theorem RLongest_c (s : Bytes) (l : List Bytes) (hb : ∀ x ∈ l, x.length ≤ 100000) : Pure Try.prog 24 [tc (st s), tc (slS l)] (vc (i6 (longestS s l))) := by
  refine Pure.of_body Try.func24 f24_body (by kernel_rfl) Try.ntmps24 (by kernel_rfl) (by kernel_rfl) ?_
  refine AMx.sl 1 (l := l) rfl (fun hl => ?_)
  simp only [maxLen] at hl
  refine AMx.seq ?_
  refine AMx.region (ces := []) (ks := [0, 1]) (hs := []) (cs := []) (s' := AS.lst 38 [(0, vc (st s)), (1, vc (slS l))] []) (by kernel_rfl) ?_ ?_
  · exact trivial
  refine AMx.seq ?_
  refine AMx.region (ces := []) (ks := [0, 1, 5]) (hs := []) (cs := []) (s' := AS.lst 38 [(0, vc (st s)), (1, vc (slS l)), (5, vc (i6 (-1)))] []) (by kernel_rfl) ?_ ?_
  · exact trivial
  refine AMx.seq ?_
  refine AMx.seq ?_
  refine AMx.region (ces := []) (ks := [0, 1, 5, 6]) (hs := []) (cs := []) (s' := AS.lst 38 [(0, vc (st s)), (1, vc (slS l)), (5, vc (i6 (-1))), (6, vc (i6 0))] []) (by kernel_rfl) ?_ ?_
  · exact trivial
  refine AMx.block ?_
  refine AMx.ent (s' := AS.lst 38 [(0, vc (st s)), (1, vc (slS l)), (5, vc (i6 (-1))), (6, vc (i6 0))] []) (ent_proj [0, 1, 5, 6] []) ?_
  refine AMx.loop (fun mm ss => ∃ (k : Nat), (k ≤ l.length) ∧ mm = l.length - k ∧ ss = AS.lst 38 [(0, vc (st s)), (1, vc (slS l)), (5, vc (i6 (longS s l k))), (6, vc (i6 (k : Int)))] []) ⟨0, ?_, rfl, ?_⟩ ?_
  · omega
  · rfl
  rintro mm ss ⟨k, hI, rfl, rfl⟩
  refine AMx.seq ?_
  refine AMx.seq ?_
  refine AMx.region (ces := []) (ks := [0, 1, 5, 6, 10]) (hs := []) (cs := []) (s' := AS.lst 38 [(0, vc (st s)), (1, vc (slS l)), (5, vc (i6 (longS s l k))), (6, vc (i6 (k : Int))), (10, vc (bo (decide ((k : Int) < (List.length l : Int)))))] []) (by kernel_rfl) ?_ ?_
  · exact trivial
  refine AMx.cond (b := decide ((k : Int) < (List.length l : Int))) (by kernel_rfl) (fun hc1 => ?_) (fun hc1 => ?_)
  · try simp only [decide_eq_true_eq, decide_eq_false_iff_not] at hc1
    refine AMx.skip ?_
    refine AMx.seq ?_
    refine AMx.block ?_
    refine AMx.seq ?_
    refine AMx.region_draw (ces := [(5, CE.call [] [] (vc (bo (withinS s (List.getD l k [])))) [])]) (ros := []) (ks := [0, 1, 5, 6, 35]) (hs := []) (cs := [(0 : Int) ≤ (k : Int), (k : Int) < List.length l, Spec Try.prog 12 [tc (st s), tc (st (List.getD l k []))] (ofH []) (vc (bo (withinS s (List.getD l k [])))) (ofH []), ((withinS s (List.getD l k [])) = true) → allP [], ((withinS s (List.getD l k [])) = true) → allP [(withinS s (List.getD l k [])) = true], ((withinS s (List.getD l k [])) = true) → allP [(withinS s (List.getD l k [])) = true], (((withinS s (List.getD l k [])) = true) ∧ (decide (longS s l k < 0)) = false) → allP [], (((withinS s (List.getD l k [])) = true) ∧ (decide (longS s l k < 0)) = false) → allP [], (((withinS s (List.getD l k [])) = true) ∧ (decide (longS s l k < 0)) = false) → allP [((withinS s (List.getD l k [])) = true) ∧ (decide (longS s l k < 0)) = false, ((withinS s (List.getD l k [])) = true) ∧ (decide (longS s l k < 0)) = false, (0 : Int) ≤ (k : Int), (k : Int) < List.length l], (((withinS s (List.getD l k [])) = true) ∧ (decide (longS s l k < 0)) = false) → allP [((withinS s (List.getD l k [])) = true) ∧ (decide (longS s l k < 0)) = false], (((withinS s (List.getD l k [])) = true) ∧ (decide (longS s l k < 0)) = false) → allP [((withinS s (List.getD l k [])) = true) ∧ (decide (longS s l k < 0)) = false], (((withinS s (List.getD l k [])) = true) ∧ (decide (longS s l k < 0)) = false) → allP [], (((withinS s (List.getD l k [])) = true) ∧ (decide (longS s l k < 0)) = false) → allP [], (((withinS s (List.getD l k [])) = true) ∧ (decide (longS s l k < 0)) = false) → allP [((withinS s (List.getD l k [])) = true) ∧ (decide (longS s l k < 0)) = false, ((withinS s (List.getD l k [])) = true) ∧ (decide (longS s l k < 0)) = false, (0 : Int) ≤ longS s l k, longS s l k < List.length l], (((withinS s (List.getD l k [])) = true) ∧ (decide (longS s l k < 0)) = false) → allP [((withinS s (List.getD l k [])) = true) ∧ (decide (longS s l k < 0)) = false], (((withinS s (List.getD l k [])) = true) ∧ (decide (longS s l k < 0)) = false) → allP [((withinS s (List.getD l k [])) = true) ∧ (decide (longS s l k < 0)) = false], (((withinS s (List.getD l k [])) = true) ∧ (decide (longS s l k < 0)) = false) → allP [((withinS s (List.getD l k [])) = true) ∧ (decide (longS s l k < 0)) = false, ((withinS s (List.getD l k [])) = true) ∧ (decide (longS s l k < 0)) = false], ((withinS s (List.getD l k [])) = true) → allP [(withinS s (List.getD l k [])) = true, (decide (longS s l k < 0)) = false → allP [((withinS s (List.getD l k [])) = true) ∧ (decide (longS s l k < 0)) = false]], (withinS s (List.getD l k [])) = true → allP [(withinS s (List.getD l k [])) = true]]) (s' := AS.lst 38 [(0, vc (st s)), (1, vc (slS l)), (5, vc (i6 (longS s l k))), (6, vc (i6 (k : Int))), (35, vc (bo ((withinS s (List.getD l k [])) && ((decide (longS s l k < 0)) || (decide ((List.length ((List.getD l (longS s l k).toNat []) : List UInt8) : Int) < (List.length ((List.getD l k []) : List UInt8) : Int)))))))] []) mixed (by kernel_rfl) ?_ ?_
    · exact ⟨(show (0 : Int) ≤ (k : Int) from (by first | omega | (have hg := long_lt s l k; omega))), (show (k : Int) < List.length l from (by first | omega | (have hg := long_lt s l k; omega))), (RWithin_c s (List.getD l k []) (by first | omega | decide | exact getD_len hb _ (by omega) | (simp only [List.length_take, List.length_cons, List.length_nil]; omega))), (fun _ => trivial), (fun hp => hp), (fun hp => hp), (fun _ => trivial), (fun _ => trivial), (fun hp => by have hq := hp; (try simp only [decide_eq_true_eq, decide_eq_false_iff_not, Bool.and_eq_true, Bool.or_eq_true, Bool.and_eq_false_iff, Bool.or_eq_false_iff, Bool.not_eq_true', Bool.not_eq_false', Bool.not_eq_true, Bool.not_eq_false] at hq); exact ⟨hp, hp, (show (0 : Int) ≤ (k : Int) from (by first | omega | (have hg := long_lt s l k; omega))), (show (k : Int) < List.length l from (by first | omega | (have hg := long_lt s l k; omega)))⟩), (fun hp => hp), (fun hp => hp), (fun _ => trivial), (fun _ => trivial), (fun hp => by have hq := hp; (try simp only [decide_eq_true_eq, decide_eq_false_iff_not, Bool.and_eq_true, Bool.or_eq_true, Bool.and_eq_false_iff, Bool.or_eq_false_iff, Bool.not_eq_true', Bool.not_eq_false', Bool.not_eq_true, Bool.not_eq_false] at hq); exact ⟨hp, hp, (show (0 : Int) ≤ longS s l k from (by first | omega | (have hg := long_lt s l k; omega))), (show longS s l k < List.length l from (by first | omega | (have hg := long_lt s l k; omega)))⟩), (fun hp => hp), (fun hp => hp), (fun hp => ⟨hp, hp⟩), (fun hp => by have hq := hp; (try simp only [decide_eq_true_eq, decide_eq_false_iff_not, Bool.and_eq_true, Bool.or_eq_true, Bool.and_eq_false_iff, Bool.or_eq_false_iff, Bool.not_eq_true', Bool.not_eq_false', Bool.not_eq_true, Bool.not_eq_false] at hq); exact ⟨hp, (fun hp2 => (by first | exact hp2 | exact ⟨hp, hp2⟩))⟩), (fun hp2 => (by first | exact hp2 | exact ⟨hp, hp2⟩))⟩
    refine AMx.cond (b := ((withinS s (List.getD l k [])) && ((decide (longS s l k < 0)) || (decide ((List.length ((List.getD l (longS s l k).toNat []) : List UInt8) : Int) < (List.length ((List.getD l k []) : List UInt8) : Int)))))) (by kernel_rfl) (fun hc2 => ?_) (fun hc2 => ?_)
    · try simp only [decide_eq_true_eq, decide_eq_false_iff_not, Bool.and_eq_true, Bool.and_eq_false_iff, Bool.or_eq_true, Bool.or_eq_false_iff] at hc2
      refine AMx.region (ces := []) (ks := [0, 1, 5, 6]) (hs := []) (cs := []) (s' := AS.lst 38 [(0, vc (st s)), (1, vc (slS l)), (5, vc (i6 (k : Int))), (6, vc (i6 (k : Int)))] []) (by kernel_rfl) ?_ ?_
      · exact trivial
      refine AMx.blk ?_
      refine AMx.region (ces := []) (ks := [0, 1, 5, 6]) (hs := []) (cs := [InR .i64 ((k : Int) + 1)]) (s' := AS.lst 38 [(0, vc (st s)), (1, vc (slS l)), (5, vc (i6 (k : Int))), (6, vc (i6 ((k : Int) + 1)))] []) (by kernel_rfl) ?_ ?_
      · exact (show InR .i64 ((k : Int) + 1) from (inR64 (by first | omega | (have hg := long_lt s l k; omega)) (by first | omega | (have hg := long_lt s l k; omega))))
      refine AMx.ent_inv (s' := AS.lst 38 [(0, vc (st s)), (1, vc (slS l)), (5, vc (i6 (k : Int))), (6, vc (i6 ((k : Int) + 1)))] []) (ent_proj [0, 1, 5, 6] []) ?_
      refine AMx.inv ⟨_, ?_, k + 1, ?_, rfl, ?_⟩
      rotate_left
      · omega
      · rw [long_step, if_pos (by rw [Bool.and_eq_true, Bool.or_eq_true, decide_eq_true_eq, decide_eq_true_eq]; exact hc2)]; rfl
      · omega
    · try simp only [decide_eq_true_eq, decide_eq_false_iff_not, Bool.and_eq_true, Bool.and_eq_false_iff, Bool.or_eq_true, Bool.or_eq_false_iff] at hc2
      refine AMx.skip ?_
      refine AMx.blk ?_
      refine AMx.region (ces := []) (ks := [0, 1, 5, 6]) (hs := []) (cs := [InR .i64 ((k : Int) + 1)]) (s' := AS.lst 38 [(0, vc (st s)), (1, vc (slS l)), (5, vc (i6 (longS s l k))), (6, vc (i6 ((k : Int) + 1)))] []) (by kernel_rfl) ?_ ?_
      · exact (show InR .i64 ((k : Int) + 1) from (inR64 (by first | omega | (have hg := long_lt s l k; omega)) (by first | omega | (have hg := long_lt s l k; omega))))
      refine AMx.ent_inv (s' := AS.lst 38 [(0, vc (st s)), (1, vc (slS l)), (5, vc (i6 (longS s l k))), (6, vc (i6 ((k : Int) + 1)))] []) (ent_proj [0, 1, 5, 6] []) ?_
      refine AMx.inv ⟨_, ?_, k + 1, ?_, rfl, ?_⟩
      rotate_left
      · omega
      · rw [long_step, if_neg (by intro q; rw [Bool.and_eq_true, Bool.or_eq_true, decide_eq_true_eq, decide_eq_true_eq] at q; rcases hc2 with h | ⟨h1, h2⟩; rw [q.1] at h; cases h; rcases q.2 with q | q; exact h1 q; exact h2 q)]; rfl
      · omega
  · try simp only [decide_eq_true_eq, decide_eq_false_iff_not] at hc1
    refine AMx.exit ?_
    refine AMx.code_exit ?_
    refine AMx.inv_exit ?_
    refine AMx.blk_exit ?_
    refine AMx.seq ?_
    refine AMx.region (ces := []) (ks := [4]) (hs := []) (cs := []) (s' := AS.lst 38 [(4, vc (i6 (longS s l k)))] []) (by kernel_rfl) ?_ ?_
    · exact trivial
    refine AMx.ret ?_
    exact RetP.mk (r := vc (i6 (longS s l k))) (by kernel_rfl) (by rw [show k = l.length by omega]; rfl)

theorem f26_body : Try.f26.body = some (.seq (.region 0 (rg Try.f26 0) false) (.seq (.seq (.region 1 (rg Try.f26 1) false) (.block 0 (.loop (.seq (.seq (.region 2 (rg Try.f26 2) false) (.cond (.tmp 9) (.skip) (.exit 0))) (.seq (.block 1 (.seq (.region 4 (rg Try.f26 4) false) (.cond (.tmp 25) (.seq (.region 5 (rg Try.f26 5) false) (.ret)) (.skip)))) (.region 3 (rg Try.f26 3) false)))))) (.seq (.region 6 (rg Try.f26 6) false) (.ret)))) := by kernel_rfl

set_option maxRecDepth 100000 in
set_option maxHeartbeats 8000000 in
theorem RNested_c (s : Bytes) (l : List Bytes) (hs : s.length ≤ 100000) (hb : ∀ x ∈ l, x.length ≤ 100000) : Pure Try.prog 26 [tc (st s), tc (slS l)] (vc (bo (nestedS s l))) := by
  refine Pure.of_body Try.func26 f26_body (by kernel_rfl) Try.ntmps26 (by kernel_rfl) (by kernel_rfl) ?_
  refine AMx.sl 1 (l := l) rfl (fun hl => ?_)
  simp only [maxLen] at hl
  refine AMx.seq ?_
  refine AMx.region (ces := []) (ks := [0, 1]) (hs := []) (cs := []) (s' := AS.lst 26 [(0, vc (st s)), (1, vc (slS l))] []) (by kernel_rfl) ?_ ?_
  · exact trivial
  refine AMx.seq ?_
  refine AMx.seq ?_
  refine AMx.region (ces := []) (ks := [0, 1, 5]) (hs := []) (cs := []) (s' := AS.lst 26 [(0, vc (st s)), (1, vc (slS l)), (5, vc (i6 0))] []) (by kernel_rfl) ?_ ?_
  · exact trivial
  refine AMx.block ?_
  refine AMx.ent (s' := AS.lst 26 [(0, vc (st s)), (1, vc (slS l)), (5, vc (i6 0))] []) (ent_proj [0, 1, 5] []) ?_
  refine AMx.loop (fun mm ss => ∃ (k : Nat), (k ≤ l.length ∧ ∀ x ∈ List.take k l, (fun t => withinS s t || withinS t s) x = false) ∧ mm = l.length - k ∧ ss = AS.lst 26 [(0, vc (st s)), (1, vc (slS l)), (5, vc (i6 (k : Int)))] []) ⟨0, ?_, rfl, ?_⟩ ?_
  · exact ⟨by omega, fun x hx => by simp at hx⟩
  · rfl
  rintro mm ss ⟨k, ⟨hI, hN⟩, rfl, rfl⟩
  refine AMx.seq ?_
  refine AMx.seq ?_
  refine AMx.region (ces := []) (ks := [0, 1, 5, 9]) (hs := []) (cs := []) (s' := AS.lst 26 [(0, vc (st s)), (1, vc (slS l)), (5, vc (i6 (k : Int))), (9, vc (bo (decide ((k : Int) < (List.length l : Int)))))] []) (by kernel_rfl) ?_ ?_
  · exact trivial
  refine AMx.cond (b := decide ((k : Int) < (List.length l : Int))) (by kernel_rfl) (fun hc1 => ?_) (fun hc1 => ?_)
  · try simp only [decide_eq_true_eq, decide_eq_false_iff_not] at hc1
    refine AMx.skip ?_
    refine AMx.seq ?_
    refine AMx.block ?_
    refine AMx.seq ?_
    refine AMx.region (ces := [(5, CE.call [] [] (vc (bo (withinS s (List.getD l k [])))) []), (12, CE.call [] [] (vc (bo (withinS (List.getD l k []) s))) [])]) (ks := [0, 1, 5, 25]) (hs := []) (cs := [(0 : Int) ≤ (k : Int), (k : Int) < List.length l, Spec Try.prog 12 [tc (st s), tc (st (List.getD l k []))] (ofH []) (vc (bo (withinS s (List.getD l k [])))) (ofH []), ((withinS s (List.getD l k [])) = false) → allP [], ((withinS s (List.getD l k [])) = false) → allP [], ((withinS s (List.getD l k [])) = false) → allP [(withinS s (List.getD l k [])) = false, (withinS s (List.getD l k [])) = false, (0 : Int) ≤ (k : Int), (k : Int) < List.length l], ((withinS s (List.getD l k [])) = false) → allP [(withinS s (List.getD l k [])) = false], ((withinS s (List.getD l k [])) = false) → allP [], ((withinS s (List.getD l k [])) = false) → allP [(withinS s (List.getD l k [])) = false, (withinS s (List.getD l k [])) = false, Spec Try.prog 12 [tc (st (List.getD l k [])), tc (st s)] (ofH []) (vc (bo (withinS (List.getD l k []) s))) (ofH [])], (withinS s (List.getD l k [])) = false → allP [(withinS s (List.getD l k [])) = false]]) (s' := AS.lst 26 [(0, vc (st s)), (1, vc (slS l)), (5, vc (i6 (k : Int))), (25, vc (bo ((withinS s (List.getD l k [])) || (withinS (List.getD l k []) s))))] []) (by kernel_rfl) ?_ ?_
    · exact ⟨(show (0 : Int) ≤ (k : Int) from (by omega)), (show (k : Int) < List.length l from (by omega)), (RWithin_c s (List.getD l k []) (by first | omega | decide | exact getD_len hb _ (by omega) | (simp only [List.length_take, List.length_cons, List.length_nil]; omega))), (fun _ => trivial), (fun _ => trivial), (fun hp => by have hq := hp; (try simp only [decide_eq_true_eq, decide_eq_false_iff_not, Bool.and_eq_true, Bool.or_eq_true, Bool.and_eq_false_iff, Bool.or_eq_false_iff, Bool.not_eq_true', Bool.not_eq_false', Bool.not_eq_true, Bool.not_eq_false] at hq); exact ⟨hp, hp, (show (0 : Int) ≤ (k : Int) from (by omega)), (show (k : Int) < List.length l from (by omega))⟩), (fun hp => hp), (fun _ => trivial), (fun hp => by have hq := hp; (try simp only [decide_eq_true_eq, decide_eq_false_iff_not, Bool.and_eq_true, Bool.or_eq_true, Bool.and_eq_false_iff, Bool.or_eq_false_iff, Bool.not_eq_true', Bool.not_eq_false', Bool.not_eq_true, Bool.not_eq_false] at hq); exact ⟨hp, hp, (RWithin_c (List.getD l k []) s (by first | omega | decide | exact getD_len hb _ (by omega) | (simp only [List.length_take, List.length_cons, List.length_nil]; omega)))⟩), (fun hp2 => (by first | exact hp2 | exact ⟨hp, hp2⟩))⟩
    refine AMx.cond (b := ((withinS s (List.getD l k [])) || (withinS (List.getD l k []) s))) (by kernel_rfl) (fun hc2 => ?_) (fun hc2 => ?_)
    · try simp only [decide_eq_true_eq, decide_eq_false_iff_not, Bool.or_eq_true, Bool.or_eq_false_iff] at hc2
      refine AMx.seq ?_
      refine AMx.region (ces := []) (ks := [4]) (hs := []) (cs := []) (s' := AS.lst 26 [(4, vc (bo true))] []) (by kernel_rfl) ?_ ?_
      · exact trivial
      refine AMx.ret ?_
      exact RetP.mk (r := vc (bo true)) (by kernel_rfl) (by rw [show nestedS s l = true from any_hit (p := (fun t => withinS s t || withinS t s)) l k (by omega) (by simp_all)])
    · try simp only [decide_eq_true_eq, decide_eq_false_iff_not, Bool.or_eq_true, Bool.or_eq_false_iff] at hc2
      refine AMx.skip ?_
      refine AMx.blk ?_
      refine AMx.region (ces := []) (ks := [0, 1, 5]) (hs := []) (cs := [InR .i64 ((k : Int) + 1)]) (s' := AS.lst 26 [(0, vc (st s)), (1, vc (slS l)), (5, vc (i6 ((k : Int) + 1)))] []) (by kernel_rfl) ?_ ?_
      · exact (show InR .i64 ((k : Int) + 1) from (inR64 (by omega) (by omega)))
      refine AMx.ent_inv (s' := AS.lst 26 [(0, vc (st s)), (1, vc (slS l)), (5, vc (i6 ((k : Int) + 1)))] []) (ent_proj [0, 1, 5] []) ?_
      refine AMx.inv ⟨_, ?_, k + 1, ?_, rfl, ?_⟩
      rotate_left
      · exact ⟨by omega, any_false (p := (fun t => withinS s t || withinS t s)) l k (by omega) hN (by simp_all)⟩
      · rfl
      · omega
  · try simp only [decide_eq_true_eq, decide_eq_false_iff_not] at hc1
    refine AMx.exit ?_
    refine AMx.code_exit ?_
    refine AMx.inv_exit ?_
    refine AMx.blk_exit ?_
    refine AMx.seq ?_
    refine AMx.region (ces := []) (ks := [4]) (hs := []) (cs := []) (s' := AS.lst 26 [(4, vc (bo false))] []) (by kernel_rfl) ?_ ?_
    · exact trivial
    refine AMx.ret ?_
    exact RetP.mk (r := vc (bo false)) (by kernel_rfl) (by rw [show nestedS s l = false from any_end (p := (fun t => withinS s t || withinS t s)) l k (by omega) hN])

theorem f20_body : Try.f20.body = some (.seq (.region 0 (rg Try.f20 0) false) (.seq (.seq (.region 1 (rg Try.f20 1) false) (.cond (.tmp 10) (.seq (.region 2 (rg Try.f20 2) false) (.ret)) (.skip))) (.seq (.seq (.region 3 (rg Try.f20 3) false) (.block 0 (.loop (.seq (.seq (.region 4 (rg Try.f20 4) false) (.cond (.tmp 14) (.skip) (.exit 0))) (.seq (.block 1 (.seq (.region 6 (rg Try.f20 6) true) (.cond (.tmp 25) (.seq (.region 7 (rg Try.f20 7) false) (.ret)) (.skip)))) (.region 5 (rg Try.f20 5) false)))))) (.seq (.region 8 (rg Try.f20 8) false) (.ret))))) := by kernel_rfl

set_option maxRecDepth 100000 in
set_option maxHeartbeats 8000000 in
theorem Same_c (a b : List Bytes) : Pure Try.prog 20 [tc (slS a), tc (slS b)] (vc (bo (decide (a = b)))) := by
  refine Pure.of_body Try.func20 f20_body (by kernel_rfl) Try.ntmps20 (by kernel_rfl) (by kernel_rfl) ?_
  refine AMx.sl 0 (l := a) rfl (fun hl => ?_)
  simp only [maxLen] at hl
  refine AMx.seq ?_
  refine AMx.region (ces := []) (ks := [0, 1]) (hs := []) (cs := []) (s' := AS.lst 26 [(0, vc (slS a)), (1, vc (slS b))] []) (by kernel_rfl) ?_ ?_
  · exact trivial
  refine AMx.seq ?_
  refine AMx.seq ?_
  refine AMx.region (ces := []) (ks := [0, 1, 10]) (hs := []) (cs := []) (s' := AS.lst 26 [(0, vc (slS a)), (1, vc (slS b)), (10, vc (bo (!decide ((List.length a : Int) = (List.length b : Int)))))] []) (by kernel_rfl) ?_ ?_
  · exact trivial
  refine AMx.cond (b := !decide ((List.length a : Int) = (List.length b : Int))) (by kernel_rfl) (fun hc1 => ?_) (fun hc1 => ?_)
  · try simp only [decide_eq_true_eq, decide_eq_false_iff_not, Bool.not_eq_true', Bool.not_eq_false'] at hc1
    refine AMx.seq ?_
    refine AMx.region (ces := []) (ks := [4]) (hs := []) (cs := []) (s' := AS.lst 26 [(4, vc (bo false))] []) (by kernel_rfl) ?_ ?_
    · exact trivial
    refine AMx.ret ?_
    exact RetP.mk (r := vc (bo false)) (by kernel_rfl) (by rw [decide_eq_false (fun h => by subst h; simp_all)])
  · try simp only [decide_eq_true_eq, decide_eq_false_iff_not, Bool.not_eq_true', Bool.not_eq_false'] at hc1
    refine AMx.skip ?_
    refine AMx.seq ?_
    refine AMx.seq ?_
    refine AMx.region (ces := []) (ks := [0, 1, 5]) (hs := []) (cs := []) (s' := AS.lst 26 [(0, vc (slS a)), (1, vc (slS b)), (5, vc (i6 0))] []) (by kernel_rfl) ?_ ?_
    · exact trivial
    refine AMx.block ?_
    refine AMx.ent (s' := AS.lst 26 [(0, vc (slS a)), (1, vc (slS b)), (5, vc (i6 0))] []) (ent_proj [0, 1, 5] []) ?_
    refine AMx.loop (fun mm ss => ∃ (i : Nat), (i ≤ a.length ∧ List.take i a = List.take i b) ∧ mm = a.length - i ∧ ss = AS.lst 26 [(0, vc (slS a)), (1, vc (slS b)), (5, vc (i6 (i : Int)))] []) ⟨0, ?_, rfl, ?_⟩ ?_
    · exact ⟨by omega, rfl⟩
    · rfl
    rintro mm ss ⟨i, ⟨hI, hE⟩, rfl, rfl⟩
    refine AMx.seq ?_
    refine AMx.seq ?_
    refine AMx.region (ces := []) (ks := [0, 1, 5, 14]) (hs := []) (cs := []) (s' := AS.lst 26 [(0, vc (slS a)), (1, vc (slS b)), (5, vc (i6 (i : Int))), (14, vc (bo (decide ((i : Int) < (List.length a : Int)))))] []) (by kernel_rfl) ?_ ?_
    · exact trivial
    refine AMx.cond (b := decide ((i : Int) < (List.length a : Int))) (by kernel_rfl) (fun hc2 => ?_) (fun hc2 => ?_)
    · try simp only [decide_eq_true_eq, decide_eq_false_iff_not] at hc2
      refine AMx.skip ?_
      refine AMx.seq ?_
      refine AMx.block ?_
      refine AMx.seq ?_
      refine AMx.region_draw (ces := []) (ros := []) (ks := [0, 1, 5, 25]) (hs := []) (cs := [(0 : Int) ≤ (i : Int), (i : Int) < List.length a, (0 : Int) ≤ (i : Int), (i : Int) < List.length b]) (s' := AS.lst 26 [(0, vc (slS a)), (1, vc (slS b)), (5, vc (i6 (i : Int))), (25, vc (bo (!decide ((List.getD a i []) = (List.getD b i [])))))] []) mixed (by kernel_rfl) ?_ ?_
      · exact ⟨(show (0 : Int) ≤ (i : Int) from (by omega)), (show (i : Int) < List.length a from (by omega)), (show (0 : Int) ≤ (i : Int) from (by omega)), (show (i : Int) < List.length b from (by omega))⟩
      refine AMx.cond (b := !decide ((List.getD a i []) = (List.getD b i []))) (by kernel_rfl) (fun hc3 => ?_) (fun hc3 => ?_)
      · try simp only [decide_eq_true_eq, decide_eq_false_iff_not, Bool.not_eq_true', Bool.not_eq_false'] at hc3
        refine AMx.seq ?_
        refine AMx.region (ces := []) (ks := [4]) (hs := []) (cs := []) (s' := AS.lst 26 [(4, vc (bo false))] []) (by kernel_rfl) ?_ ?_
        · exact trivial
        refine AMx.ret ?_
        exact RetP.mk (r := vc (bo false)) (by kernel_rfl) (by rw [decide_eq_false (fun h => by subst h; simp_all)])
      · try simp only [decide_eq_true_eq, decide_eq_false_iff_not, Bool.not_eq_true', Bool.not_eq_false'] at hc3
        refine AMx.skip ?_
        refine AMx.blk ?_
        refine AMx.region (ces := []) (ks := [0, 1, 5]) (hs := []) (cs := [InR .i64 ((i : Int) + 1)]) (s' := AS.lst 26 [(0, vc (slS a)), (1, vc (slS b)), (5, vc (i6 ((i : Int) + 1)))] []) (by kernel_rfl) ?_ ?_
        · exact (show InR .i64 ((i : Int) + 1) from (inR64 (by omega) (by omega)))
        refine AMx.ent_inv (s' := AS.lst 26 [(0, vc (slS a)), (1, vc (slS b)), (5, vc (i6 ((i : Int) + 1)))] []) (ent_proj [0, 1, 5] []) ?_
        refine AMx.inv ⟨_, ?_, i + 1, ?_, rfl, ?_⟩
        rotate_left
        · exact ⟨by omega, Lib.same_step [] a b i (by omega) (by omega) hE (by assumption)⟩
        · rfl
        · omega
    · try simp only [decide_eq_true_eq, decide_eq_false_iff_not] at hc2
      refine AMx.exit ?_
      refine AMx.code_exit ?_
      refine AMx.inv_exit ?_
      refine AMx.blk_exit ?_
      refine AMx.seq ?_
      refine AMx.region (ces := []) (ks := [4]) (hs := []) (cs := []) (s' := AS.lst 26 [(4, vc (bo true))] []) (by kernel_rfl) ?_ ?_
      · exact trivial
      refine AMx.ret ?_
      exact RetP.mk (r := vc (bo true)) (by kernel_rfl) (by rw [decide_eq_true (Lib.same_end a b i (by omega) (by omega) hE)])

theorem f19_body : Try.f19.body = some (.seq (.region 0 (rg Try.f19 0) false) (.seq (.seq (.region 1 (rg Try.f19 1) false) (.cond (.tmp 6) (.seq (.region 2 (rg Try.f19 2) false) (.ret)) (.skip))) (.seq (.seq (.region 3 (rg Try.f19 3) false) (.block 0 (.loop (.seq (.seq (.region 4 (rg Try.f19 4) false) (.cond (.tmp 10) (.skip) (.exit 0))) (.seq (.block 1 (.seq (.region 6 (rg Try.f19 6) false) (.cond (.tmp 18) (.seq (.region 7 (rg Try.f19 7) false) (.ret)) (.skip)))) (.region 5 (rg Try.f19 5) false)))))) (.seq (.region 8 (rg Try.f19 8) false) (.ret))))) := by kernel_rfl

set_option maxRecDepth 100000 in
set_option maxHeartbeats 8000000 in
theorem Over_c (l : List Bytes) : Pure Try.prog 19 [tc (slS l)] (vc (i6 (overS l))) := by
  refine Pure.of_body Try.func19 f19_body (by kernel_rfl) Try.ntmps19 (by kernel_rfl) (by kernel_rfl) ?_
  refine AMx.sl 0 (l := l) rfl (fun hl => ?_)
  simp only [maxLen] at hl
  refine AMx.seq ?_
  refine AMx.region (ces := []) (ks := [0]) (hs := []) (cs := []) (s' := AS.lst 19 [(0, vc (slS l))] []) (by kernel_rfl) ?_ ?_
  · exact trivial
  refine AMx.seq ?_
  refine AMx.seq ?_
  refine AMx.region (ces := []) (ks := [0, 6]) (hs := []) (cs := []) (s' := AS.lst 19 [(0, vc (slS l)), (6, vc (bo (decide (40 < (List.length l : Int)))))] []) (by kernel_rfl) ?_ ?_
  · exact trivial
  refine AMx.cond (b := decide (40 < (List.length l : Int))) (by kernel_rfl) (fun hc1 => ?_) (fun hc1 => ?_)
  · try simp only [decide_eq_true_eq, decide_eq_false_iff_not] at hc1
    refine AMx.seq ?_
    refine AMx.region (ces := []) (ks := [2]) (hs := []) (cs := []) (s' := AS.lst 19 [(2, vc (i6 1))] []) (by kernel_rfl) ?_ ?_
    · exact trivial
    refine AMx.ret ?_
    exact RetP.mk (r := vc (i6 1)) (by kernel_rfl) (by first | rw [over_1 l (by omega)] | rw [over_2 l i (by omega) (by omega)])
  · try simp only [decide_eq_true_eq, decide_eq_false_iff_not] at hc1
    refine AMx.skip ?_
    refine AMx.seq ?_
    refine AMx.seq ?_
    refine AMx.region (ces := []) (ks := [0, 3]) (hs := []) (cs := []) (s' := AS.lst 19 [(0, vc (slS l)), (3, vc (i6 0))] []) (by kernel_rfl) ?_ ?_
    · exact trivial
    refine AMx.block ?_
    refine AMx.ent (s' := AS.lst 19 [(0, vc (slS l)), (3, vc (i6 0))] []) (ent_proj [0, 3] []) ?_
    refine AMx.loop (fun mm ss => ∃ (i : Nat), (i ≤ l.length ∧ List.any (List.take i l) (fun s => decide (200 < s.length)) = false) ∧ mm = l.length - i ∧ ss = AS.lst 19 [(0, vc (slS l)), (3, vc (i6 (i : Int)))] []) ⟨0, ?_, rfl, ?_⟩ ?_
    · exact ⟨by omega, rfl⟩
    · rfl
    rintro mm ss ⟨i, ⟨hI, hE⟩, rfl, rfl⟩
    refine AMx.seq ?_
    refine AMx.seq ?_
    refine AMx.region (ces := []) (ks := [0, 3, 10]) (hs := []) (cs := []) (s' := AS.lst 19 [(0, vc (slS l)), (3, vc (i6 (i : Int))), (10, vc (bo (decide ((i : Int) < (List.length l : Int)))))] []) (by kernel_rfl) ?_ ?_
    · exact trivial
    refine AMx.cond (b := decide ((i : Int) < (List.length l : Int))) (by kernel_rfl) (fun hc2 => ?_) (fun hc2 => ?_)
    · try simp only [decide_eq_true_eq, decide_eq_false_iff_not] at hc2
      refine AMx.skip ?_
      refine AMx.seq ?_
      refine AMx.block ?_
      refine AMx.seq ?_
      refine AMx.region (ces := []) (ks := [0, 3, 18]) (hs := []) (cs := [(0 : Int) ≤ (i : Int), (i : Int) < List.length l]) (s' := AS.lst 19 [(0, vc (slS l)), (3, vc (i6 (i : Int))), (18, vc (bo (decide (200 < (List.length ((List.getD l i []) : List UInt8) : Int)))))] []) (by kernel_rfl) ?_ ?_
      · exact ⟨(show (0 : Int) ≤ (i : Int) from (by omega)), (show (i : Int) < List.length l from (by omega))⟩
      refine AMx.cond (b := decide (200 < (List.length ((List.getD l i []) : List UInt8) : Int))) (by kernel_rfl) (fun hc3 => ?_) (fun hc3 => ?_)
      · try simp only [decide_eq_true_eq, decide_eq_false_iff_not] at hc3
        refine AMx.seq ?_
        refine AMx.region (ces := []) (ks := [2]) (hs := []) (cs := []) (s' := AS.lst 19 [(2, vc (i6 1))] []) (by kernel_rfl) ?_ ?_
        · exact trivial
        refine AMx.ret ?_
        exact RetP.mk (r := vc (i6 1)) (by kernel_rfl) (by first | rw [over_1 l (by omega)] | rw [over_2 l i (by omega) (by omega)])
      · try simp only [decide_eq_true_eq, decide_eq_false_iff_not] at hc3
        refine AMx.skip ?_
        refine AMx.blk ?_
        refine AMx.region (ces := []) (ks := [0, 3]) (hs := []) (cs := [InR .i64 ((i : Int) + 1)]) (s' := AS.lst 19 [(0, vc (slS l)), (3, vc (i6 ((i : Int) + 1)))] []) (by kernel_rfl) ?_ ?_
        · exact (show InR .i64 ((i : Int) + 1) from (inR64 (by omega) (by omega)))
        refine AMx.ent_inv (s' := AS.lst 19 [(0, vc (slS l)), (3, vc (i6 ((i : Int) + 1)))] []) (ent_proj [0, 3] []) ?_
        refine AMx.inv ⟨_, ?_, i + 1, ?_, rfl, ?_⟩
        rotate_left
        · exact ⟨by omega, over_step l i (by omega) hE (by omega)⟩
        · rfl
        · omega
    · try simp only [decide_eq_true_eq, decide_eq_false_iff_not] at hc2
      refine AMx.exit ?_
      refine AMx.code_exit ?_
      refine AMx.inv_exit ?_
      refine AMx.blk_exit ?_
      refine AMx.seq ?_
      refine AMx.region (ces := []) (ks := [2]) (hs := []) (cs := []) (s' := AS.lst 19 [(2, vc (i6 0))] []) (by kernel_rfl) ?_ ?_
      · exact trivial
      refine AMx.ret ?_
      exact RetP.mk (r := vc (i6 0)) (by kernel_rfl) (by rw [over_0 l i (by omega) (by omega) hE])

theorem f27_body : Try.f27.body = some (.seq (.region 0 (rg Try.f27 0) false) (.seq (.seq (.region 1 (rg Try.f27 1) false) (.block 0 (.loop (.seq (.seq (.region 2 (rg Try.f27 2) false) (.cond (.tmp 9) (.skip) (.exit 0))) (.seq (.block 1 (.seq (.region 4 (rg Try.f27 4) false) (.cond (.tmp 17) (.seq (.region 5 (rg Try.f27 5) false) (.ret)) (.skip)))) (.region 3 (rg Try.f27 3) false)))))) (.seq (.region 6 (rg Try.f27 6) false) (.ret)))) := by kernel_rfl

set_option maxRecDepth 100000 in
set_option maxHeartbeats 8000000 in
theorem in_c (l : List Bytes) (s : Bytes) : Pure Try.prog 27 [tc (slS l), tc (st s)] (vc (bo (inS l s))) := by
  refine Pure.of_body Try.func27 f27_body (by kernel_rfl) Try.ntmps27 (by kernel_rfl) (by kernel_rfl) ?_
  refine AMx.sl 0 (l := l) rfl (fun hl => ?_)
  simp only [maxLen] at hl
  refine AMx.seq ?_
  refine AMx.region (ces := []) (ks := [0, 1]) (hs := []) (cs := []) (s' := AS.lst 18 [(0, vc (slS l)), (1, vc (st s))] []) (by kernel_rfl) ?_ ?_
  · exact trivial
  refine AMx.seq ?_
  refine AMx.seq ?_
  refine AMx.region (ces := []) (ks := [0, 1, 5]) (hs := []) (cs := []) (s' := AS.lst 18 [(0, vc (slS l)), (1, vc (st s)), (5, vc (i6 0))] []) (by kernel_rfl) ?_ ?_
  · exact trivial
  refine AMx.block ?_
  refine AMx.ent (s' := AS.lst 18 [(0, vc (slS l)), (1, vc (st s)), (5, vc (i6 0))] []) (ent_proj [0, 1, 5] []) ?_
  refine AMx.loop (fun mm ss => ∃ (k : Nat), (k ≤ l.length ∧ ∀ x ∈ List.take k l, (fun x => decide (x = s)) x = false) ∧ mm = l.length - k ∧ ss = AS.lst 18 [(0, vc (slS l)), (1, vc (st s)), (5, vc (i6 (k : Int)))] []) ⟨0, ?_, rfl, ?_⟩ ?_
  · exact ⟨by omega, fun x hx => by simp at hx⟩
  · rfl
  rintro mm ss ⟨k, ⟨hI, hN⟩, rfl, rfl⟩
  refine AMx.seq ?_
  refine AMx.seq ?_
  refine AMx.region (ces := []) (ks := [0, 1, 5, 9]) (hs := []) (cs := []) (s' := AS.lst 18 [(0, vc (slS l)), (1, vc (st s)), (5, vc (i6 (k : Int))), (9, vc (bo (decide ((k : Int) < (List.length l : Int)))))] []) (by kernel_rfl) ?_ ?_
  · exact trivial
  refine AMx.cond (b := decide ((k : Int) < (List.length l : Int))) (by kernel_rfl) (fun hc1 => ?_) (fun hc1 => ?_)
  · try simp only [decide_eq_true_eq, decide_eq_false_iff_not] at hc1
    refine AMx.skip ?_
    refine AMx.seq ?_
    refine AMx.block ?_
    refine AMx.seq ?_
    refine AMx.region (ces := []) (ks := [0, 1, 5, 17]) (hs := []) (cs := [(0 : Int) ≤ (k : Int), (k : Int) < List.length l]) (s' := AS.lst 18 [(0, vc (slS l)), (1, vc (st s)), (5, vc (i6 (k : Int))), (17, vc (bo (decide ((List.getD l k []) = s))))] []) (by kernel_rfl) ?_ ?_
    · exact ⟨(show (0 : Int) ≤ (k : Int) from (by omega)), (show (k : Int) < List.length l from (by omega))⟩
    refine AMx.cond (b := decide ((List.getD l k []) = s)) (by kernel_rfl) (fun hc2 => ?_) (fun hc2 => ?_)
    · try simp only [decide_eq_true_eq, decide_eq_false_iff_not] at hc2
      refine AMx.seq ?_
      refine AMx.region (ces := []) (ks := [4]) (hs := []) (cs := []) (s' := AS.lst 18 [(4, vc (bo true))] []) (by kernel_rfl) ?_ ?_
      · exact trivial
      refine AMx.ret ?_
      exact RetP.mk (r := vc (bo true)) (by kernel_rfl) (by rw [show inS l s = true from any_hit (p := fun x => decide (x = s)) l k (by omega) (decide_eq_true (by assumption))])
    · try simp only [decide_eq_true_eq, decide_eq_false_iff_not] at hc2
      refine AMx.skip ?_
      refine AMx.blk ?_
      refine AMx.region (ces := []) (ks := [0, 1, 5]) (hs := []) (cs := [InR .i64 ((k : Int) + 1)]) (s' := AS.lst 18 [(0, vc (slS l)), (1, vc (st s)), (5, vc (i6 ((k : Int) + 1)))] []) (by kernel_rfl) ?_ ?_
      · exact (show InR .i64 ((k : Int) + 1) from (inR64 (by omega) (by omega)))
      refine AMx.ent_inv (s' := AS.lst 18 [(0, vc (slS l)), (1, vc (st s)), (5, vc (i6 ((k : Int) + 1)))] []) (ent_proj [0, 1, 5] []) ?_
      refine AMx.inv ⟨_, ?_, k + 1, ?_, rfl, ?_⟩
      rotate_left
      · exact ⟨by omega, any_false (p := fun x => decide (x = s)) l k (by omega) hN (decide_eq_false (by assumption))⟩
      · rfl
      · omega
  · try simp only [decide_eq_true_eq, decide_eq_false_iff_not] at hc1
    refine AMx.exit ?_
    refine AMx.code_exit ?_
    refine AMx.inv_exit ?_
    refine AMx.blk_exit ?_
    refine AMx.seq ?_
    refine AMx.region (ces := []) (ks := [4]) (hs := []) (cs := []) (s' := AS.lst 18 [(4, vc (bo false))] []) (by kernel_rfl) ?_ ?_
    · exact trivial
    refine AMx.ret ?_
    exact RetP.mk (r := vc (bo false)) (by kernel_rfl) (by rw [show inS l s = false from any_end (p := fun x => decide (x = s)) l k (by omega) hN])

theorem f8_body : Try.f8.body = some (.seq (.region 0 (rg Try.f8 0) false) (.seq (.region 1 (rg Try.f8 1) false) (.seq (.region 2 (rg Try.f8 2) false) (.seq (.region 3 (rg Try.f8 3) false) (.ret))))) := by kernel_rfl

set_option maxRecDepth 100000 in
set_option maxHeartbeats 8000000 in
theorem awake_c  : Pure Try.prog 8 [] (vc (bo true)) := by
  refine Pure.of_body Try.func8 f8_body (by kernel_rfl) Try.ntmps8 (by kernel_rfl) (by kernel_rfl) ?_
  refine AMx.seq ?_
  refine AMx.region (ces := []) (ks := []) (hs := []) (cs := []) (s' := AS.lst 56 [] []) (by kernel_rfl) ?_ ?_
  · exact trivial
  refine AMx.seq ?_
  refine AMx.region (ces := [(0, CE.call [] [] (AV.tup [tc (st ((childS [97, 47, 98, 47, 99] [97]).1)), tc (bo ((childS [97, 47, 98, 47, 99] [97]).2))]) [])]) (ks := [1, 2]) (hs := []) (cs := [Spec Try.prog 9 [tc (st [97, 47, 98, 47, 99]), tc (st [97])] (ofH []) (AV.tup [tc (st ((childS [97, 47, 98, 47, 99] [97]).1)), tc (bo ((childS [97, 47, 98, 47, 99] [97]).2))]) (ofH [])]) (s' := AS.lst 56 [(1, vc (st ((childS [97, 47, 98, 47, 99] [97]).1))), (2, vc (bo ((childS [97, 47, 98, 47, 99] [97]).2)))] []) (by kernel_rfl) ?_ ?_
  · exact (Child_c [97, 47, 98, 47, 99] [97] (by first | omega | decide | exact getD_len hb _ (by omega) | (simp only [List.length_cons, List.length_nil]; omega)))
  refine AMx.seq ?_
  refine AMx.region (ces := [(0, CE.obj (AObj.grow 9 1 Bytes [] rowS [[97, 47, 100], [97, 47, 98, 47, 99], [97, 98], [97, 47, 98, 47, 101]])), (1, CE.call [8] [] (vc (slS (childrenS [97] [[97, 47, 100], [97, 47, 98, 47, 99], [97, 98], [97, 47, 98, 47, 101]]))) [])]) (ks := [1, 2, 3]) (hs := []) (cs := [flat 1 rowS [[97, 47, 100], [97, 47, 98, 47, 99], [97, 98], [97, 47, 98, 47, 101]] = [.s (st [97, 47, 100]), .s (st [97, 47, 98, 47, 99]), .s (st [97, 98]), .s (st [97, 47, 98, 47, 101])], List.length ([[97, 47, 100], [97, 47, 98, 47, 99], [97, 98], [97, 47, 98, 47, 101]] : List Bytes) = 4, Spec Try.prog 21 [tc (st [97]), tc (slS [[97, 47, 100], [97, 47, 98, 47, 99], [97, 98], [97, 47, 98, 47, 101]])] (ofH []) (vc (slS (childrenS [97] [[97, 47, 100], [97, 47, 98, 47, 99], [97, 98], [97, 47, 98, 47, 101]]))) (ofH [])]) (s' := AS.lst 56 [(1, vc (st ((childS [97, 47, 98, 47, 99] [97]).1))), (2, vc (bo ((childS [97, 47, 98, 47, 99] [97]).2))), (3, vc (slS (childrenS [97] [[97, 47, 100], [97, 47, 98, 47, 99], [97, 98], [97, 47, 98, 47, 101]])))] []) (by kernel_rfl) ?_ ?_
  · exact ⟨rfl, rfl, (Children_c [97] [[97, 47, 100], [97, 47, 98, 47, 99], [97, 98], [97, 47, 98, 47, 101]] (by first | assumption | omega | decide | (simp only [List.length_take, List.length_drop, List.length_append, List.length_cons, List.length_nil]; omega) | (have ho := over_len (l := l) (by omega); omega) | (have ho := over_len (l := l) (by omega); simp only [List.length_take, List.length_drop, List.length_append, List.length_cons, List.length_nil]; omega)) (by first | assumption | decide | exact over_all (l := l) (by omega) (fun x hx => by first | exact hx | exact List.mem_of_mem_take hx | exact List.mem_of_mem_drop hx | (simpa using hx))))⟩
  refine AMx.seq ?_
  refine AMx.region (ces := [(0, CE.call [] [] (vc (bo (belowS [97, 47, 98] [97]))) []), (2, CE.call [] [] (vc (bo (belowS [97] [97]))) []), (6, CE.call [] [] (vc (bo (withinS [97] [97]))) []), (9, CE.call [] [] (vc (bo (withinS [97, 98] [97]))) []), (21, CE.shr (some (AObj.grow 9 1 Bytes [] rowS [[98, 47], [100]]))), (22, CE.call [] [] (vc (bo (decide (childrenS [97] [[97, 47, 100], [97, 47, 98, 47, 99], [97, 98], [97, 47, 98, 47, 101]] = [[98, 47], [100]])))) []), (25, CE.call [] [] (vc (st (parentS [97, 47, 98, 47, 99]))) []), (29, CE.call [] [] (vc (st (commonS [97, 47, 98, 47, 99] [97, 47, 98, 99]))) []), (33, CE.shr (some (AObj.grow 9 1 Bytes [] rowS [[], [97], [98]]))), (34, CE.call [] [] (vc (i6 (longestS [97, 47, 98] [[], [97], [98]]))) []), (38, CE.shr (some (AObj.grow 9 1 Bytes [] rowS [[97]]))), (39, CE.call [] [] (vc (bo (nestedS [97, 47, 98] [[97]]))) []), (42, CE.shr (some (AObj.grow 9 1 Bytes [] rowS [[97]]))), (43, CE.call [] [] (vc (bo (nestedS [97, 98] [[97]]))) [])]) (ks := [0]) (hs := []) (cs := [Spec Try.prog 13 [tc (st [97, 47, 98]), tc (st [97])] (ofH []) (vc (bo (belowS [97, 47, 98] [97]))) (ofH []), ((belowS [97, 47, 98] [97]) = true) → allP [Spec Try.prog 13 [tc (st [97]), tc (st [97])] (ofH []) (vc (bo (belowS [97] [97]))) (ofH [])], ((belowS [97, 47, 98] [97]) = true) → allP [(belowS [97, 47, 98] [97]) = true], (belowS [97, 47, 98] [97]) = true → allP [(belowS [97, 47, 98] [97]) = true], (((belowS [97, 47, 98] [97]) && (!(belowS [97] [97]))) = true) → allP [Spec Try.prog 11 [tc (st [97]), tc (st [97])] (ofH []) (vc (bo (withinS [97] [97]))) (ofH [])], ((belowS [97, 47, 98] [97]) && (!(belowS [97] [97]))) = true → allP [((belowS [97, 47, 98] [97]) && (!(belowS [97] [97]))) = true], ((((belowS [97, 47, 98] [97]) && (!(belowS [97] [97]))) && (withinS [97] [97])) = true) → allP [Spec Try.prog 11 [tc (st [97, 98]), tc (st [97])] (ofH []) (vc (bo (withinS [97, 98] [97]))) (ofH [])], ((((belowS [97, 47, 98] [97]) && (!(belowS [97] [97]))) && (withinS [97] [97])) = true) → allP [(((belowS [97, 47, 98] [97]) && (!(belowS [97] [97]))) && (withinS [97] [97])) = true], (((belowS [97, 47, 98] [97]) && (!(belowS [97] [97]))) && (withinS [97] [97])) = true → allP [(((belowS [97, 47, 98] [97]) && (!(belowS [97] [97]))) && (withinS [97] [97])) = true], (((((belowS [97, 47, 98] [97]) && (!(belowS [97] [97]))) && (withinS [97] [97])) && (!(withinS [97, 98] [97]))) = true) → allP [], (((((belowS [97, 47, 98] [97]) && (!(belowS [97] [97]))) && (withinS [97] [97])) && (!(withinS [97, 98] [97]))) = true) → allP [((((belowS [97, 47, 98] [97]) && (!(belowS [97] [97]))) && (withinS [97] [97])) && (!(withinS [97, 98] [97]))) = true], ((((belowS [97, 47, 98] [97]) && (!(belowS [97] [97]))) && (withinS [97] [97])) && (!(withinS [97, 98] [97]))) = true → allP [((((belowS [97, 47, 98] [97]) && (!(belowS [97] [97]))) && (withinS [97] [97])) && (!(withinS [97, 98] [97]))) = true], ((((((belowS [97, 47, 98] [97]) && (!(belowS [97] [97]))) && (withinS [97] [97])) && (!(withinS [97, 98] [97]))) && (decide ((childS [97, 47, 98, 47, 99] [97]).1 = [98, 47]))) = true) → allP [], (((((belowS [97, 47, 98] [97]) && (!(belowS [97] [97]))) && (withinS [97] [97])) && (!(withinS [97, 98] [97]))) && (decide ((childS [97, 47, 98, 47, 99] [97]).1 = [98, 47]))) = true → allP [(((((belowS [97, 47, 98] [97]) && (!(belowS [97] [97]))) && (withinS [97] [97])) && (!(withinS [97, 98] [97]))) && (decide ((childS [97, 47, 98, 47, 99] [97]).1 = [98, 47]))) = true], (((((((belowS [97, 47, 98] [97]) && (!(belowS [97] [97]))) && (withinS [97] [97])) && (!(withinS [97, 98] [97]))) && (decide ((childS [97, 47, 98, 47, 99] [97]).1 = [98, 47]))) && ((childS [97, 47, 98, 47, 99] [97]).2)) = true) → allP [], (((((((belowS [97, 47, 98] [97]) && (!(belowS [97] [97]))) && (withinS [97] [97])) && (!(withinS [97, 98] [97]))) && (decide ((childS [97, 47, 98, 47, 99] [97]).1 = [98, 47]))) && ((childS [97, 47, 98, 47, 99] [97]).2)) = true) → allP [flat 1 rowS [[98, 47], [100]] = [.s (st [98, 47]), .s (st [100])], List.length ([[98, 47], [100]] : List Bytes) = 2], (((((((belowS [97, 47, 98] [97]) && (!(belowS [97] [97]))) && (withinS [97] [97])) && (!(withinS [97, 98] [97]))) && (decide ((childS [97, 47, 98, 47, 99] [97]).1 = [98, 47]))) && ((childS [97, 47, 98, 47, 99] [97]).2)) = true) → allP [((((((belowS [97, 47, 98] [97]) && (!(belowS [97] [97]))) && (withinS [97] [97])) && (!(withinS [97, 98] [97]))) && (decide ((childS [97, 47, 98, 47, 99] [97]).1 = [98, 47]))) && ((childS [97, 47, 98, 47, 99] [97]).2)) = true, ((((((belowS [97, 47, 98] [97]) && (!(belowS [97] [97]))) && (withinS [97] [97])) && (!(withinS [97, 98] [97]))) && (decide ((childS [97, 47, 98, 47, 99] [97]).1 = [98, 47]))) && ((childS [97, 47, 98, 47, 99] [97]).2)) = true, Spec Try.prog 20 [tc (slS (childrenS [97] [[97, 47, 100], [97, 47, 98, 47, 99], [97, 98], [97, 47, 98, 47, 101]])), tc (slS [[98, 47], [100]])] (ofH []) (vc (bo (decide (childrenS [97] [[97, 47, 100], [97, 47, 98, 47, 99], [97, 98], [97, 47, 98, 47, 101]] = [[98, 47], [100]])))) (ofH [])], ((((((belowS [97, 47, 98] [97]) && (!(belowS [97] [97]))) && (withinS [97] [97])) && (!(withinS [97, 98] [97]))) && (decide ((childS [97, 47, 98, 47, 99] [97]).1 = [98, 47]))) && ((childS [97, 47, 98, 47, 99] [97]).2)) = true → allP [((((((belowS [97, 47, 98] [97]) && (!(belowS [97] [97]))) && (withinS [97] [97])) && (!(withinS [97, 98] [97]))) && (decide ((childS [97, 47, 98, 47, 99] [97]).1 = [98, 47]))) && ((childS [97, 47, 98, 47, 99] [97]).2)) = true], ((((((((belowS [97, 47, 98] [97]) && (!(belowS [97] [97]))) && (withinS [97] [97])) && (!(withinS [97, 98] [97]))) && (decide ((childS [97, 47, 98, 47, 99] [97]).1 = [98, 47]))) && ((childS [97, 47, 98, 47, 99] [97]).2)) && (decide (childrenS [97] [[97, 47, 100], [97, 47, 98, 47, 99], [97, 98], [97, 47, 98, 47, 101]] = [[98, 47], [100]]))) = true) → allP [Spec Try.prog 15 [tc (st [97, 47, 98, 47, 99])] (ofH []) (vc (st (parentS [97, 47, 98, 47, 99]))) (ofH [])], ((((((((belowS [97, 47, 98] [97]) && (!(belowS [97] [97]))) && (withinS [97] [97])) && (!(withinS [97, 98] [97]))) && (decide ((childS [97, 47, 98, 47, 99] [97]).1 = [98, 47]))) && ((childS [97, 47, 98, 47, 99] [97]).2)) && (decide (childrenS [97] [[97, 47, 100], [97, 47, 98, 47, 99], [97, 98], [97, 47, 98, 47, 101]] = [[98, 47], [100]]))) = true) → allP [(((((((belowS [97, 47, 98] [97]) && (!(belowS [97] [97]))) && (withinS [97] [97])) && (!(withinS [97, 98] [97]))) && (decide ((childS [97, 47, 98, 47, 99] [97]).1 = [98, 47]))) && ((childS [97, 47, 98, 47, 99] [97]).2)) && (decide (childrenS [97] [[97, 47, 100], [97, 47, 98, 47, 99], [97, 98], [97, 47, 98, 47, 101]] = [[98, 47], [100]]))) = true], (((((((belowS [97, 47, 98] [97]) && (!(belowS [97] [97]))) && (withinS [97] [97])) && (!(withinS [97, 98] [97]))) && (decide ((childS [97, 47, 98, 47, 99] [97]).1 = [98, 47]))) && ((childS [97, 47, 98, 47, 99] [97]).2)) && (decide (childrenS [97] [[97, 47, 100], [97, 47, 98, 47, 99], [97, 98], [97, 47, 98, 47, 101]] = [[98, 47], [100]]))) = true → allP [(((((((belowS [97, 47, 98] [97]) && (!(belowS [97] [97]))) && (withinS [97] [97])) && (!(withinS [97, 98] [97]))) && (decide ((childS [97, 47, 98, 47, 99] [97]).1 = [98, 47]))) && ((childS [97, 47, 98, 47, 99] [97]).2)) && (decide (childrenS [97] [[97, 47, 100], [97, 47, 98, 47, 99], [97, 98], [97, 47, 98, 47, 101]] = [[98, 47], [100]]))) = true], (((((((((belowS [97, 47, 98] [97]) && (!(belowS [97] [97]))) && (withinS [97] [97])) && (!(withinS [97, 98] [97]))) && (decide ((childS [97, 47, 98, 47, 99] [97]).1 = [98, 47]))) && ((childS [97, 47, 98, 47, 99] [97]).2)) && (decide (childrenS [97] [[97, 47, 100], [97, 47, 98, 47, 99], [97, 98], [97, 47, 98, 47, 101]] = [[98, 47], [100]]))) && (decide (parentS [97, 47, 98, 47, 99] = [97, 47, 98]))) = true) → allP [Spec Try.prog 17 [tc (st [97, 47, 98, 47, 99]), tc (st [97, 47, 98, 99])] (ofH []) (vc (st (commonS [97, 47, 98, 47, 99] [97, 47, 98, 99]))) (ofH [])], (((((((((belowS [97, 47, 98] [97]) && (!(belowS [97] [97]))) && (withinS [97] [97])) && (!(withinS [97, 98] [97]))) && (decide ((childS [97, 47, 98, 47, 99] [97]).1 = [98, 47]))) && ((childS [97, 47, 98, 47, 99] [97]).2)) && (decide (childrenS [97] [[97, 47, 100], [97, 47, 98, 47, 99], [97, 98], [97, 47, 98, 47, 101]] = [[98, 47], [100]]))) && (decide (parentS [97, 47, 98, 47, 99] = [97, 47, 98]))) = true) → allP [((((((((belowS [97, 47, 98] [97]) && (!(belowS [97] [97]))) && (withinS [97] [97])) && (!(withinS [97, 98] [97]))) && (decide ((childS [97, 47, 98, 47, 99] [97]).1 = [98, 47]))) && ((childS [97, 47, 98, 47, 99] [97]).2)) && (decide (childrenS [97] [[97, 47, 100], [97, 47, 98, 47, 99], [97, 98], [97, 47, 98, 47, 101]] = [[98, 47], [100]]))) && (decide (parentS [97, 47, 98, 47, 99] = [97, 47, 98]))) = true], ((((((((belowS [97, 47, 98] [97]) && (!(belowS [97] [97]))) && (withinS [97] [97])) && (!(withinS [97, 98] [97]))) && (decide ((childS [97, 47, 98, 47, 99] [97]).1 = [98, 47]))) && ((childS [97, 47, 98, 47, 99] [97]).2)) && (decide (childrenS [97] [[97, 47, 100], [97, 47, 98, 47, 99], [97, 98], [97, 47, 98, 47, 101]] = [[98, 47], [100]]))) && (decide (parentS [97, 47, 98, 47, 99] = [97, 47, 98]))) = true → allP [((((((((belowS [97, 47, 98] [97]) && (!(belowS [97] [97]))) && (withinS [97] [97])) && (!(withinS [97, 98] [97]))) && (decide ((childS [97, 47, 98, 47, 99] [97]).1 = [98, 47]))) && ((childS [97, 47, 98, 47, 99] [97]).2)) && (decide (childrenS [97] [[97, 47, 100], [97, 47, 98, 47, 99], [97, 98], [97, 47, 98, 47, 101]] = [[98, 47], [100]]))) && (decide (parentS [97, 47, 98, 47, 99] = [97, 47, 98]))) = true], ((((((((((belowS [97, 47, 98] [97]) && (!(belowS [97] [97]))) && (withinS [97] [97])) && (!(withinS [97, 98] [97]))) && (decide ((childS [97, 47, 98, 47, 99] [97]).1 = [98, 47]))) && ((childS [97, 47, 98, 47, 99] [97]).2)) && (decide (childrenS [97] [[97, 47, 100], [97, 47, 98, 47, 99], [97, 98], [97, 47, 98, 47, 101]] = [[98, 47], [100]]))) && (decide (parentS [97, 47, 98, 47, 99] = [97, 47, 98]))) && (decide (commonS [97, 47, 98, 47, 99] [97, 47, 98, 99] = [97]))) = true) → allP [flat 1 rowS [[], [97], [98]] = [.s (st []), .s (st [97]), .s (st [98])], List.length ([[], [97], [98]] : List Bytes) = 3], ((((((((((belowS [97, 47, 98] [97]) && (!(belowS [97] [97]))) && (withinS [97] [97])) && (!(withinS [97, 98] [97]))) && (decide ((childS [97, 47, 98, 47, 99] [97]).1 = [98, 47]))) && ((childS [97, 47, 98, 47, 99] [97]).2)) && (decide (childrenS [97] [[97, 47, 100], [97, 47, 98, 47, 99], [97, 98], [97, 47, 98, 47, 101]] = [[98, 47], [100]]))) && (decide (parentS [97, 47, 98, 47, 99] = [97, 47, 98]))) && (decide (commonS [97, 47, 98, 47, 99] [97, 47, 98, 99] = [97]))) = true) → allP [(((((((((belowS [97, 47, 98] [97]) && (!(belowS [97] [97]))) && (withinS [97] [97])) && (!(withinS [97, 98] [97]))) && (decide ((childS [97, 47, 98, 47, 99] [97]).1 = [98, 47]))) && ((childS [97, 47, 98, 47, 99] [97]).2)) && (decide (childrenS [97] [[97, 47, 100], [97, 47, 98, 47, 99], [97, 98], [97, 47, 98, 47, 101]] = [[98, 47], [100]]))) && (decide (parentS [97, 47, 98, 47, 99] = [97, 47, 98]))) && (decide (commonS [97, 47, 98, 47, 99] [97, 47, 98, 99] = [97]))) = true, Spec Try.prog 23 [tc (st [97, 47, 98]), tc (slS [[], [97], [98]])] (ofH []) (vc (i6 (longestS [97, 47, 98] [[], [97], [98]]))) (ofH [])], ((((((((((belowS [97, 47, 98] [97]) && (!(belowS [97] [97]))) && (withinS [97] [97])) && (!(withinS [97, 98] [97]))) && (decide ((childS [97, 47, 98, 47, 99] [97]).1 = [98, 47]))) && ((childS [97, 47, 98, 47, 99] [97]).2)) && (decide (childrenS [97] [[97, 47, 100], [97, 47, 98, 47, 99], [97, 98], [97, 47, 98, 47, 101]] = [[98, 47], [100]]))) && (decide (parentS [97, 47, 98, 47, 99] = [97, 47, 98]))) && (decide (commonS [97, 47, 98, 47, 99] [97, 47, 98, 99] = [97]))) = true) → allP [(((((((((belowS [97, 47, 98] [97]) && (!(belowS [97] [97]))) && (withinS [97] [97])) && (!(withinS [97, 98] [97]))) && (decide ((childS [97, 47, 98, 47, 99] [97]).1 = [98, 47]))) && ((childS [97, 47, 98, 47, 99] [97]).2)) && (decide (childrenS [97] [[97, 47, 100], [97, 47, 98, 47, 99], [97, 98], [97, 47, 98, 47, 101]] = [[98, 47], [100]]))) && (decide (parentS [97, 47, 98, 47, 99] = [97, 47, 98]))) && (decide (commonS [97, 47, 98, 47, 99] [97, 47, 98, 99] = [97]))) = true], (((((((((belowS [97, 47, 98] [97]) && (!(belowS [97] [97]))) && (withinS [97] [97])) && (!(withinS [97, 98] [97]))) && (decide ((childS [97, 47, 98, 47, 99] [97]).1 = [98, 47]))) && ((childS [97, 47, 98, 47, 99] [97]).2)) && (decide (childrenS [97] [[97, 47, 100], [97, 47, 98, 47, 99], [97, 98], [97, 47, 98, 47, 101]] = [[98, 47], [100]]))) && (decide (parentS [97, 47, 98, 47, 99] = [97, 47, 98]))) && (decide (commonS [97, 47, 98, 47, 99] [97, 47, 98, 99] = [97]))) = true → allP [(((((((((belowS [97, 47, 98] [97]) && (!(belowS [97] [97]))) && (withinS [97] [97])) && (!(withinS [97, 98] [97]))) && (decide ((childS [97, 47, 98, 47, 99] [97]).1 = [98, 47]))) && ((childS [97, 47, 98, 47, 99] [97]).2)) && (decide (childrenS [97] [[97, 47, 100], [97, 47, 98, 47, 99], [97, 98], [97, 47, 98, 47, 101]] = [[98, 47], [100]]))) && (decide (parentS [97, 47, 98, 47, 99] = [97, 47, 98]))) && (decide (commonS [97, 47, 98, 47, 99] [97, 47, 98, 99] = [97]))) = true], (((((((((((belowS [97, 47, 98] [97]) && (!(belowS [97] [97]))) && (withinS [97] [97])) && (!(withinS [97, 98] [97]))) && (decide ((childS [97, 47, 98, 47, 99] [97]).1 = [98, 47]))) && ((childS [97, 47, 98, 47, 99] [97]).2)) && (decide (childrenS [97] [[97, 47, 100], [97, 47, 98, 47, 99], [97, 98], [97, 47, 98, 47, 101]] = [[98, 47], [100]]))) && (decide (parentS [97, 47, 98, 47, 99] = [97, 47, 98]))) && (decide (commonS [97, 47, 98, 47, 99] [97, 47, 98, 99] = [97]))) && (decide (longestS [97, 47, 98] [[], [97], [98]] = 1))) = true) → allP [flat 1 rowS [[97]] = [.s (st [97])], List.length ([[97]] : List Bytes) = 1], (((((((((((belowS [97, 47, 98] [97]) && (!(belowS [97] [97]))) && (withinS [97] [97])) && (!(withinS [97, 98] [97]))) && (decide ((childS [97, 47, 98, 47, 99] [97]).1 = [98, 47]))) && ((childS [97, 47, 98, 47, 99] [97]).2)) && (decide (childrenS [97] [[97, 47, 100], [97, 47, 98, 47, 99], [97, 98], [97, 47, 98, 47, 101]] = [[98, 47], [100]]))) && (decide (parentS [97, 47, 98, 47, 99] = [97, 47, 98]))) && (decide (commonS [97, 47, 98, 47, 99] [97, 47, 98, 99] = [97]))) && (decide (longestS [97, 47, 98] [[], [97], [98]] = 1))) = true) → allP [((((((((((belowS [97, 47, 98] [97]) && (!(belowS [97] [97]))) && (withinS [97] [97])) && (!(withinS [97, 98] [97]))) && (decide ((childS [97, 47, 98, 47, 99] [97]).1 = [98, 47]))) && ((childS [97, 47, 98, 47, 99] [97]).2)) && (decide (childrenS [97] [[97, 47, 100], [97, 47, 98, 47, 99], [97, 98], [97, 47, 98, 47, 101]] = [[98, 47], [100]]))) && (decide (parentS [97, 47, 98, 47, 99] = [97, 47, 98]))) && (decide (commonS [97, 47, 98, 47, 99] [97, 47, 98, 99] = [97]))) && (decide (longestS [97, 47, 98] [[], [97], [98]] = 1))) = true, Spec Try.prog 25 [tc (st [97, 47, 98]), tc (slS [[97]])] (ofH []) (vc (bo (nestedS [97, 47, 98] [[97]]))) (ofH [])], ((((((((((belowS [97, 47, 98] [97]) && (!(belowS [97] [97]))) && (withinS [97] [97])) && (!(withinS [97, 98] [97]))) && (decide ((childS [97, 47, 98, 47, 99] [97]).1 = [98, 47]))) && ((childS [97, 47, 98, 47, 99] [97]).2)) && (decide (childrenS [97] [[97, 47, 100], [97, 47, 98, 47, 99], [97, 98], [97, 47, 98, 47, 101]] = [[98, 47], [100]]))) && (decide (parentS [97, 47, 98, 47, 99] = [97, 47, 98]))) && (decide (commonS [97, 47, 98, 47, 99] [97, 47, 98, 99] = [97]))) && (decide (longestS [97, 47, 98] [[], [97], [98]] = 1))) = true → allP [((((((((((belowS [97, 47, 98] [97]) && (!(belowS [97] [97]))) && (withinS [97] [97])) && (!(withinS [97, 98] [97]))) && (decide ((childS [97, 47, 98, 47, 99] [97]).1 = [98, 47]))) && ((childS [97, 47, 98, 47, 99] [97]).2)) && (decide (childrenS [97] [[97, 47, 100], [97, 47, 98, 47, 99], [97, 98], [97, 47, 98, 47, 101]] = [[98, 47], [100]]))) && (decide (parentS [97, 47, 98, 47, 99] = [97, 47, 98]))) && (decide (commonS [97, 47, 98, 47, 99] [97, 47, 98, 99] = [97]))) && (decide (longestS [97, 47, 98] [[], [97], [98]] = 1))) = true], ((((((((((((belowS [97, 47, 98] [97]) && (!(belowS [97] [97]))) && (withinS [97] [97])) && (!(withinS [97, 98] [97]))) && (decide ((childS [97, 47, 98, 47, 99] [97]).1 = [98, 47]))) && ((childS [97, 47, 98, 47, 99] [97]).2)) && (decide (childrenS [97] [[97, 47, 100], [97, 47, 98, 47, 99], [97, 98], [97, 47, 98, 47, 101]] = [[98, 47], [100]]))) && (decide (parentS [97, 47, 98, 47, 99] = [97, 47, 98]))) && (decide (commonS [97, 47, 98, 47, 99] [97, 47, 98, 99] = [97]))) && (decide (longestS [97, 47, 98] [[], [97], [98]] = 1))) && (nestedS [97, 47, 98] [[97]])) = true) → allP [flat 1 rowS [[97]] = [.s (st [97])], List.length ([[97]] : List Bytes) = 1], ((((((((((((belowS [97, 47, 98] [97]) && (!(belowS [97] [97]))) && (withinS [97] [97])) && (!(withinS [97, 98] [97]))) && (decide ((childS [97, 47, 98, 47, 99] [97]).1 = [98, 47]))) && ((childS [97, 47, 98, 47, 99] [97]).2)) && (decide (childrenS [97] [[97, 47, 100], [97, 47, 98, 47, 99], [97, 98], [97, 47, 98, 47, 101]] = [[98, 47], [100]]))) && (decide (parentS [97, 47, 98, 47, 99] = [97, 47, 98]))) && (decide (commonS [97, 47, 98, 47, 99] [97, 47, 98, 99] = [97]))) && (decide (longestS [97, 47, 98] [[], [97], [98]] = 1))) && (nestedS [97, 47, 98] [[97]])) = true) → allP [(((((((((((belowS [97, 47, 98] [97]) && (!(belowS [97] [97]))) && (withinS [97] [97])) && (!(withinS [97, 98] [97]))) && (decide ((childS [97, 47, 98, 47, 99] [97]).1 = [98, 47]))) && ((childS [97, 47, 98, 47, 99] [97]).2)) && (decide (childrenS [97] [[97, 47, 100], [97, 47, 98, 47, 99], [97, 98], [97, 47, 98, 47, 101]] = [[98, 47], [100]]))) && (decide (parentS [97, 47, 98, 47, 99] = [97, 47, 98]))) && (decide (commonS [97, 47, 98, 47, 99] [97, 47, 98, 99] = [97]))) && (decide (longestS [97, 47, 98] [[], [97], [98]] = 1))) && (nestedS [97, 47, 98] [[97]])) = true, Spec Try.prog 25 [tc (st [97, 98]), tc (slS [[97]])] (ofH []) (vc (bo (nestedS [97, 98] [[97]]))) (ofH [])], ((((((((((((belowS [97, 47, 98] [97]) && (!(belowS [97] [97]))) && (withinS [97] [97])) && (!(withinS [97, 98] [97]))) && (decide ((childS [97, 47, 98, 47, 99] [97]).1 = [98, 47]))) && ((childS [97, 47, 98, 47, 99] [97]).2)) && (decide (childrenS [97] [[97, 47, 100], [97, 47, 98, 47, 99], [97, 98], [97, 47, 98, 47, 101]] = [[98, 47], [100]]))) && (decide (parentS [97, 47, 98, 47, 99] = [97, 47, 98]))) && (decide (commonS [97, 47, 98, 47, 99] [97, 47, 98, 99] = [97]))) && (decide (longestS [97, 47, 98] [[], [97], [98]] = 1))) && (nestedS [97, 47, 98] [[97]])) = true) → allP [(((((((((((belowS [97, 47, 98] [97]) && (!(belowS [97] [97]))) && (withinS [97] [97])) && (!(withinS [97, 98] [97]))) && (decide ((childS [97, 47, 98, 47, 99] [97]).1 = [98, 47]))) && ((childS [97, 47, 98, 47, 99] [97]).2)) && (decide (childrenS [97] [[97, 47, 100], [97, 47, 98, 47, 99], [97, 98], [97, 47, 98, 47, 101]] = [[98, 47], [100]]))) && (decide (parentS [97, 47, 98, 47, 99] = [97, 47, 98]))) && (decide (commonS [97, 47, 98, 47, 99] [97, 47, 98, 99] = [97]))) && (decide (longestS [97, 47, 98] [[], [97], [98]] = 1))) && (nestedS [97, 47, 98] [[97]])) = true], (((((((((((belowS [97, 47, 98] [97]) && (!(belowS [97] [97]))) && (withinS [97] [97])) && (!(withinS [97, 98] [97]))) && (decide ((childS [97, 47, 98, 47, 99] [97]).1 = [98, 47]))) && ((childS [97, 47, 98, 47, 99] [97]).2)) && (decide (childrenS [97] [[97, 47, 100], [97, 47, 98, 47, 99], [97, 98], [97, 47, 98, 47, 101]] = [[98, 47], [100]]))) && (decide (parentS [97, 47, 98, 47, 99] = [97, 47, 98]))) && (decide (commonS [97, 47, 98, 47, 99] [97, 47, 98, 99] = [97]))) && (decide (longestS [97, 47, 98] [[], [97], [98]] = 1))) && (nestedS [97, 47, 98] [[97]])) = true → allP [(((((((((((belowS [97, 47, 98] [97]) && (!(belowS [97] [97]))) && (withinS [97] [97])) && (!(withinS [97, 98] [97]))) && (decide ((childS [97, 47, 98, 47, 99] [97]).1 = [98, 47]))) && ((childS [97, 47, 98, 47, 99] [97]).2)) && (decide (childrenS [97] [[97, 47, 100], [97, 47, 98, 47, 99], [97, 98], [97, 47, 98, 47, 101]] = [[98, 47], [100]]))) && (decide (parentS [97, 47, 98, 47, 99] = [97, 47, 98]))) && (decide (commonS [97, 47, 98, 47, 99] [97, 47, 98, 99] = [97]))) && (decide (longestS [97, 47, 98] [[], [97], [98]] = 1))) && (nestedS [97, 47, 98] [[97]])) = true]]) (s' := AS.lst 56 [(0, vc (bo ((((((((((((belowS [97, 47, 98] [97]) && (!(belowS [97] [97]))) && (withinS [97] [97])) && (!(withinS [97, 98] [97]))) && (decide ((childS [97, 47, 98, 47, 99] [97]).1 = [98, 47]))) && ((childS [97, 47, 98, 47, 99] [97]).2)) && (decide (childrenS [97] [[97, 47, 100], [97, 47, 98, 47, 99], [97, 98], [97, 47, 98, 47, 101]] = [[98, 47], [100]]))) && (decide (parentS [97, 47, 98, 47, 99] = [97, 47, 98]))) && (decide (commonS [97, 47, 98, 47, 99] [97, 47, 98, 99] = [97]))) && (decide (longestS [97, 47, 98] [[], [97], [98]] = 1))) && (nestedS [97, 47, 98] [[97]])) && (!(nestedS [97, 98] [[97]])))))] []) (by kernel_rfl) ?_ ?_
  · exact ⟨(Below_c [97, 47, 98] [97]), (fun hp => by have hq := hp; (try simp only [decide_eq_true_eq, decide_eq_false_iff_not, Bool.and_eq_true, Bool.or_eq_true, Bool.and_eq_false_iff, Bool.or_eq_false_iff, Bool.not_eq_true', Bool.not_eq_false', Bool.not_eq_true, Bool.not_eq_false] at hq); exact (Below_c [97] [97])), (fun hp => hp), (fun hp2 => (by first | exact hp2 | exact ⟨hp, hp2⟩)), (fun hp => by have hq := hp; (try simp only [decide_eq_true_eq, decide_eq_false_iff_not, Bool.and_eq_true, Bool.or_eq_true, Bool.and_eq_false_iff, Bool.or_eq_false_iff, Bool.not_eq_true', Bool.not_eq_false', Bool.not_eq_true, Bool.not_eq_false] at hq); exact (Within_c [97] [97])), (fun hp2 => (by first | exact hp2 | exact ⟨hp, hp2⟩)), (fun hp => by have hq := hp; (try simp only [decide_eq_true_eq, decide_eq_false_iff_not, Bool.and_eq_true, Bool.or_eq_true, Bool.and_eq_false_iff, Bool.or_eq_false_iff, Bool.not_eq_true', Bool.not_eq_false', Bool.not_eq_true, Bool.not_eq_false] at hq); exact (Within_c [97, 98] [97])), (fun hp => hp), (fun hp2 => (by first | exact hp2 | exact ⟨hp, hp2⟩)), (fun _ => trivial), (fun hp => hp), (fun hp2 => (by first | exact hp2 | exact ⟨hp, hp2⟩)), (fun _ => trivial), (fun hp2 => (by first | exact hp2 | exact ⟨hp, hp2⟩)), (fun _ => trivial), (fun hp => by have hq := hp; (try simp only [decide_eq_true_eq, decide_eq_false_iff_not, Bool.and_eq_true, Bool.or_eq_true, Bool.and_eq_false_iff, Bool.or_eq_false_iff, Bool.not_eq_true', Bool.not_eq_false', Bool.not_eq_true, Bool.not_eq_false] at hq); exact ⟨rfl, rfl⟩), (fun hp => by have hq := hp; (try simp only [decide_eq_true_eq, decide_eq_false_iff_not, Bool.and_eq_true, Bool.or_eq_true, Bool.and_eq_false_iff, Bool.or_eq_false_iff, Bool.not_eq_true', Bool.not_eq_false', Bool.not_eq_true, Bool.not_eq_false] at hq); exact ⟨hp, hp, (Same_c (childrenS [97] [[97, 47, 100], [97, 47, 98, 47, 99], [97, 98], [97, 47, 98, 47, 101]]) [[98, 47], [100]])⟩), (fun hp2 => (by first | exact hp2 | exact ⟨hp, hp2⟩)), (fun hp => by have hq := hp; (try simp only [decide_eq_true_eq, decide_eq_false_iff_not, Bool.and_eq_true, Bool.or_eq_true, Bool.and_eq_false_iff, Bool.or_eq_false_iff, Bool.not_eq_true', Bool.not_eq_false', Bool.not_eq_true, Bool.not_eq_false] at hq); exact (Parent_c [97, 47, 98, 47, 99])), (fun hp => hp), (fun hp2 => (by first | exact hp2 | exact ⟨hp, hp2⟩)), (fun hp => by have hq := hp; (try simp only [decide_eq_true_eq, decide_eq_false_iff_not, Bool.and_eq_true, Bool.or_eq_true, Bool.and_eq_false_iff, Bool.or_eq_false_iff, Bool.not_eq_true', Bool.not_eq_false', Bool.not_eq_true, Bool.not_eq_false] at hq); exact (Common_c [97, 47, 98, 47, 99] [97, 47, 98, 99])), (fun hp => hp), (fun hp2 => (by first | exact hp2 | exact ⟨hp, hp2⟩)), (fun hp => by have hq := hp; (try simp only [decide_eq_true_eq, decide_eq_false_iff_not, Bool.and_eq_true, Bool.or_eq_true, Bool.and_eq_false_iff, Bool.or_eq_false_iff, Bool.not_eq_true', Bool.not_eq_false', Bool.not_eq_true, Bool.not_eq_false] at hq); exact ⟨rfl, rfl⟩), (fun hp => by have hq := hp; (try simp only [decide_eq_true_eq, decide_eq_false_iff_not, Bool.and_eq_true, Bool.or_eq_true, Bool.and_eq_false_iff, Bool.or_eq_false_iff, Bool.not_eq_true', Bool.not_eq_false', Bool.not_eq_true, Bool.not_eq_false] at hq); exact ⟨hp, (Longest_c [97, 47, 98] [[], [97], [98]])⟩), (fun hp => hp), (fun hp2 => (by first | exact hp2 | exact ⟨hp, hp2⟩)), (fun hp => by have hq := hp; (try simp only [decide_eq_true_eq, decide_eq_false_iff_not, Bool.and_eq_true, Bool.or_eq_true, Bool.and_eq_false_iff, Bool.or_eq_false_iff, Bool.not_eq_true', Bool.not_eq_false', Bool.not_eq_true, Bool.not_eq_false] at hq); exact ⟨rfl, rfl⟩), (fun hp => by have hq := hp; (try simp only [decide_eq_true_eq, decide_eq_false_iff_not, Bool.and_eq_true, Bool.or_eq_true, Bool.and_eq_false_iff, Bool.or_eq_false_iff, Bool.not_eq_true', Bool.not_eq_false', Bool.not_eq_true, Bool.not_eq_false] at hq); exact ⟨hp, (Nested_c [97, 47, 98] [[97]])⟩), (fun hp2 => (by first | exact hp2 | exact ⟨hp, hp2⟩)), (fun hp => by have hq := hp; (try simp only [decide_eq_true_eq, decide_eq_false_iff_not, Bool.and_eq_true, Bool.or_eq_true, Bool.and_eq_false_iff, Bool.or_eq_false_iff, Bool.not_eq_true', Bool.not_eq_false', Bool.not_eq_true, Bool.not_eq_false] at hq); exact ⟨rfl, rfl⟩), (fun hp => by have hq := hp; (try simp only [decide_eq_true_eq, decide_eq_false_iff_not, Bool.and_eq_true, Bool.or_eq_true, Bool.and_eq_false_iff, Bool.or_eq_false_iff, Bool.not_eq_true', Bool.not_eq_false', Bool.not_eq_true, Bool.not_eq_false] at hq); exact ⟨hp, (Nested_c [97, 98] [[97]])⟩), (fun hp => hp), (fun hp2 => (by first | exact hp2 | exact ⟨hp, hp2⟩))⟩
  refine AMx.ret ?_
  exact RetP.mk (r := vc (bo ((((((((((((belowS [97, 47, 98] [97]) && (!(belowS [97] [97]))) && (withinS [97] [97])) && (!(withinS [97, 98] [97]))) && (decide ((childS [97, 47, 98, 47, 99] [97]).1 = [98, 47]))) && ((childS [97, 47, 98, 47, 99] [97]).2)) && (decide (childrenS [97] [[97, 47, 100], [97, 47, 98, 47, 99], [97, 98], [97, 47, 98, 47, 101]] = [[98, 47], [100]]))) && (decide (parentS [97, 47, 98, 47, 99] = [97, 47, 98]))) && (decide (commonS [97, 47, 98, 47, 99] [97, 47, 98, 99] = [97]))) && (decide (longestS [97, 47, 98] [[], [97], [98]] = 1))) && (nestedS [97, 47, 98] [[97]])) && (!(nestedS [97, 98] [[97]]))))) (by kernel_rfl) (by kernel_rfl)

end AL.Under
