/- under: the contracts of its functions, by their walks. No condition. -/
import Derived.Test.YtkpgnlcjolmdlaaDoorUnderA
namespace AL.Under
open Go Go.Proofs AL AL.Fnv
set_option linter.unusedVariables false
set_option linter.unusedSimpArgs false

theorem f45_body : Tryd.f45.body = some (.seq (.region 0 (rg Tryd.f45 0) false) (.seq (.seq (.region 1 (rg Tryd.f45 1) false) (.cond (.tmp 10) (.seq (.region 2 (rg Tryd.f45 2) false) (.ret)) (.skip))) (.seq (.seq (.region 3 (rg Tryd.f45 3) false) (.block 0 (.loop (.seq (.seq (.region 4 (rg Tryd.f45 4) false) (.cond (.tmp 14) (.skip) (.exit 0))) (.seq (.block 1 (.seq (.region 6 (rg Tryd.f45 6) true) (.cond (.tmp 23) (.seq (.region 7 (rg Tryd.f45 7) false) (.ret)) (.skip)))) (.region 5 (rg Tryd.f45 5) false)))))) (.seq (.region 8 (rg Tryd.f45 8) false) (.ret))))) := by kernel_rfl

set_option maxRecDepth 100000 in
set_option maxHeartbeats 8000000 in
theorem RBegins_c (s t : Bytes) : Pure Tryd.prog 45 [tc (st s), tc (st t)] (vc (bo (hasP s t))) := by
  refine Pure.of_body Tryd.func45 f45_body (by kernel_rfl) Tryd.ntmps45 (by kernel_rfl) (by kernel_rfl) ?_
  refine AMx.str 0 (b := s) rfl (fun hls => ?_)
  simp only [maxLen] at hls
  refine AMx.str 1 (b := t) rfl (fun hlt => ?_)
  simp only [maxLen] at hlt
  refine AMx.seq ?_
  refine AMx.region (ces := []) (ks := [0, 1]) (hs := []) (cs := []) (s' := AS.lst 24 [(0, vc (st s)), (1, vc (st t))] []) (by kernel_rfl) ?_ ?_
  · exact trivial
  refine AMx.seq ?_
  refine AMx.seq ?_
  refine AMx.region (ces := []) (ks := [0, 1, 10]) (hs := []) (cs := []) (s' := AS.lst 24 [(0, vc (st s)), (1, vc (st t)), (10, vc (bo (decide ((List.length s : Int) < (List.length t : Int)))))] []) (by kernel_rfl) ?_ ?_
  · exact trivial
  refine AMx.cond (b := decide ((List.length s : Int) < (List.length t : Int))) (by kernel_rfl) (fun hc1 => ?_) (fun hc1 => ?_)
  · try simp only [decide_eq_true_eq, decide_eq_false_iff_not] at hc1
    refine AMx.seq ?_
    refine AMx.region (ces := []) (ks := [4]) (hs := []) (cs := []) (s' := AS.lst 24 [(4, vc (bo false))] []) (by kernel_rfl) ?_ ?_
    · exact trivial
    refine AMx.ret ?_
    exact RetP.mk (r := vc (bo false)) (by kernel_rfl) (by first | rw [hasP_long (by omega)] | rw [hasP_ne (i := k) (by omega) (by assumption)])
  · try simp only [decide_eq_true_eq, decide_eq_false_iff_not] at hc1
    refine AMx.skip ?_
    refine AMx.seq ?_
    refine AMx.seq ?_
    refine AMx.region (ces := []) (ks := [0, 1, 5]) (hs := []) (cs := []) (s' := AS.lst 24 [(0, vc (st s)), (1, vc (st t)), (5, vc (i6 0))] []) (by kernel_rfl) ?_ ?_
    · exact trivial
    refine AMx.block ?_
    refine AMx.ent (s' := AS.lst 24 [(0, vc (st s)), (1, vc (st t)), (5, vc (i6 0))] []) (ent_proj [0, 1, 5] []) ?_
    refine AMx.loop (fun mm ss => ∃ (k : Nat), (k ≤ t.length ∧ t.length ≤ s.length ∧ List.take k s = List.take k t) ∧ mm = t.length - k ∧ ss = AS.lst 24 [(0, vc (st s)), (1, vc (st t)), (5, vc (i6 (k : Int)))] []) ⟨0, ?_, rfl, ?_⟩ ?_
    · exact ⟨by omega, by omega, rfl⟩
    · rfl
    rintro mm ss ⟨k, ⟨hI, hS, hE⟩, rfl, rfl⟩
    refine AMx.seq ?_
    refine AMx.seq ?_
    refine AMx.region (ces := []) (ks := [0, 1, 5, 14]) (hs := []) (cs := []) (s' := AS.lst 24 [(0, vc (st s)), (1, vc (st t)), (5, vc (i6 (k : Int))), (14, vc (bo (decide ((k : Int) < (List.length t : Int)))))] []) (by kernel_rfl) ?_ ?_
    · exact trivial
    refine AMx.cond (b := decide ((k : Int) < (List.length t : Int))) (by kernel_rfl) (fun hc2 => ?_) (fun hc2 => ?_)
    · try simp only [decide_eq_true_eq, decide_eq_false_iff_not] at hc2
      refine AMx.skip ?_
      refine AMx.seq ?_
      refine AMx.block ?_
      refine AMx.seq ?_
      refine AMx.region_draw (ces := []) (ros := []) (ks := [0, 1, 5, 23]) (hs := []) (cs := [(0 : Int) ≤ (k : Int), (k : Int) < List.length s, (0 : Int) ≤ (k : Int), (k : Int) < List.length t]) (s' := AS.lst 24 [(0, vc (st s)), (1, vc (st t)), (5, vc (i6 (k : Int))), (23, vc (bo (!decide (((List.getD s k 0).toNat : Int) = ((List.getD t k 0).toNat : Int)))))] []) mixed (by kernel_rfl) ?_ ?_
      · exact ⟨(show (0 : Int) ≤ (k : Int) from (by omega)), (show (k : Int) < List.length s from (by omega)), (show (0 : Int) ≤ (k : Int) from (by omega)), (show (k : Int) < List.length t from (by omega))⟩
      refine AMx.cond (b := !decide (((List.getD s k 0).toNat : Int) = ((List.getD t k 0).toNat : Int))) (by kernel_rfl) (fun hc3 => ?_) (fun hc3 => ?_)
      · try simp only [decide_eq_true_eq, decide_eq_false_iff_not, Bool.not_eq_true', Bool.not_eq_false'] at hc3
        refine AMx.seq ?_
        refine AMx.region (ces := []) (ks := [4]) (hs := []) (cs := []) (s' := AS.lst 24 [(4, vc (bo false))] []) (by kernel_rfl) ?_ ?_
        · exact trivial
        refine AMx.ret ?_
        exact RetP.mk (r := vc (bo false)) (by kernel_rfl) (by first | rw [hasP_long (by omega)] | rw [hasP_ne (i := k) (by omega) (by assumption)])
      · try simp only [decide_eq_true_eq, decide_eq_false_iff_not, Bool.not_eq_true', Bool.not_eq_false'] at hc3
        refine AMx.skip ?_
        refine AMx.blk ?_
        refine AMx.region (ces := []) (ks := [0, 1, 5]) (hs := []) (cs := [InR .i64 ((k : Int) + 1)]) (s' := AS.lst 24 [(0, vc (st s)), (1, vc (st t)), (5, vc (i6 ((k : Int) + 1)))] []) (by kernel_rfl) ?_ ?_
        · exact (show InR .i64 ((k : Int) + 1) from (inR64 (by omega) (by omega)))
        refine AMx.ent_inv (s' := AS.lst 24 [(0, vc (st s)), (1, vc (st t)), (5, vc (i6 ((k : Int) + 1)))] []) (ent_proj [0, 1, 5] []) ?_
        refine AMx.inv ⟨_, ?_, k + 1, ?_, rfl, ?_⟩
        rotate_left
        · exact ⟨by omega, by omega, take_byte (by omega) (by omega) hE (by assumption)⟩
        · rfl
        · omega
    · try simp only [decide_eq_true_eq, decide_eq_false_iff_not] at hc2
      refine AMx.exit ?_
      refine AMx.code_exit ?_
      refine AMx.inv_exit ?_
      refine AMx.blk_exit ?_
      refine AMx.seq ?_
      refine AMx.region (ces := []) (ks := [4]) (hs := []) (cs := []) (s' := AS.lst 24 [(4, vc (bo true))] []) (by kernel_rfl) ?_ ?_
      · exact trivial
      refine AMx.ret ?_
      exact RetP.mk (r := vc (bo true)) (by kernel_rfl) (by rw [hasP_end (by omega) hS hE])

theorem f29_body : Tryd.f29.body = some (.seq (.region 0 (rg Tryd.f29 0) false) (.seq (.region 1 (rg Tryd.f29 1) false) (.ret))) := by kernel_rfl

set_option maxRecDepth 100000 in
set_option maxHeartbeats 8000000 in
theorem RWithin_c (s top : Bytes) (hb : top.length ≤ 100000) : Pure Tryd.prog 29 [tc (st s), tc (st top)] (vc (bo (withinS s top))) := by
  refine Pure.of_body Tryd.func29 f29_body (by kernel_rfl) Tryd.ntmps29 (by kernel_rfl) (by kernel_rfl) ?_
  refine AMx.seq ?_
  refine AMx.region (ces := []) (ks := [0, 1]) (hs := []) (cs := []) (s' := AS.lst 18 [(0, vc (st s)), (1, vc (st top))] []) (by kernel_rfl) ?_ ?_
  · exact trivial
  refine AMx.seq ?_
  refine AMx.region (ces := [(11, CE.call [] [] (vc (bo (hasP s (top ++ [47])))) [])]) (ks := [4]) (hs := []) (cs := [((decide (top = [])) = false) → allP [], ((decide (top = [])) = false) → allP [], ((decide (top = [])) = false) → allP [(decide (top = [])) = false, (decide (top = [])) = false], (decide (top = [])) = false → allP [(decide (top = [])) = false], (((decide (top = [])) || (decide (s = top))) = false) → allP [], (((decide (top = [])) || (decide (s = top))) = false) → allP [], (((decide (top = [])) || (decide (s = top))) = false) → allP [((decide (top = [])) || (decide (s = top))) = false, List.length top + List.length ([47] : List UInt8) ≤ maxLen], (((decide (top = [])) || (decide (s = top))) = false) → allP [((decide (top = [])) || (decide (s = top))) = false, ((decide (top = [])) || (decide (s = top))) = false, Spec Tryd.prog 45 [tc (st s), tc (st (top ++ [47]))] (ofH []) (vc (bo (hasP s (top ++ [47])))) (ofH [])], ((decide (top = [])) || (decide (s = top))) = false → allP [((decide (top = [])) || (decide (s = top))) = false]]) (s' := AS.lst 18 [(4, vc (bo (((decide (top = [])) || (decide (s = top))) || (hasP s (top ++ [47])))))] []) (by kernel_rfl) ?_ ?_
  · exact ⟨(fun _ => trivial), (fun _ => trivial), (fun hp => ⟨hp, hp⟩), (fun hp2 => (by first | exact hp2 | exact ⟨hp, hp2⟩)), (fun _ => trivial), (fun _ => trivial), (fun hp => by have hq := hp; (try simp only [decide_eq_true_eq, decide_eq_false_iff_not, Bool.and_eq_true, Bool.or_eq_true, Bool.and_eq_false_iff, Bool.or_eq_false_iff, Bool.not_eq_true', Bool.not_eq_false', Bool.not_eq_true, Bool.not_eq_false] at hq); exact ⟨hp, (show List.length top + List.length ([47] : List UInt8) ≤ maxLen from (by simp only [List.length_append, List.length_cons, List.length_nil, maxLen]; omega))⟩), (fun hp => by have hq := hp; (try simp only [decide_eq_true_eq, decide_eq_false_iff_not, Bool.and_eq_true, Bool.or_eq_true, Bool.and_eq_false_iff, Bool.or_eq_false_iff, Bool.not_eq_true', Bool.not_eq_false', Bool.not_eq_true, Bool.not_eq_false] at hq); exact ⟨hp, hp, (RBegins_c s (top ++ [47]))⟩), (fun hp2 => (by first | exact hp2 | exact ⟨hp, hp2⟩))⟩
  refine AMx.ret ?_
  exact RetP.mk (r := vc (bo (((decide (top = [])) || (decide (s = top))) || (hasP s (top ++ [47]))))) (by kernel_rfl) (by rw [within_ref])

end AL.Under
