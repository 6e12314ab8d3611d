/- under: the contracts of its functions, by their walks. No condition. -/
import Derived.Test.YtfedegdihgeelaaGreatDoorUnderA
namespace AL.Under
open Go Go.Proofs AL AL.Fnv
set_option linter.unusedVariables false
set_option linter.unusedSimpArgs false

theorem f62_body : Tryz.f62.body = some (.seq (.region 0 (rg Tryz.f62 0) false) (.seq (.seq (.region 1 (rg Tryz.f62 1) false) (.cond (.tmp 10) (.seq (.region 2 (rg Tryz.f62 2) false) (.ret)) (.skip))) (.seq (.seq (.region 3 (rg Tryz.f62 3) false) (.block 0 (.loop (.seq (.seq (.region 4 (rg Tryz.f62 4) false) (.cond (.tmp 14) (.skip) (.exit 0))) (.seq (.block 1 (.seq (.region 6 (rg Tryz.f62 6) true) (.cond (.tmp 23) (.seq (.region 7 (rg Tryz.f62 7) false) (.ret)) (.skip)))) (.region 5 (rg Tryz.f62 5) false)))))) (.seq (.region 8 (rg Tryz.f62 8) false) (.ret))))) := by kernel_rfl

set_option maxRecDepth 100000 in
set_option maxHeartbeats 8000000 in
theorem RBegins_c (s t : Bytes) : Pure Tryz.prog 62 [tc (st s), tc (st t)] (vc (bo (hasP s t))) := by
 refine Pure.of_body Tryz.func62 f62_body (by kernel_rfl) Tryz.ntmps62 (by kernel_rfl) (by kernel_rfl) ?_
 refine AMx.str 0 (b := s) rfl (fun hls => ?_)
 simp only [maxLen] at hls
 refine AMx.str 1 (b := t) rfl (fun hlt => ?_)
 simp only [maxLen] at hlt
 refine gS [] [] 24 [(0, vc (st s)), (1, vc (st t))] [] trivial ?_
 refine gQ ?_
 refine gS [] [] 24 [(0, vc (st s)), (1, vc (st t)), (10, vc (bo (decide ((List.length s : Int) < (List.length t : Int)))))] [] trivial ?_
 refine gC ((List.length s : Int) < (List.length t : Int)) (fun hc1 => ?_) fun hc1 => ?_
 ·
  refine gS [] [] 24 [(4, vc (bo false))] [] trivial ?_
  exact gT (vc (bo false)) (by first | rw [hasP_long (by omega)] | rw [hasP_ne (i := k) (by omega) (by assumption)])
 ·
  refine AMx.skip ?_
  refine gQ ?_
  refine gS [] [] 24 [(0, vc (st s)), (1, vc (st t)), (5, vc (i6 0))] [] trivial ?_
  refine AMx.block ?_
  refine AMx.ent (s' := AS.lst 24 [(0, vc (st s)), (1, vc (st t)), (5, vc (i6 0))] []) (ent_proj [0, 1, 5] []) ?_
  refine AMx.loop (fun mm ss => ∃ (k : Nat), (k ≤ t.length ∧ t.length ≤ s.length ∧ List.take k s = List.take k t) ∧ mm = t.length - k ∧ ss = AS.lst 24 [(0, vc (st s)), (1, vc (st t)), (5, vc (i6 (k : Int)))] []) ⟨0, ?_, rfl, ?_⟩ ?_
  · exact ⟨by omega, by omega, rfl⟩
  · rfl
  rintro mm ss ⟨k, ⟨hI, hS, hE⟩, rfl, rfl⟩
  refine gQ ?_
  refine gS [] [] 24 [(0, vc (st s)), (1, vc (st t)), (5, vc (i6 (k : Int))), (14, vc (bo (decide ((k : Int) < (List.length t : Int)))))] [] trivial ?_
  refine gC ((k : Int) < (List.length t : Int)) (fun hc2 => ?_) fun hc2 => ?_
  ·
   refine AMx.skip ?_
   refine gQ ?_
   refine AMx.block ?_
   refine gY [] [] [(0 : Int) ≤ (k : Int), (k : Int) < List.length s, (0 : Int) ≤ (k : Int), (k : Int) < List.length t] 24 [(0, vc (st s)), (1, vc (st t)), (5, vc (i6 (k : Int))), (23, vc (bo (!decide (((List.getD s k 0).toNat : Int) = ((List.getD t k 0).toNat : Int)))))] [] mixed ⟨(show (0 : Int) ≤ (k : Int) from (by omega)), (show (k : Int) < List.length s from (by omega)), (show (0 : Int) ≤ (k : Int) from (by omega)), (show (k : Int) < List.length t from (by omega))⟩ ?_
   refine gN (((List.getD s k 0).toNat : Int) = ((List.getD t k 0).toNat : Int)) (fun hc3 => ?_) fun hc3 => ?_
   ·
    refine gS [] [] 24 [(4, vc (bo false))] [] trivial ?_
    exact gT (vc (bo false)) (by first | rw [hasP_long (by omega)] | rw [hasP_ne (i := k) (by omega) (by assumption)])
   ·
    refine AMx.skip ?_
    refine AMx.blk ?_
    refine gR [] [InR .i64 ((k : Int) + 1)] 24 [(0, vc (st s)), (1, vc (st t)), (5, vc (i6 ((k : Int) + 1)))] [] (show InR .i64 ((k : Int) + 1) from (inR64 (by omega) (by omega))) ?_
    refine AMx.ent_inv (s' := AS.lst 24 [(0, vc (st s)), (1, vc (st t)), (5, vc (i6 ((k : Int) + 1)))] []) (ent_proj [0, 1, 5] []) ?_
    refine AMx.inv ⟨_, ?_, k + 1, ?_, rfl, ?_⟩
    rotate_left
    · exact ⟨by omega, by omega, take_byte (by omega) (by omega) hE (by assumption)⟩
    · rfl
    · omega
  ·
   refine AMx.exit ?_
   refine AMx.code_exit ?_
   refine AMx.inv_exit ?_
   refine AMx.blk_exit ?_
   refine gS [] [] 24 [(4, vc (bo true))] [] trivial ?_
   exact gT (vc (bo true)) (by rw [hasP_end (by omega) hS hE])

theorem f36_body : Tryz.f36.body = some (.seq (.region 0 (rg Tryz.f36 0) false) (.seq (.region 1 (rg Tryz.f36 1) false) (.ret))) := by kernel_rfl

set_option maxRecDepth 100000 in
set_option maxHeartbeats 8000000 in
theorem RWithin_c (s top : Bytes) (hb : top.length ≤ 100000) : Pure Tryz.prog 36 [tc (st s), tc (st top)] (vc (bo (withinS s top))) := by
 refine Pure.of_body Tryz.func36 f36_body (by kernel_rfl) Tryz.ntmps36 (by kernel_rfl) (by kernel_rfl) ?_
 refine gS [] [] 18 [(0, vc (st s)), (1, vc (st top))] [] trivial ?_
 refine gS [(11, CE.call [] [] (vc (bo (hasP s (top ++ [47])))) [])] [((decide (top = [])) = false) → allP [], ((decide (top = [])) = false) → allP [], ((decide (top = [])) = false) → allP [(decide (top = [])) = false, (decide (top = [])) = false], (decide (top = [])) = false → allP [(decide (top = [])) = false], (((decide (top = [])) || (decide (s = top))) = false) → allP [], (((decide (top = [])) || (decide (s = top))) = false) → allP [], (((decide (top = [])) || (decide (s = top))) = false) → allP [((decide (top = [])) || (decide (s = top))) = false, List.length top + List.length ([47] : List UInt8) ≤ maxLen], (((decide (top = [])) || (decide (s = top))) = false) → allP [((decide (top = [])) || (decide (s = top))) = false, ((decide (top = [])) || (decide (s = top))) = false, Spec Tryz.prog 62 [tc (st s), tc (st (top ++ [47]))] (ofH []) (vc (bo (hasP s (top ++ [47])))) (ofH [])], ((decide (top = [])) || (decide (s = top))) = false → allP [((decide (top = [])) || (decide (s = top))) = false]] 18 [(4, vc (bo (((decide (top = [])) || (decide (s = top))) || (hasP s (top ++ [47])))))] [] ⟨(fun _ => trivial), (fun _ => trivial), (fun hp => ⟨hp, hp⟩), (fun hp2 => (by first | exact hp2 | exact ⟨hp, hp2⟩)), (fun _ => trivial), (fun _ => trivial), (fun hp => by have hq := hp; (try simp only [decide_eq_true_eq, decide_eq_false_iff_not, Bool.and_eq_true, Bool.or_eq_true, Bool.and_eq_false_iff, Bool.or_eq_false_iff, Bool.not_eq_true', Bool.not_eq_false', Bool.not_eq_true, Bool.not_eq_false] at hq); exact ⟨hp, (show List.length top + List.length ([47] : List UInt8) ≤ maxLen from (by simp only [List.length_append, List.length_cons, List.length_nil, maxLen]; omega))⟩), (fun hp => by have hq := hp; (try simp only [decide_eq_true_eq, decide_eq_false_iff_not, Bool.and_eq_true, Bool.or_eq_true, Bool.and_eq_false_iff, Bool.or_eq_false_iff, Bool.not_eq_true', Bool.not_eq_false', Bool.not_eq_true, Bool.not_eq_false] at hq); exact ⟨hp, hp, (RBegins_c s (top ++ [47]))⟩), (fun hp2 => (by first | exact hp2 | exact ⟨hp, hp2⟩))⟩ ?_
 exact gT (vc (bo (((decide (top = [])) || (decide (s = top))) || (hasP s (top ++ [47]))))) (by rw [within_ref])

theorem f39_body : Tryz.f39.body = some (.seq (.region 0 (rg Tryz.f39 0) false) (.seq (.region 1 (rg Tryz.f39 1) false) (.ret))) := by kernel_rfl

set_option maxRecDepth 100000 in
set_option maxHeartbeats 8000000 in
theorem RBelow_c (s top : Bytes) (hb : top.length ≤ 100000) : Pure Tryz.prog 39 [tc (st s), tc (st top)] (vc (bo (belowS s top))) := by
 refine Pure.of_body Tryz.func39 f39_body (by kernel_rfl) Tryz.ntmps39 (by kernel_rfl) (by kernel_rfl) ?_
 refine gS [] [] 13 [(0, vc (st s)), (1, vc (st top))] [] trivial ?_
 refine gS [(2, CE.call [] [] (vc (bo (withinS s top))) [])] [Spec Tryz.prog 36 [tc (st s), tc (st top)] (ofH []) (vc (bo (withinS s top))) (ofH []), ((withinS s top) = true) → allP [], ((withinS s top) = true) → allP [], ((withinS s top) = true) → allP [(withinS s top) = true, (withinS s top) = true], (withinS s top) = true → allP [(withinS s top) = true]] 13 [(4, vc (bo ((withinS s top) && (!decide (s = top)))))] [] ⟨(RWithin_c s top (by first | omega | decide | exact getD_len hb _ (by omega) | (simp only [List.length_take, List.length_cons, List.length_nil]; omega))), (fun _ => trivial), (fun _ => trivial), (fun hp => ⟨hp, hp⟩), (fun hp2 => (by first | exact hp2 | exact ⟨hp, hp2⟩))⟩ ?_
 exact gT (vc (bo ((withinS s top) && (!decide (s = top))))) (by rw [below_ref])

end AL.Under
