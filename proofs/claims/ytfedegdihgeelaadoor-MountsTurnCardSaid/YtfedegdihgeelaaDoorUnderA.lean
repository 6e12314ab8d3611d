/- under: the contracts of its functions, by their walks. No condition. -/
import Derived.Test.YtfedegdihgeelaaDoorCutE
namespace AL.Under
open Go Go.Proofs AL AL.Fnv
set_option linter.unusedVariables false
set_option linter.unusedSimpArgs false

theorem f30_body : Tryd.f30.body = some (.seq (.region 0 (rg Tryd.f30 0) false) (.seq (.seq (.region 1 (rg Tryd.f30 1) false) (.cond (.tmp 9) (.seq (.region 2 (rg Tryd.f30 2) false) (.ret)) (.skip))) (.seq (.region 3 (rg Tryd.f30 3) false) (.seq (.seq (.region 4 (rg Tryd.f30 4) false) (.cond (.tmp 20) (.seq (.region 5 (rg Tryd.f30 5) false) (.ret)) (.skip))) (.seq (.region 6 (rg Tryd.f30 6) false) (.ret)))))) := by kernel_rfl

set_option maxRecDepth 100000 in
set_option maxHeartbeats 8000000 in
theorem rest_c (s top : Bytes) : Pure Tryd.prog 30 [tc (st s), tc (st top)] (AV.tup [tc (st ((restS s top).1)), tc (bo ((restS s top).2))]) := by
 refine Pure.of_body Tryd.func30 f30_body (by kernel_rfl) Tryd.ntmps30 (by kernel_rfl) (by kernel_rfl) ?_
 refine gS [] [] 25 [(0, vc (st s)), (1, vc (st top))] [] trivial ?_
 refine gQ ?_
 refine gS [] [] 25 [(0, vc (st s)), (1, vc (st top)), (9, vc (bo (decide (top = []))))] [] trivial ?_
 refine gC (top = []) (fun hc1 => ?_) fun hc1 => ?_
 ·
  refine gS [] [] 25 [(4, vc (st s)), (5, vc (bo (!decide (s = []))))] [] trivial ?_
  exact gT (AV.tup [tc (st s), tc (bo (!decide (s = [])))]) (by rw [show restS s top = (s, !decide (s = [])) from by unfold restS; simp [*]])
 ·
  refine AMx.skip ?_
  refine gS [(2, CE.call [] [] (AV.tup [tc (st (trimP s top)), tc (bo (hasP s top))]) [])] [Spec Tryd.prog 47 [tc (st s), tc (st top)] (ofH []) (AV.tup [tc (st (trimP s top)), tc (bo (hasP s top))]) (ofH [])] 25 [(6, vc (st (trimP s top))), (7, vc (bo (hasP s top)))] [] (CutPrefix_c s top) ?_
  refine gQ ?_
  refine gS [] [] 25 [(6, vc (st (trimP s top))), (20, vc (bo (!(hasP s top))))] [] trivial ?_
  refine gB (!(hasP s top)) (fun hc2 => ?_) fun hc2 => ?_
  ·
   try simp only [xT, xF, xN, xM] at hc2
   refine gS [] [] 25 [(4, vc (st [])), (5, vc (bo false))] [] trivial ?_
   exact gT (AV.tup [tc (st []), tc (bo false)]) (by rw [show restS s top = ([], false) from by unfold restS; simp [*]])
  ·
   try simp only [xT, xF, xN, xM] at hc2
   refine AMx.skip ?_
   refine gS [(1, CE.call [] [] (AV.tup [tc (st (trimP (trimP s top) [47])), tc (bo (hasP (trimP s top) [47]))]) [])] [Spec Tryd.prog 47 [tc (st (trimP s top)), tc (st [47])] (ofH []) (AV.tup [tc (st (trimP (trimP s top) [47])), tc (bo (hasP (trimP s top) [47]))]) (ofH [])] 25 [(4, vc (st (trimP (trimP s top) [47]))), (5, vc (bo (hasP (trimP s top) [47])))] [] (CutPrefix_c (trimP s top) [47]) ?_
   exact gT (AV.tup [tc (st (trimP (trimP s top) [47])), tc (bo (hasP (trimP s top) [47]))]) (by rw [show restS s top = (trimP (trimP s top) [47], hasP (trimP s top) [47]) from by unfold restS; simp [*]])

theorem f13_body : Tryd.f13.body = some (.seq (.region 0 (rg Tryd.f13 0) false) (.seq (.region 1 (rg Tryd.f13 1) false) (.seq (.region 2 (rg Tryd.f13 2) false) (.ret)))) := by kernel_rfl

set_option maxRecDepth 100000 in
set_option maxHeartbeats 8000000 in
theorem Below_c (s top : Bytes) : Pure Tryd.prog 13 [tc (st s), tc (st top)] (vc (bo (belowS s top))) := by
 refine Pure.of_body Tryd.func13 f13_body (by kernel_rfl) Tryd.ntmps13 (by kernel_rfl) (by kernel_rfl) ?_
 refine gS [] [] 14 [(0, vc (st s)), (1, vc (st top))] [] trivial ?_
 refine gS [(2, CE.call [] [] (AV.tup [tc (st ((restS s top).1)), tc (bo ((restS s top).2))]) [])] [Spec Tryd.prog 30 [tc (st s), tc (st top)] (ofH []) (AV.tup [tc (st ((restS s top).1)), tc (bo ((restS s top).2))]) (ofH [])] 14 [(6, vc (bo ((restS s top).2)))] [] (rest_c s top) ?_
 refine gS [] [] 14 [(4, vc (bo ((restS s top).2)))] [] trivial ?_
 exact gT (vc (bo ((restS s top).2))) rfl

theorem f12_body : Tryd.f12.body = some (.seq (.region 0 (rg Tryd.f12 0) false) (.seq (.region 1 (rg Tryd.f12 1) false) (.ret))) := by kernel_rfl

set_option maxRecDepth 100000 in
set_option maxHeartbeats 8000000 in
theorem Within_c (s top : Bytes) : Pure Tryd.prog 12 [tc (st s), tc (st top)] (vc (bo (withinS s top))) := by
 refine Pure.of_body Tryd.func12 f12_body (by kernel_rfl) Tryd.ntmps12 (by kernel_rfl) (by kernel_rfl) ?_
 refine gS [] [] 13 [(0, vc (st s)), (1, vc (st top))] [] trivial ?_
 refine gS [(6, CE.call [] [] (vc (bo (belowS s top))) [])] [((decide (s = top)) = false) → allP [], ((decide (s = top)) = false) → allP [], ((decide (s = top)) = false) → allP [(decide (s = top)) = false, (decide (s = top)) = false, Spec Tryd.prog 13 [tc (st s), tc (st top)] (ofH []) (vc (bo (belowS s top))) (ofH [])], (decide (s = top)) = false → allP [(decide (s = top)) = false]] 13 [(4, vc (bo ((decide (s = top)) || (belowS s top))))] [] ⟨(fun _ => trivial), (fun _ => trivial), (fun hp => by have hq := hp; (try simp only [decide_eq_true_eq, decide_eq_false_iff_not, Bool.and_eq_true, Bool.or_eq_true, Bool.and_eq_false_iff, Bool.or_eq_false_iff, Bool.not_eq_true', Bool.not_eq_false', Bool.not_eq_true, Bool.not_eq_false] at hq); exact ⟨hp, hp, (Below_c s top)⟩), (fun hp2 => (by first | exact hp2 | exact ⟨hp, hp2⟩))⟩ ?_
 exact gT (vc (bo ((decide (s = top)) || (belowS s top)))) rfl

theorem f38_body : Tryd.f38.body = some (.seq (.region 0 (rg Tryd.f38 0) false) (.seq (.region 1 (rg Tryd.f38 1) false) (.ret))) := by kernel_rfl

set_option maxRecDepth 100000 in
set_option maxHeartbeats 8000000 in
theorem nestC_c (t s : Bytes) : Pure Tryd.prog 38 [tc (st t), tc (SC.ref 1 (rl [st s]))] (vc (bo (withinS s t || withinS t s))) := by
 refine Pure.of_body Tryd.func38 f38_body (by kernel_rfl) Tryd.ntmps38 (by kernel_rfl) (by kernel_rfl) ?_
 refine gS [] [] 12 [(0, vc (st t)), (1, vc (SC.ref 1 (rl [st s])))] [] trivial ?_
 refine gS [(2, CE.call [] [] (vc (bo (withinS s t))) []), (6, CE.call [] [] (vc (bo (withinS t s))) [])] [Spec Tryd.prog 12 [tc (st s), tc (st t)] (ofH []) (vc (bo (withinS s t))) (ofH []), ((withinS s t) = false) → allP [], ((withinS s t) = false) → allP [], ((withinS s t) = false) → allP [(withinS s t) = false, (withinS s t) = false, Spec Tryd.prog 12 [tc (st t), tc (st s)] (ofH []) (vc (bo (withinS t s))) (ofH [])], (withinS s t) = false → allP [(withinS s t) = false]] 12 [(3, vc (bo ((withinS s t) || (withinS t s))))] [] ⟨(Within_c s t), (fun _ => trivial), (fun _ => trivial), (fun hp => by have hq := hp; (try simp only [decide_eq_true_eq, decide_eq_false_iff_not, Bool.and_eq_true, Bool.or_eq_true, Bool.and_eq_false_iff, Bool.or_eq_false_iff, Bool.not_eq_true', Bool.not_eq_false', Bool.not_eq_true, Bool.not_eq_false] at hq); exact ⟨hp, hp, (Within_c t s)⟩), (fun hp2 => (by first | exact hp2 | exact ⟨hp, hp2⟩))⟩ ?_
 exact gT (vc (bo ((withinS s t) || (withinS t s)))) rfl

theorem f52_body : Tryd.f52.body = some (.seq (.region 0 (rg Tryd.f52 0) false) (.seq (.seq (.region 1 (rg Tryd.f52 1) false) (.block 0 (.loop (.seq (.region 2 (rg Tryd.f52 2) false) (.seq (.cond (.tmp 9) (.skip) (.exit 0)) (.seq (.block 1 (.seq (.region 3 (rg Tryd.f52 3) false) (.seq (.region 4 (rg Tryd.f52 4) false) (.cond (.tmp 16) (.seq (.region 5 (rg Tryd.f52 5) false) (.ret)) (.skip))))) (.region 6 (rg Tryd.f52 6) false))))))) (.seq (.region 7 (rg Tryd.f52 7) false) (.ret)))) := by kernel_rfl

set_option maxRecDepth 100000 in
set_option maxHeartbeats 8000000 in
theorem Index_c (f : FuncId) (caps : List Cap) (p : Bytes → Bool) (hf : ∀ x : Bytes, Pure Tryd.prog f ([tc (st x)] ++ List.map capT caps) (vc (bo (p x)))) (l : List Bytes) : Pure Tryd.prog 52 [tc (slS l), TV.c (.fn f caps)] (vc (i6 (Lib.idxS p l))) := by
 refine Pure.of_body Tryd.func52 f52_body (by kernel_rfl) Tryd.ntmps52 (by kernel_rfl) (by kernel_rfl) ?_
 refine AMx.sl 0 (l := l) rfl (fun hl => ?_)
 simp only [maxLen] at hl
 refine gS [] [] 19 [(0, vc (slS l)), (1, AV.t (TV.c (.fn f caps)))] [] trivial ?_
 refine gQ ?_
 refine gS [] [] 19 [(0, vc (slS l)), (1, AV.t (TV.c (.fn f caps))), (7, vc (i6 (List.length l : Int))), (8, vc (i6 0))] [] trivial ?_
 refine AMx.block ?_
 refine AMx.ent (s' := AS.lst 19 [(0, vc (slS l)), (1, AV.t (TV.c (.fn f caps))), (7, vc (i6 (List.length l : Int))), (8, vc (i6 0))] []) (ent_proj [0, 1, 7, 8] []) ?_
 refine AMx.loop (fun mm ss => ∃ (k : Nat), (k ≤ l.length ∧ ∀ x ∈ List.take k l, p x = false) ∧ mm = l.length - k ∧ ss = AS.lst 19 [(0, vc (slS l)), (1, AV.t (TV.c (.fn f caps))), (7, vc (i6 (List.length l : Int))), (8, vc (i6 (k : Int)))] []) ⟨0, ?_, rfl, ?_⟩ ?_
 · exact ⟨by omega, fun x hx => by simp at hx⟩
 · rfl
 rintro mm ss ⟨k, ⟨hI, hN⟩, rfl, rfl⟩
 refine gS [] [] 19 [(0, vc (slS l)), (1, AV.t (TV.c (.fn f caps))), (7, vc (i6 (List.length l : Int))), (8, vc (i6 (k : Int))), (9, vc (bo (decide ((k : Int) < (List.length l : Int)))))] [] trivial ?_
 refine gQ ?_
 refine gC ((k : Int) < (List.length l : Int)) (fun hc1 => ?_) fun hc1 => ?_
 ·
  refine AMx.skip ?_
  refine gQ ?_
  refine AMx.block ?_
  refine gS [] [] 19 [(0, vc (slS l)), (1, AV.t (TV.c (.fn f caps))), (5, vc (i6 (k : Int))), (7, vc (i6 (List.length l : Int))), (8, vc (i6 (k : Int)))] [] trivial ?_
  refine gS [(5, CE.call [] [] (vc (bo (p (List.getD l k [])))) [])] [(0 : Int) ≤ (k : Int), (k : Int) < List.length l, Spec Tryd.prog f ([tc (st (List.getD l k []))] ++ List.map capT caps) (ofH []) (vc (bo (p (List.getD l k [])))) (ofH [])] 19 [(0, vc (slS l)), (1, AV.t (TV.c (.fn f caps))), (5, vc (i6 (k : Int))), (7, vc (i6 (List.length l : Int))), (8, vc (i6 (k : Int))), (16, vc (bo (p (List.getD l k []))))] [] ⟨(show (0 : Int) ≤ (k : Int) from (by omega)), (show (k : Int) < List.length l from (by omega)), (hf (List.getD l k []))⟩ ?_
  refine gB (p (List.getD l k [])) (fun hc2 => ?_) fun hc2 => ?_
  ·
   try simp only [xT, xF] at hc2
   refine gS [] [] 19 [(4, vc (i6 (k : Int)))] [] trivial ?_
   exact gT (vc (i6 (k : Int))) (by rw [Lib.idx_hit [] l k (by omega) hN (by assumption)])
  ·
   try simp only [xT, xF] at hc2
   refine AMx.skip ?_
   refine AMx.blk ?_
   refine gR [] [InR .i64 ((k : Int) + 1)] 19 [(0, vc (slS l)), (1, AV.t (TV.c (.fn f caps))), (7, vc (i6 (List.length l : Int))), (8, vc (i6 ((k : Int) + 1)))] [] (show InR .i64 ((k : Int) + 1) from (inR64 (by omega) (by omega))) ?_
   refine AMx.ent_inv (s' := AS.lst 19 [(0, vc (slS l)), (1, AV.t (TV.c (.fn f caps))), (7, vc (i6 (List.length l : Int))), (8, vc (i6 ((k : Int) + 1)))] []) (ent_proj [0, 1, 7, 8] []) ?_
   refine AMx.inv ⟨_, ?_, k + 1, ?_, rfl, ?_⟩
   rotate_left
   · exact ⟨by omega, Lib.all_step [] l k (by omega) hN (by assumption)⟩
   · rfl
   · omega
 ·
  refine AMx.exit ?_
  refine AMx.code_exit ?_
  refine AMx.inv_exit ?_
  refine AMx.blk_exit ?_
  refine gS [] [] 19 [(4, vc (i6 (-1)))] [] trivial ?_
  exact gT (vc (i6 (-1))) (by rw [Lib.idx_none (fun x hx => hN x (by rwa [List.take_of_length_le (by omega)]))])

theorem f37_body : Tryd.f37.body = some (.seq (.region 0 (rg Tryd.f37 0) false) (.seq (.region 1 (rg Tryd.f37 1) false) (.ret))) := by kernel_rfl

set_option maxRecDepth 100000 in
set_option maxHeartbeats 8000000 in
theorem Contains_c (f : FuncId) (caps : List Cap) (p : Bytes → Bool) (hf : ∀ x : Bytes, Pure Tryd.prog f ([tc (st x)] ++ List.map capT caps) (vc (bo (p x)))) (l : List Bytes) : Pure Tryd.prog 37 [tc (slS l), TV.c (.fn f caps)] (vc (bo (decide (0 ≤ AL.Lib.idxS p l)))) := by
 refine Pure.of_body Tryd.func37 f37_body (by kernel_rfl) Tryd.ntmps37 (by kernel_rfl) (by kernel_rfl) ?_
 refine gS [] [] 9 [(0, vc (slS l)), (1, AV.t (TV.c (.fn f caps)))] [] trivial ?_
 refine gS [(2, CE.call [] [] (vc (i6 (AL.Lib.idxS p l))) [])] [Spec Tryd.prog 52 [tc (slS l), TV.c (.fn f caps)] (ofH []) (vc (i6 (AL.Lib.idxS p l))) (ofH [])] 9 [(4, vc (bo (decide (0 ≤ AL.Lib.idxS p l))))] [] (Index_c f caps p hf l) ?_
 exact gT (vc (bo (decide (0 ≤ AL.Lib.idxS p l)))) rfl

theorem f22_body : Tryd.f22.body = some (.seq (.region 0 (rg Tryd.f22 0) false) (.seq (.region 1 (rg Tryd.f22 1) false) (.ret))) := by kernel_rfl

set_option maxRecDepth 100000 in
set_option maxHeartbeats 8000000 in
theorem Nested_c (s : Bytes) (l : List Bytes) : Pure Tryd.prog 22 [tc (st s), tc (slS l)] (vc (bo (nestedS s l))) := by
 refine Pure.of_body Tryd.func22 f22_body (by kernel_rfl) Tryd.ntmps22 (by kernel_rfl) (by kernel_rfl) ?_
 refine gS [(0, CE.shr none)] [] 8 [(1, vc (slS l)), (2, vc (SC.ref 1 (rl [st s])))] [] trivial ?_
 refine gS [(2, CE.call [] [] (vc (bo (decide (0 ≤ AL.Lib.idxS (fun x : Bytes => withinS s x || withinS x s) l)))) [])] [Spec Tryd.prog 37 [tc (slS l), TV.c (.fn 38 [.s (SC.ref 1 (rl [st s]))])] (ofH []) (vc (bo (decide (0 ≤ AL.Lib.idxS (fun x : Bytes => withinS s x || withinS x s) l)))) (ofH [])] 8 [(4, vc (bo (decide (0 ≤ AL.Lib.idxS (fun x : Bytes => withinS s x || withinS x s) l))))] [] (Contains_c 38 [.s (SC.ref 1 (rl [st s]))] (fun x : Bytes => withinS s x || withinS x s) (fun x => nestC_c x s) l) ?_
 exact gT (vc (bo (decide (0 ≤ AL.Lib.idxS (fun x : Bytes => withinS s x || withinS x s) l)))) (by rw [← nested_idx])

end AL.Under
