/- route: the contracts of its functions, by their walks. No condition. -/
import Derived.Test.YtfedegdihgeelaaDoorRouteC
namespace AL.Route
open Go Go.Proofs AL AL.Rune
set_option linter.unusedVariables false
set_option linter.unusedSimpArgs false

theorem f63_body : Tryd.f63.body = some (.seq (.region 0 (rg Tryd.f63 0) false) (.seq (.region 1 (rg Tryd.f63 1) false) (.ret))) := by kernel_rfl

set_option maxRecDepth 100000 in
set_option maxHeartbeats 8000000 in
theorem Split_c (s : Bytes) (hb : s.length ≤ 100000) : Pure Tryd.prog 63 [tc (st s), tc (st [47])] (vc (AL.Fnv.slS (piecesS s))) := by
 refine Pure.of_body Tryd.func63 f63_body (by kernel_rfl) Tryd.ntmps63 (by kernel_rfl) (by kernel_rfl) ?_
 refine gS [] [] 8 [(0, vc (st s)), (1, vc (st [47]))] [] trivial ?_
 refine gS [(2, CE.call [] [] (vc (AL.Fnv.slS (piecesS s))) [])] [Spec Tryd.prog 75 [tc (st s), tc (st [47]), tc (i6 0), tc (i6 (-1))] (ofH []) (vc (AL.Fnv.slS (piecesS s))) (ofH [])] 8 [(4, vc (AL.Fnv.slS (piecesS s)))] [] (genSplit_c s (by omega)) ?_
 exact gT (vc (AL.Fnv.slS (piecesS s))) rfl

theorem f64_body : Tryd.f64.body = some (.seq (.region 0 (rg Tryd.f64 0) false) (.seq (.region 1 (rg Tryd.f64 1) false) (.seq (.seq (.region 2 (rg Tryd.f64 2) false) (.block 0 (.loop (.seq (.region 3 (rg Tryd.f64 3) false) (.seq (.cond (.tmp 9) (.skip) (.exit 0)) (.seq (.block 1 (.seq (.region 4 (rg Tryd.f64 4) false) (.seq (.region 5 (rg Tryd.f64 5) false) (.block 2 (.seq (.region 6 (rg Tryd.f64 6) false) (.cond (.tmp 14) (.seq (.region 7 (rg Tryd.f64 7) false) (.ret)) (.seq (.region 8 (rg Tryd.f64 8) false) (.cond (.tmp 16) (.region 9 (rg Tryd.f64 9) false) (.skip))))))))) (.region 10 (rg Tryd.f64 10) false))))))) (.seq (.seq (.region 11 (rg Tryd.f64 11) false) (.cond (.tmp 25) (.seq (.region 12 (rg Tryd.f64 12) false) (.ret)) (.skip))) (.seq (.region 13 (rg Tryd.f64 13) false) (.ret)))))) := by kernel_rfl

set_option maxRecDepth 100000 in
set_option maxHeartbeats 8000000 in
theorem graded_c (l : List Bytes) (hb : ∀ p ∈ l, p.length ≤ 100000) : Pure Tryd.prog 64 [tc (AL.Fnv.slS l)] (vc (i6 (gradedS l))) := by
 refine Pure.of_body Tryd.func64 f64_body (by kernel_rfl) Tryd.ntmps64 (by kernel_rfl) (by kernel_rfl) ?_
 refine AMx.sl 0 (l := l) rfl (fun hl => ?_)
 simp only [maxLen] at hl
 refine gS [] [] 27 [(0, vc (AL.Fnv.slS l))] [] trivial ?_
 refine gS [] [] 27 [(0, vc (AL.Fnv.slS l)), (3, vc (i6 0))] [] trivial ?_
 refine gQ ?_
 refine gS [] [] 27 [(0, vc (AL.Fnv.slS l)), (3, vc (i6 0)), (6, vc (AL.Fnv.slS l)), (7, vc (i6 (List.length l : Int))), (8, vc (i6 0))] [] trivial ?_
 refine AMx.block ?_
 refine AMx.ent (s' := AS.lst 27 [(0, vc (AL.Fnv.slS l)), (3, vc (i6 0)), (6, vc (AL.Fnv.slS l)), (7, vc (i6 (List.length l : Int))), (8, vc (i6 0))] []) (ent_proj [0, 3, 6, 7, 8] []) ?_
 refine AMx.loop (fun mm ss => ∃ (k : Nat), (k ≤ l.length ∧ ∀ i, i < k → ¬ partS (List.getD l i []) = 4) ∧ mm = l.length - k ∧ ss = AS.lst 27 [(0, vc (AL.Fnv.slS l)), (3, vc (i6 (worstS (List.take k l)))), (6, vc (AL.Fnv.slS l)), (7, vc (i6 (List.length l : Int))), (8, vc (i6 (k : Int)))] []) ⟨0, ?_, rfl, ?_⟩ ?_
 · exact ⟨Nat.zero_le _, fun i hi => by omega⟩
 · rfl
 rintro mm ss ⟨k, ⟨hI, hN⟩, rfl, rfl⟩
 refine gS [] [] 27 [(0, vc (AL.Fnv.slS l)), (3, vc (i6 (worstS (List.take k l)))), (6, vc (AL.Fnv.slS l)), (7, vc (i6 (List.length l : Int))), (8, vc (i6 (k : Int))), (9, vc (bo (decide ((k : Int) < (List.length l : Int)))))] [] trivial ?_
 refine gQ ?_
 refine gC ((k : Int) < (List.length l : Int)) (fun hc1 => ?_) fun hc1 => ?_
 ·
  refine AMx.skip ?_
  refine gQ ?_
  refine AMx.block ?_
  refine gS [] [(0 : Int) ≤ (k : Int), (k : Int) < List.length l] 27 [(0, vc (AL.Fnv.slS l)), (3, vc (i6 (worstS (List.take k l)))), (5, vc (st (List.getD l k []))), (6, vc (AL.Fnv.slS l)), (7, vc (i6 (List.length l : Int))), (8, vc (i6 (k : Int)))] [] ⟨(show (0 : Int) ≤ (k : Int) from (by omega)), (show (k : Int) < List.length l from (by omega))⟩ ?_
  refine gS [(1, CE.call [] [] (vc (i6 (partS (List.getD l k [])))) [])] [Spec Tryd.prog 76 [tc (st (List.getD l k []))] (ofH []) (vc (i6 (partS (List.getD l k [])))) (ofH [])] 27 [(0, vc (AL.Fnv.slS l)), (3, vc (i6 (worstS (List.take k l)))), (6, vc (AL.Fnv.slS l)), (7, vc (i6 (List.length l : Int))), (8, vc (i6 (k : Int))), (13, vc (i6 (partS (List.getD l k []))))] [] (Part_c (List.getD l k []) (hb _ (AL.Lib.getD_mem [] l k (by omega)))) ?_
  refine AMx.block ?_
  refine gS [] [] 27 [(0, vc (AL.Fnv.slS l)), (3, vc (i6 (worstS (List.take k l)))), (6, vc (AL.Fnv.slS l)), (7, vc (i6 (List.length l : Int))), (8, vc (i6 (k : Int))), (13, vc (i6 (partS (List.getD l k [])))), (14, vc (bo (decide (partS (List.getD l k []) = 4))))] [] trivial ?_
  refine gC (partS (List.getD l k []) = 4) (fun hc2 => ?_) fun hc2 => ?_
  ·
   refine gS [] [] 27 [(2, vc (i6 4))] [] trivial ?_
   exact gT (vc (i6 4)) (by rw [graded_hit (k := k) (by omega) (by assumption)])
  ·
   refine gS [] [] 27 [(0, vc (AL.Fnv.slS l)), (3, vc (i6 (worstS (List.take k l)))), (6, vc (AL.Fnv.slS l)), (7, vc (i6 (List.length l : Int))), (8, vc (i6 (k : Int))), (16, vc (bo (decide (partS (List.getD l k []) = 5))))] [] trivial ?_
   refine gC (partS (List.getD l k []) = 5) (fun hc3 => ?_) fun hc3 => ?_
   ·
    refine gR [] [] 27 [(0, vc (AL.Fnv.slS l)), (3, vc (i6 5)), (6, vc (AL.Fnv.slS l)), (7, vc (i6 (List.length l : Int))), (8, vc (i6 (k : Int)))] [] trivial ?_
    refine AMx.blk ?_
    refine AMx.blk ?_
    refine gR [] [InR .i64 ((k : Int) + 1)] 27 [(0, vc (AL.Fnv.slS l)), (3, vc (i6 5)), (6, vc (AL.Fnv.slS l)), (7, vc (i6 (List.length l : Int))), (8, vc (i6 ((k : Int) + 1)))] [] (show InR .i64 ((k : Int) + 1) from (inR64 (by omega) (by omega))) ?_
    refine AMx.ent_inv (s' := AS.lst 27 [(0, vc (AL.Fnv.slS l)), (3, vc (i6 5)), (6, vc (AL.Fnv.slS l)), (7, vc (i6 (List.length l : Int))), (8, vc (i6 ((k : Int) + 1)))] []) (ent_proj [0, 3, 6, 7, 8] []) ?_
    refine AMx.inv ⟨_, ?_, k + 1, ?_, rfl, ?_⟩
    rotate_left
    · exact ⟨by omega, fun i hi => by rcases Nat.lt_or_ge i k with q | q; exact hN i q; rw [show i = k by omega]; assumption⟩
    · rw [worst_step l k (by omega), if_pos (by assumption)]; rfl
    · omega
   ·
    refine AMx.skip ?_
    refine AMx.blk ?_
    refine AMx.blk ?_
    refine gR [] [InR .i64 ((k : Int) + 1)] 27 [(0, vc (AL.Fnv.slS l)), (3, vc (i6 (worstS (List.take k l)))), (6, vc (AL.Fnv.slS l)), (7, vc (i6 (List.length l : Int))), (8, vc (i6 ((k : Int) + 1)))] [] (show InR .i64 ((k : Int) + 1) from (inR64 (by omega) (by omega))) ?_
    refine AMx.ent_inv (s' := AS.lst 27 [(0, vc (AL.Fnv.slS l)), (3, vc (i6 (worstS (List.take k l)))), (6, vc (AL.Fnv.slS l)), (7, vc (i6 (List.length l : Int))), (8, vc (i6 ((k : Int) + 1)))] []) (ent_proj [0, 3, 6, 7, 8] []) ?_
    refine AMx.inv ⟨_, ?_, k + 1, ?_, rfl, ?_⟩
    rotate_left
    · exact ⟨by omega, fun i hi => by rcases Nat.lt_or_ge i k with q | q; exact hN i q; rw [show i = k by omega]; assumption⟩
    · rw [worst_step l k (by omega), if_neg (by assumption)]; rfl
    · omega
 ·
  refine AMx.exit ?_
  refine AMx.code_exit ?_
  refine AMx.inv_exit ?_
  refine AMx.blk_exit ?_
  rw [show List.take k l = l from List.take_of_length_le (by omega)]
  refine gQ ?_
  refine gS [] [((decide (worstS l = 0)) = true) → allP [], ((decide (worstS l = 0)) = true) → allP [(decide (worstS l = 0)) = true], ((decide (worstS l = 0)) = true) → allP [(decide (worstS l = 0)) = true], (decide (worstS l = 0)) = true → allP [(decide (worstS l = 0)) = true]] 27 [(3, vc (i6 (worstS l))), (25, vc (bo ((decide (worstS l = 0)) && (decide (6 < (List.length l : Int))))))] [] ⟨(fun _ => trivial), (fun hp => hp), (fun hp => hp), (fun hp2 => (by first | exact hp2 | exact ⟨hp, hp2⟩))⟩ ?_
  refine gB (((decide (worstS l = 0)) && (decide (6 < (List.length l : Int))))) (fun hc4 => ?_) fun hc4 => ?_
  ·
   try simp only [xT, xF, xA, xB] at hc4
   refine gS [] [] 27 [(2, vc (i6 24))] [] trivial ?_
   exact gT (vc (i6 24)) (by rw [graded_end (fun i hi => hN i (by omega)), if_pos (by omega), if_pos (by omega)])
  ·
   try simp only [xT, xF, xA, xB] at hc4
   refine AMx.skip ?_
   refine gS [] [] 27 [(2, vc (i6 (worstS l)))] [] trivial ?_
   exact gT (vc (i6 (worstS l))) (by rw [graded_end (fun i hi => hN i (by omega))]; by_cases hw : worstS l = 0; rw [hw, if_pos rfl, if_neg (by omega)]; rw [if_neg hw])

theorem f42_body : Tryd.f42.body = some (.seq (.region 0 (rg Tryd.f42 0) false) (.seq (.seq (.region 1 (rg Tryd.f42 1) false) (.cond (.tmp 8) (.seq (.region 2 (rg Tryd.f42 2) false) (.ret)) (.skip))) (.seq (.region 3 (rg Tryd.f42 3) false) (.seq (.seq (.region 4 (rg Tryd.f42 4) false) (.seq (.region 5 (rg Tryd.f42 5) false) (.cond (.tmp 14) (.seq (.region 6 (rg Tryd.f42 6) false) (.ret)) (.skip)))) (.seq (.region 7 (rg Tryd.f42 7) false) (.ret)))))) := by kernel_rfl

set_option maxRecDepth 100000 in
set_option maxHeartbeats 8000000 in
theorem Parts_c (s : Bytes) : Pure Tryd.prog 42 [tc (st s)] (AV.tup [tc (AL.Fnv.slS ((partsS s).1)), tc (i6 ((partsS s).2))]) := by
 refine Pure.of_body Tryd.func42 f42_body (by kernel_rfl) Tryd.ntmps42 (by kernel_rfl) (by kernel_rfl) ?_
 refine gS [] [] 17 [(0, vc (st s))] [] trivial ?_
 refine gQ ?_
 refine gS [] [] 17 [(0, vc (st s)), (8, vc (bo (decide (64 < (List.length s : Int)))))] [] trivial ?_
 refine gC (64 < (List.length s : Int)) (fun hc1 => ?_) fun hc1 => ?_
 ·
  refine gS [] [] 17 [(2, vc (SC.nilsl)), (3, vc (i6 5))] [] trivial ?_
  refine AMx.ent (ent_weak 2 (v' := vc (AL.Fnv.slS [])) (by kernel_rfl) (AV.le_t (TV.le_c AC.le_nil))) ?_
  exact gT (AV.tup [tc (AL.Fnv.slS []), tc (i6 5)]) (by rw [show partsS s = ([], 5) from by first | rw [parts_no (by rw [check_big (by omega)]; decide), check_big (by omega)] | (have hk := check_small (s := s) (by omega); first | rw [parts_no (by omega), hk] | rw [parts_ok (by omega)])])
 ·
  refine AMx.skip ?_
  refine gS [(1, CE.call [] [] (vc (AL.Fnv.slS (piecesS s))) [])] [Spec Tryd.prog 63 [tc (st s), tc (st [47])] (ofH []) (vc (AL.Fnv.slS (piecesS s))) (ofH [])] 17 [(4, vc (AL.Fnv.slS (piecesS s)))] [] (Split_c s (by omega)) ?_
  refine gQ ?_
  refine gS [(1, CE.call [] [] (vc (i6 (gradedS (piecesS s)))) [])] [Spec Tryd.prog 64 [tc (AL.Fnv.slS (piecesS s))] (ofH []) (vc (i6 (gradedS (piecesS s)))) (ofH [])] 17 [(4, vc (AL.Fnv.slS (piecesS s))), (5, vc (i6 (gradedS (piecesS s))))] [] (graded_c (piecesS s) (fun p hp => Nat.le_trans (piece_le hp) (by omega))) ?_
  refine gS [] [] 17 [(4, vc (AL.Fnv.slS (piecesS s))), (5, vc (i6 (gradedS (piecesS s)))), (14, vc (bo (!decide (gradedS (piecesS s) = 0))))] [] trivial ?_
  refine gN (gradedS (piecesS s) = 0) (fun hc2 => ?_) fun hc2 => ?_
  ·
   refine gS [] [] 17 [(2, vc (SC.nilsl)), (3, vc (i6 (gradedS (piecesS s))))] [] trivial ?_
   refine AMx.ent (ent_weak 2 (v' := vc (AL.Fnv.slS [])) (by kernel_rfl) (AV.le_t (TV.le_c AC.le_nil))) ?_
   exact gT (AV.tup [tc (AL.Fnv.slS []), tc (i6 (gradedS (piecesS s)))]) (by rw [show partsS s = ([], gradedS (piecesS s)) from by first | rw [parts_no (by rw [check_big (by omega)]; decide), check_big (by omega)] | (have hk := check_small (s := s) (by omega); first | rw [parts_no (by omega), hk] | rw [parts_ok (by omega)])])
  ·
   refine AMx.skip ?_
   refine gS [] [] 17 [(2, vc (AL.Fnv.slS (piecesS s))), (3, vc (i6 0))] [] trivial ?_
   exact gT (AV.tup [tc (AL.Fnv.slS (piecesS s)), tc (i6 0)]) (by rw [show partsS s = (piecesS s, 0) from by first | rw [parts_no (by rw [check_big (by omega)]; decide), check_big (by omega)] | (have hk := check_small (s := s) (by omega); first | rw [parts_no (by omega), hk] | rw [parts_ok (by omega)])])

theorem f28_body : Tryd.f28.body = some (.seq (.region 0 (rg Tryd.f28 0) false) (.seq (.region 1 (rg Tryd.f28 1) false) (.seq (.region 2 (rg Tryd.f28 2) false) (.ret)))) := by kernel_rfl

set_option maxRecDepth 100000 in
set_option maxHeartbeats 8000000 in
theorem Check_c (s : Bytes) : Pure Tryd.prog 28 [tc (st s)] (vc (i6 (checkS s))) := by
 refine Pure.of_body Tryd.func28 f28_body (by kernel_rfl) Tryd.ntmps28 (by kernel_rfl) (by kernel_rfl) ?_
 refine gS [] [] 11 [(0, vc (st s))] [] trivial ?_
 refine gS [(1, CE.call [] [] (AV.tup [tc (AL.Fnv.slS ((partsS s).1)), tc (i6 ((partsS s).2))]) [])] [Spec Tryd.prog 42 [tc (st s)] (ofH []) (AV.tup [tc (AL.Fnv.slS ((partsS s).1)), tc (i6 ((partsS s).2))]) (ofH [])] 11 [(4, vc (i6 ((partsS s).2)))] [] (Parts_c s) ?_
 refine gS [] [] 11 [(2, vc (i6 ((partsS s).2)))] [] trivial ?_
 exact gT (vc (i6 ((partsS s).2))) (by rw [parts_2])

end AL.Route
