/- The proof library and the contracts that the law reaches: joined by a program. No condition. -/
import Derived.Test.YtiiiecdfganahaaGreatDoorSBd
namespace AL.Policy
open Go Go.Proofs AL AL.Rune
set_option linter.unusedVariables false
set_option linter.unusedSimpArgs false
theorem f83_body : Tryz.f83.body = some (.seq (.region 0 (rg Tryz.f83 0) false) (.seq (.region 1 (rg Tryz.f83 1) false) (.seq (.seq (.region 2 (rg Tryz.f83 2) false) (.block 0 (.loop (.seq (.seq (.region 3 (rg Tryz.f83 3) false) (.cond (.tmp 12) (.skip) (.exit 0))) (.seq (.block 1 (.seq (.region 5 (rg Tryz.f83 5) false) (.cond (.tmp 18) (.region 6 (rg Tryz.f83 6) false) (.skip)))) (.region 4 (rg Tryz.f83 4) false)))))) (.seq (.seq (.region 7 (rg Tryz.f83 7) false) (.cond (.tmp 21) (.seq (.region 8 (rg Tryz.f83 8) false) (.ret)) (.skip))) (.seq (.seq (.region 9 (rg Tryz.f83 9) false) (.block 2 (.loop (.seq (.seq (.region 10 (rg Tryz.f83 10) false) (.cond (.tmp 24) (.skip) (.exit 2))) (.seq (.block 3 (.seq (.region 12 (rg Tryz.f83 12) false) (.seq (.region 13 (rg Tryz.f83 13) false) (.cond (.tmp 36) (.seq (.region 14 (rg Tryz.f83 14) false) (.ret)) (.skip))))) (.region 11 (rg Tryz.f83 11) false)))))) (.seq (.region 15 (rg Tryz.f83 15) false) (.ret))))))) := by kernel_rfl
set_option maxRecDepth 100000 in
set_option maxHeartbeats 8000000 in
theorem scan_c (s : Bytes) (hb : s.length ≤ 100000) : Pure Tryz.prog 83 [tc (st s)] (AV.tup [TV.agg [.s (st (((scanP s).1).1)), .s (u8 (((scanP s).1).2))], tc (bo ((scanP s).2))]) := by
 refine Pure.of_body Tryz.func83 f83_body (by kernel_rfl) Tryz.ntmps83 (by kernel_rfl) (by kernel_rfl) ?_
 refine gS [] [] 39 [(0, vc (st s)), (2, vp 2 0)] [(2, AObj.row [.s (st []), .s (u8 0)])] trivial ?_
 refine gS [] [] 39 [(0, vc (st s)), (2, vp 2 0), (4, vc (i6 (-1)))] [(2, AObj.row [.s (st []), .s (u8 0)])] trivial ?_
 refine gQ ?_
 refine gS [] [InR .i64 ((List.length s : Int) - 1)] 39 [(0, vc (st s)), (2, vp 2 0), (4, vc (i6 (-1))), (5, vc (i6 ((List.length s : Int) - 1)))] [(2, AObj.row [.s (st []), .s (u8 0)])] (show InR .i64 ((List.length s : Int) - 1) from (inR64 (by omega) (by omega))) ?_
 refine AMx.block ?_
 refine AMx.ent (s' := AS.lst 39 [(0, vc (st s)), (2, vp 2 0), (4, vc (i6 (-1))), (5, vc (i6 ((List.length s : Int) - 1)))] [(2, AObj.row [.s (st []), .s (u8 0)])]) (ent_proj [0, 2, 4, 5] [2]) ?_
 refine AMx.loop (fun mm ss => ∃ (k : Nat) (a : Int), (k ≤ s.length ∧ FirstAt s k a) ∧ mm = 1 + k ∧ ss = AS.lst 39 [(0, vc (st s)), (2, vp 2 0), (4, vc (i6 a)), (5, vc (i6 ((k : Int) - 1)))] [(2, AObj.row [.s (st []), .s (u8 0)])]) ⟨s.length, -1, ?_, rfl, ?_⟩ ?_
 · exact ⟨Nat.le_refl _, first_start s⟩
 · rfl
 rintro mm ss ⟨k, a, ⟨hI, hF⟩, rfl, rfl⟩
 refine gQ ?_
 refine gS [] [] 39 [(0, vc (st s)), (2, vp 2 0), (4, vc (i6 a)), (5, vc (i6 ((k : Int) - 1))), (12, vc (bo (decide (0 ≤ (k : Int) - 1))))] [(2, AObj.row [.s (st []), .s (u8 0)])] trivial ?_
 refine gC (0 ≤ (k : Int) - 1) (fun hc1 => ?_) fun hc1 => ?_
 ·
  refine AMx.skip ?_
  refine gQ ?_
  refine AMx.block ?_
  refine gS [] [(0 : Int) ≤ (k : Int) - 1, (k : Int) - 1 < List.length s] 39 [(0, vc (st s)), (2, vp 2 0), (4, vc (i6 a)), (5, vc (i6 ((k : Int) - 1))), (18, vc (bo (decide (((List.getD s ((k : Int) - 1).toNat 0).toNat : Int) = 58))))] [(2, AObj.row [.s (st []), .s (u8 0)])] ⟨(show (0 : Int) ≤ (k : Int) - 1 from (by omega)), (show (k : Int) - 1 < List.length s from (by omega))⟩ ?_
  refine gC (((List.getD s ((k : Int) - 1).toNat 0).toNat : Int) = 58) (fun hc2 => ?_) fun hc2 => ?_
  ·
   refine gR [] [] 39 [(0, vc (st s)), (2, vp 2 0), (4, vc (i6 ((k : Int) - 1))), (5, vc (i6 ((k : Int) - 1)))] [(2, AObj.row [.s (st []), .s (u8 0)])] trivial ?_
   refine AMx.blk ?_
   refine gR [] [InR .i64 (((k : Int) - 1) - 1)] 39 [(0, vc (st s)), (2, vp 2 0), (4, vc (i6 ((k : Int) - 1))), (5, vc (i6 (((k : Int) - 1) - 1)))] [(2, AObj.row [.s (st []), .s (u8 0)])] (show InR .i64 (((k : Int) - 1) - 1) from (inR64 (by omega) (by omega))) ?_
   refine AMx.ent_inv (s' := AS.lst 39 [(0, vc (st s)), (2, vp 2 0), (4, vc (i6 ((k : Int) - 1))), (5, vc (i6 (((k : Int) - 1) - 1)))] [(2, AObj.row [.s (st []), .s (u8 0)])]) (ent_proj [0, 2, 4, 5] [2]) ?_
   refine AMx.inv ⟨_, ?_, k - 1, (k : Int) - 1, ?_, rfl, ?_⟩
   rotate_left
   · exact ⟨by omega, first_hit (a := a) (by omega) hI hc2⟩
   · rw [show ((k - 1 : Nat) : Int) - 1 = (k : Int) - 1 - 1 by omega] <;> rfl
   · omega
  ·
   refine AMx.skip ?_
   refine AMx.blk ?_
   refine gR [] [InR .i64 (((k : Int) - 1) - 1)] 39 [(0, vc (st s)), (2, vp 2 0), (4, vc (i6 a)), (5, vc (i6 (((k : Int) - 1) - 1)))] [(2, AObj.row [.s (st []), .s (u8 0)])] (show InR .i64 (((k : Int) - 1) - 1) from (inR64 (by omega) (by omega))) ?_
   refine AMx.ent_inv (s' := AS.lst 39 [(0, vc (st s)), (2, vp 2 0), (4, vc (i6 a)), (5, vc (i6 (((k : Int) - 1) - 1)))] [(2, AObj.row [.s (st []), .s (u8 0)])]) (ent_proj [0, 2, 4, 5] [2]) ?_
   refine AMx.inv ⟨_, ?_, k - 1, a, ?_, rfl, ?_⟩
   rotate_left
   · exact ⟨by omega, first_not hF (by omega) hI hc2⟩
   · rw [show ((k - 1 : Nat) : Int) - 1 = (k : Int) - 1 - 1 by omega] <;> rfl
   · omega
 ·
  refine AMx.exit ?_
  refine AMx.code_exit ?_
  refine AMx.inv_exit ?_
  refine AMx.blk_exit ?_
  refine gQ ?_
  refine gS [] [] 39 [(0, vc (st s)), (2, vp 2 0), (4, vc (i6 a)), (21, vc (bo (decide (a < 0))))] [(2, AObj.row [.s (st []), .s (u8 0)])] trivial ?_
  refine gC (a < 0) (fun hc3 => ?_) fun hc3 => ?_
  ·
   refine gS [] [] 39 [(2, vp 2 0), (3, vc (bo false))] [(2, AObj.row [.s (st []), .s (u8 0)])] trivial ?_
   exact gT (AV.tup [TV.agg [.s (st []), .s (u8 0)], tc (bo false)]) (by rw [show scanP s = ((([], 0) : RuleV), false) from by obtain rfl : k = 0 := (by omega); first | (rw [scan_neg hF (by omega)]; done) | (rw [scan_hit (n := n) hF (by omega) (by omega) (by assumption)]; done) | (rw [scan_end hF (by omega) (fun m hm => hM m (by omega))])])
  ·
   refine AMx.skip ?_
   refine gQ ?_
   refine gS [] [] 39 [(0, vc (st s)), (2, vp 2 0), (4, vc (i6 a)), (6, vc (i6 0))] [(2, AObj.row [.s (st []), .s (u8 0)])] trivial ?_
   refine AMx.block ?_
   refine AMx.ent (s' := AS.lst 39 [(0, vc (st s)), (2, vp 2 0), (4, vc (i6 a)), (6, vc (i6 0))] [(2, AObj.row [.s (st []), .s (u8 0)])]) (ent_proj [0, 2, 4, 6] [2]) ?_
   refine AMx.loop (fun mm ss => ∃ (n : Nat), (n ≤ 64 ∧ ∀ m : Nat, m < n → ¬ pieceS (List.take a.toNat s, (m : Int)) = s) ∧ mm = 64 - n ∧ ss = AS.lst 39 [(0, vc (st s)), (2, vp 2 0), (4, vc (i6 a)), (6, vc (i6 (n : Int)))] [(2, AObj.row [.s (st []), .s (u8 0)])]) ⟨0, ?_, rfl, ?_⟩ ?_
   · exact ⟨Nat.zero_le _, fun m hm => by omega⟩
   · rfl
   rintro mm ss ⟨n, ⟨hN, hM⟩, rfl, rfl⟩
   refine gQ ?_
   refine gS [] [] 39 [(0, vc (st s)), (2, vp 2 0), (4, vc (i6 a)), (6, vc (i6 (n : Int))), (24, vc (bo (decide ((n : Int) ≤ 63))))] [(2, AObj.row [.s (st []), .s (u8 0)])] trivial ?_
   refine gC ((n : Int) ≤ 63) (fun hc4 => ?_) fun hc4 => ?_
   ·
    refine AMx.skip ?_
    refine gQ ?_
    refine AMx.block ?_
    refine gS [] [0 ≤ a, a ≤ List.length s] 39 [(0, vc (st s)), (2, vp 2 0), (4, vc (i6 a)), (6, vc (i6 (n : Int))), (7, vp 7 0)] [(2, AObj.row [.s (st []), .s (u8 0)]), (7, AObj.row [.s (st (List.take (a).toNat s)), .s (u8 (IntKind.wrap .u8 ((n : Int))))])] ⟨(show 0 ≤ a from (by omega)), (show a ≤ List.length s from (by first | omega | (have hz := first_rng hF; first | omega | (simp only [List.length_take]; omega))))⟩ ?_
    rw [show IntKind.wrap .u8 ((n : Int)) = (n : Int) from wrap_byte (by omega)]
    refine gS [(1, CE.call [] [] (vc (st (pieceS ((List.take (a).toNat s, (n : Int)) : RuleV)))) [])] [Spec Tryz.prog 86 [TV.agg [.s (st (List.take (a).toNat s)), .s (u8 (n : Int))]] (ofH []) (vc (st (pieceS ((List.take (a).toNat s, (n : Int)) : RuleV)))) (ofH [])] 39 [(0, vc (st s)), (2, vp 2 0), (4, vc (i6 a)), (6, vc (i6 (n : Int))), (7, vp 7 0), (36, vc (bo (decide (pieceS ((List.take (a).toNat s, (n : Int)) : RuleV) = s))))] [(2, AObj.row [.s (st []), .s (u8 0)]), (7, AObj.row [.s (st (List.take (a).toNat s)), .s (u8 (n : Int))])] (one_c ((List.take (a).toNat s, (n : Int)) : RuleV) (by first | omega | (have hz := first_rng hF; first | omega | (simp only [List.length_take]; omega)))) ?_
    refine gC (pieceS ((List.take (a).toNat s, (n : Int)) : RuleV) = s) (fun hc5 => ?_) fun hc5 => ?_
    ·
     refine gS [] [] 39 [(2, vp 2 0), (3, vc (bo true))] [(2, AObj.row [.s (st (List.take (a).toNat s)), .s (u8 (n : Int))])] trivial ?_
     exact gT (AV.tup [TV.agg [.s (st (List.take (a).toNat s)), .s (u8 (n : Int))], tc (bo true)]) (by rw [show scanP s = (((List.take (a).toNat s, (n : Int)) : RuleV), true) from by obtain rfl : k = 0 := (by omega); first | (rw [scan_neg hF (by omega)]; done) | (rw [scan_hit (n := n) hF (by omega) (by omega) (by assumption)]; done) | (rw [scan_end hF (by omega) (fun m hm => hM m (by omega))])])
    ·
     refine AMx.skip ?_
     refine AMx.blk ?_
     refine gR [] [InR .i64 ((n : Int) + 1)] 39 [(0, vc (st s)), (2, vp 2 0), (4, vc (i6 a)), (6, vc (i6 ((n : Int) + 1)))] [(2, AObj.row [.s (st []), .s (u8 0)])] (show InR .i64 ((n : Int) + 1) from (inR64 (by omega) (by omega))) ?_
     refine AMx.ent_inv (s' := AS.lst 39 [(0, vc (st s)), (2, vp 2 0), (4, vc (i6 a)), (6, vc (i6 ((n : Int) + 1)))] [(2, AObj.row [.s (st []), .s (u8 0)])]) (ent_proj [0, 2, 4, 6] [2]) ?_
     refine AMx.inv ⟨_, ?_, n + 1, ?_, rfl, ?_⟩
     rotate_left
     · exact ⟨by omega, fun m hm => by rcases Nat.lt_or_ge m n with q | q; exact hM m q; rw [show m = n by omega]; assumption⟩
     · rfl
     · omega
   ·
    refine AMx.exit ?_
    refine AMx.code_exit ?_
    refine AMx.inv_exit ?_
    refine AMx.blk_exit ?_
    refine gS [] [] 39 [(2, vp 2 0), (3, vc (bo false))] [(2, AObj.row [.s (st []), .s (u8 0)])] trivial ?_
    exact gT (AV.tup [TV.agg [.s (st []), .s (u8 0)], tc (bo false)]) (by rw [show scanP s = ((([], 0) : RuleV), false) from by obtain rfl : k = 0 := (by omega); first | (rw [scan_neg hF (by omega)]; done) | (rw [scan_hit (n := n) hF (by omega) (by omega) (by assumption)]; done) | (rw [scan_end hF (by omega) (fun m hm => hM m (by omega))])])
theorem f63_body : Tryz.f63.body = some (.seq (.region 0 (rg Tryz.f63 0) false) (.seq (.seq (.region 1 (rg Tryz.f63 1) false) (.cond (.tmp 11) (.seq (.region 2 (rg Tryz.f63 2) false) (.ret)) (.skip))) (.seq (.region 3 (rg Tryz.f63 3) false) (.seq (.region 4 (rg Tryz.f63 4) false) (.seq (.seq (.region 5 (rg Tryz.f63 5) false) (.block 0 (.loop (.seq (.seq (.region 6 (rg Tryz.f63 6) false) (.cond (.tmp 15) (.skip) (.exit 0))) (.seq (.block 1 (.seq (.region 8 (rg Tryz.f63 8) false) (.cond (.tmp 27) (.seq (.region 9 (rg Tryz.f63 9) false) (.seq (.seq (.region 10 (rg Tryz.f63 10) false) (.cond (.tmp 37) (.seq (.region 11 (rg Tryz.f63 11) false) (.ret)) (.skip))) (.seq (.region 12 (rg Tryz.f63 12) false) (.region 13 (rg Tryz.f63 13) false)))) (.skip)))) (.region 7 (rg Tryz.f63 7) false)))))) (.seq (.region 14 (rg Tryz.f63 14) false) (.seq (.seq (.region 15 (rg Tryz.f63 15) false) (.cond (.tmp 47) (.seq (.region 16 (rg Tryz.f63 16) false) (.ret)) (.skip))) (.seq (.region 17 (rg Tryz.f63 17) false) (.ret))))))))) := by kernel_rfl
set_option maxRecDepth 100000 in
set_option maxHeartbeats 8000000 in
theorem RParse_c (s : Bytes) (hb : s.length ≤ 100000) : Pure Tryz.prog 63 [tc (st s)] (AV.tup [tc (slP ((parseP s).1)), tc (i6 ((parseP s).2))]) := by
 refine Pure.of_body Tryz.func63 f63_body (by kernel_rfl) Tryz.ntmps63 (by kernel_rfl) (by kernel_rfl) ?_
 refine gS [] [] 50 [(0, vc (st s))] [] trivial ?_
 refine gQ ?_
 refine gS [] [] 50 [(0, vc (st s)), (11, vc (bo (decide (s = []))))] [] trivial ?_
 refine gC (s = []) (fun hc1 => ?_) fun hc1 => ?_
 ·
  refine gS [] [] 50 [(2, vc (SC.nilsl)), (3, vc (i6 0))] [] trivial ?_
  refine AMx.ent (ent_weak 2 (v' := vc (slP [])) (by kernel_rfl) (AV.le_t (TV.le_c AC.le_nil))) ?_
  exact gT (AV.tup [tc (slP []), tc (i6 0)]) (by rw [show parseP s = ([], 0) from by rw [hc1]; rfl])
 ·
  refine AMx.skip ?_
  refine gS [] [] 50 [(0, vc (st s)), (4, vc (SC.nilsl))] [] trivial ?_
  refine gS [] [] 50 [(0, vc (st s)), (4, vc (SC.nilsl)), (5, vc (i6 0))] [] trivial ?_
  refine gQ ?_
  refine gS [] [] 50 [(0, vc (st s)), (4, vc (SC.nilsl)), (5, vc (i6 0)), (6, vc (i6 0))] [] trivial ?_
  refine AMx.block ?_
  refine AMx.ent (s' := AS.lst 50 [(0, vc (st s)), (4, vo 4), (5, vc (i6 0)), (6, vc (i6 0))] [(4, AObj.grow 72 2 RuleV ([], 0) rowP [])]) (ent_adopt (t := 4) (d := 4) 72 2 RuleV ([], 0) rowP (by kernel_rfl) (by kernel_rfl) (by kernel_rfl) (by kernel_rfl)) ?_
  refine AMx.ent (s' := AS.lst 50 [(0, vc (st s)), (4, vo 4), (5, vc (i6 0)), (6, vc (i6 0))] [(4, AObj.grow 72 2 RuleV ([], 0) rowP [])]) (ent_proj [0, 4, 5, 6] [4]) ?_
  refine AMx.loop (fun mm ss => ∃ (i : Nat) (f : Nat) (o : List Bytes), (Sep.SInv 44 s i f o ∧ fineS o = true) ∧ mm = s.length + 1 - i ∧ ss = AS.lst 50 [(0, vc (st s)), (4, vo 4), (5, vc (i6 (f : Int))), (6, vc (i6 (i : Int)))] [(4, AObj.grow 72 2 RuleV ([], 0) rowP (ruled o))]) ⟨0, 0, [], ?_, rfl, ?_⟩ ?_
  · exact ⟨Sep.sinv_0 44 s, rfl⟩
  · rfl
  rintro mm ss ⟨i, f, o, ⟨hP, hN⟩, rfl, rfl⟩
  refine gQ ?_
  refine gS [] [] 50 [(0, vc (st s)), (4, vo 4), (5, vc (i6 (f : Int))), (6, vc (i6 (i : Int))), (15, vc (bo (decide ((i : Int) ≤ (List.length s : Int)))))] [(4, AObj.grow 72 2 RuleV ([], 0) rowP (ruled o))] trivial ?_
  refine gC ((i : Int) ≤ (List.length s : Int)) (fun hc2 => ?_) fun hc2 => ?_
  ·
   refine AMx.skip ?_
   refine gQ ?_
   refine AMx.block ?_
   refine gS [] [((decide ((i : Int) = (List.length s : Int))) = false) → allP [], ((decide ((i : Int) = (List.length s : Int))) = false) → allP [], ((decide ((i : Int) = (List.length s : Int))) = false) → allP [(decide ((i : Int) = (List.length s : Int))) = false, (decide ((i : Int) = (List.length s : Int))) = false, (0 : Int) ≤ (i : Int), (i : Int) < List.length s], ((decide ((i : Int) = (List.length s : Int))) = false) → allP [(decide ((i : Int) = (List.length s : Int))) = false], (decide ((i : Int) = (List.length s : Int))) = false → allP [(decide ((i : Int) = (List.length s : Int))) = false]] 50 [(0, vc (st s)), (4, vo 4), (5, vc (i6 (f : Int))), (6, vc (i6 (i : Int))), (27, vc (bo ((decide ((i : Int) = (List.length s : Int))) || (decide (((List.getD s i 0).toNat : Int) = 44)))))] [(4, AObj.grow 72 2 RuleV ([], 0) rowP (ruled o))] ⟨(fun _ => trivial), (fun _ => trivial), (fun hp => by have hq := hp; (try simp only [decide_eq_true_eq, decide_eq_false_iff_not, Bool.and_eq_true, Bool.or_eq_true, Bool.and_eq_false_iff, Bool.or_eq_false_iff, Bool.not_eq_true', Bool.not_eq_false', Bool.not_eq_true, Bool.not_eq_false] at hq); exact ⟨hp, hp, (show (0 : Int) ≤ (i : Int) from (by omega)), (show (i : Int) < List.length s from (by omega))⟩), (fun hp => hp), (fun hp2 => (by first | exact hp2 | exact ⟨hp, hp2⟩))⟩ ?_
   refine gB (((decide ((i : Int) = (List.length s : Int))) || (decide (((List.getD s i 0).toNat : Int) = 44)))) (fun hc3 => ?_) fun hc3 => ?_
   ·
    try simp only [xT, xF, xO, xP] at hc3
    refine gS [(4, CE.call [] [] (AV.tup [TV.agg [.s (st (((scanP (List.drop f (List.take i s))).1).1)), .s (u8 (((scanP (List.drop f (List.take i s))).1).2))], tc (bo ((scanP (List.drop f (List.take i s))).2))]) [])] [0 ≤ (i : Int), (i : Int) ≤ List.length s, 0 ≤ (f : Int), (f : Int) ≤ (i : Int), Spec Tryz.prog 83 [tc (st (List.drop f (List.take i s)))] (ofH []) (AV.tup [TV.agg [.s (st (((scanP (List.drop f (List.take i s))).1).1)), .s (u8 (((scanP (List.drop f (List.take i s))).1).2))], tc (bo ((scanP (List.drop f (List.take i s))).2))]) (ofH [])] 50 [(0, vc (st s)), (4, vo 4), (6, vc (i6 (i : Int))), (7, vp 7 0), (8, vc (bo ((scanP (List.drop f (List.take i s))).2)))] [(4, AObj.grow 72 2 RuleV ([], 0) rowP (ruled o)), (7, AObj.row [.s (st (((scanP (List.drop f (List.take i s))).1).1)), .s (u8 (((scanP (List.drop f (List.take i s))).1).2))])] ⟨(show 0 ≤ (i : Int) from (by omega)), (show (i : Int) ≤ List.length s from (by omega)), (show 0 ≤ (f : Int) from (by omega)), (show (f : Int) ≤ (i : Int) from (by first | omega | (have hz := Sep.sinv_len hP; first | omega | ((try simp only [List.length_append, List.length_cons, List.length_nil, List.length_replicate, List.length_map, List.length_take, List.length_drop, pref_len, ruled_len]); omega)))), (scan_c (List.drop f (List.take i s)) (by first | omega | (have hz := Sep.sinv_len hP; first | omega | ((try simp only [List.length_append, List.length_cons, List.length_nil, List.length_replicate, List.length_map, List.length_take, List.length_drop, pref_len, ruled_len]); omega))))⟩ ?_
    refine gQ ?_
    refine gS [] [] 50 [(0, vc (st s)), (4, vo 4), (6, vc (i6 (i : Int))), (7, vp 7 0), (37, vc (bo (!((scanP (List.drop f (List.take i s))).2))))] [(4, AObj.grow 72 2 RuleV ([], 0) rowP (ruled o)), (7, AObj.row [.s (st (((scanP (List.drop f (List.take i s))).1).1)), .s (u8 (((scanP (List.drop f (List.take i s))).1).2))])] trivial ?_
    refine gB (!((scanP (List.drop f (List.take i s))).2)) (fun hc4 => ?_) fun hc4 => ?_
    ·
     try simp only [xT, xF, xN, xM] at hc4
     refine gS [] [] 50 [(2, vc (SC.nilsl)), (3, vc (i6 4))] [] trivial ?_
     refine AMx.ent (ent_weak 2 (v' := vc (slP [])) (by kernel_rfl) (AV.le_t (TV.le_c AC.le_nil))) ?_
     exact gT (AV.tup [tc (slP []), tc (i6 4)]) (by rw [show parseP s = ([], 4) from by rw [parse_bad hc1 (fine_bad_in (sinv_in (ref_hit hP (by omega) hc3)) hc4)]])
    ·
     try simp only [xT, xF, xN, xM] at hc4
     refine AMx.skip ?_
     refine gS [(2, CE.obj (AObj.grow 72 2 RuleV ([], 0) rowP [((scanP (List.drop f (List.take i s))).1)])), (3, CE.obj (AObj.grow 72 2 RuleV ([], 0) rowP ((ruled o) ++ [((scanP (List.drop f (List.take i s))).1)])))] [flat 2 rowP [((scanP (List.drop f (List.take i s))).1)] = [.s (st (((scanP (List.drop f (List.take i s))).1).1)), .s (u8 (((scanP (List.drop f (List.take i s))).1).2))], List.length ([((scanP (List.drop f (List.take i s))).1)] : List RuleV) = 1, AppC (flat 2 rowP [((scanP (List.drop f (List.take i s))).1)]) (List.length ([((scanP (List.drop f (List.take i s))).1)] : List RuleV)) 24 (AObj.grow 72 2 RuleV ([], 0) rowP (ruled o)) (AObj.grow 72 2 RuleV ([], 0) rowP ((ruled o) ++ [((scanP (List.drop f (List.take i s))).1)]))] 50 [(0, vc (st s)), (4, vo 41), (6, vc (i6 (i : Int)))] [(41, AObj.grow 72 2 RuleV ([], 0) rowP ((ruled o) ++ [((scanP (List.drop f (List.take i s))).1)]))] ⟨rfl, rfl, (⟨_, rfl, rfl, rfl, by have hz := Sep.sinv_len hP; simp only [List.length_append, List.length_cons, List.length_nil, List.length_replicate, List.length_map, List.length_take, List.length_drop, pref_len, ruled_len]; omega, by have hz := Sep.sinv_len hP; simp only [maxLen, List.length_append, List.length_cons, List.length_nil, List.length_replicate, List.length_map, List.length_take, List.length_drop, pref_len, ruled_len]; omega⟩)⟩ ?_
     refine gR [] [InR .i64 ((i : Int) + 1)] 50 [(0, vc (st s)), (4, vo 41), (5, vc (i6 ((i : Int) + 1))), (6, vc (i6 (i : Int)))] [(41, AObj.grow 72 2 RuleV ([], 0) rowP ((ruled o) ++ [((scanP (List.drop f (List.take i s))).1)]))] (show InR .i64 ((i : Int) + 1) from (inR64 (by omega) (by omega))) ?_
     refine AMx.blk ?_
     refine gR [] [InR .i64 ((i : Int) + 1)] 50 [(0, vc (st s)), (4, vo 41), (5, vc (i6 ((i : Int) + 1))), (6, vc (i6 ((i : Int) + 1)))] [(41, AObj.grow 72 2 RuleV ([], 0) rowP ((ruled o) ++ [((scanP (List.drop f (List.take i s))).1)]))] (show InR .i64 ((i : Int) + 1) from (inR64 (by omega) (by omega))) ?_
     refine AMx.ent_inv (s' := AS.lst 50 [(0, vc (st s)), (4, vo 4), (5, vc (i6 ((i : Int) + 1))), (6, vc (i6 ((i : Int) + 1)))] [(4, AObj.grow 72 2 RuleV ([], 0) rowP ((ruled o) ++ [((scanP (List.drop f (List.take i s))).1)]))]) (ent_swap 41 4 (by kernel_rfl) (by kernel_rfl)) ?_
     refine AMx.ent_inv (s' := AS.lst 50 [(0, vc (st s)), (4, vo 4), (5, vc (i6 ((i : Int) + 1))), (6, vc (i6 ((i : Int) + 1)))] [(4, AObj.grow 72 2 RuleV ([], 0) rowP ((ruled o) ++ [((scanP (List.drop f (List.take i s))).1)]))]) (ent_proj [0, 4, 5, 6] [4]) ?_
     refine AMx.inv ⟨_, ?_, i + 1, i + 1, o ++ [(List.drop f (List.take i s))], ?_, rfl, ?_⟩
     rotate_left
     · exact ⟨ref_hit hP (by omega) hc3, fine_snoc hN hc4⟩
     · rw [ruled_snoc]; rfl
     · omega
   ·
    try simp only [xT, xF, xO, xP] at hc3
    refine AMx.skip ?_
    refine AMx.blk ?_
    refine gR [] [InR .i64 ((i : Int) + 1)] 50 [(0, vc (st s)), (4, vo 4), (5, vc (i6 (f : Int))), (6, vc (i6 ((i : Int) + 1)))] [(4, AObj.grow 72 2 RuleV ([], 0) rowP (ruled o))] (show InR .i64 ((i : Int) + 1) from (inR64 (by omega) (by omega))) ?_
    refine AMx.ent_inv (s' := AS.lst 50 [(0, vc (st s)), (4, vo 4), (5, vc (i6 (f : Int))), (6, vc (i6 ((i : Int) + 1)))] [(4, AObj.grow 72 2 RuleV ([], 0) rowP (ruled o))]) (ent_proj [0, 4, 5, 6] [4]) ?_
    refine AMx.inv ⟨_, ?_, i + 1, f, o, ?_, rfl, ?_⟩
    rotate_left
    · exact ⟨ref_not hP (by omega) hc3, hN⟩
    · rfl
    · omega
  ·
   refine AMx.exit ?_
   refine AMx.code_exit ?_
   refine AMx.inv_exit ?_
   refine AMx.blk_exit ?_
   refine gQ ?_
   refine AMx.ent (s' := AS.lst 50 [(0, vc (st s)), (4, vc (slP (ruled o))), (5, vc (i6 (f : Int))), (6, vc (i6 (i : Int))), (15, vc (bo (decide ((i : Int) ≤ (List.length s : Int)))))] []) (ent_freeze (id := 4) (T := 72) (by kernel_rfl)) ?_
   refine gR [(1, CE.call [] [] (vc (i6 (checkP (ruled o)))) [])] [Spec Tryz.prog 54 [tc (slP (ruled o))] (ofH []) (vc (i6 (checkP (ruled o)))) (ofH [])] 50 [(4, vc (slP (ruled o))), (9, vc (i6 (checkP (ruled o))))] [] (RCheck_c (ruled o)) ?_
   refine gQ ?_
   refine gS [] [] 50 [(4, vc (slP (ruled o))), (9, vc (i6 (checkP (ruled o)))), (47, vc (bo (!decide (checkP (ruled o) = 0))))] [] trivial ?_
   refine gN (checkP (ruled o) = 0) (fun hc5 => ?_) fun hc5 => ?_
   ·
    refine gS [] [] 50 [(2, vc (SC.nilsl)), (3, vc (i6 (checkP (ruled o))))] [] trivial ?_
    refine AMx.ent (ent_weak 2 (v' := vc (slP [])) (by kernel_rfl) (AV.le_t (TV.le_c AC.le_nil))) ?_
    exact gT (AV.tup [tc (slP []), tc (i6 (checkP (ruled o)))]) (by rw [show parseP s = ([], checkP (ruled o)) from by have he := Sep.sinv_end hP (by omega); rw [parse_no hc1 (by rw [he]; exact hN) (by rw [he]; assumption), he]])
   ·
    refine AMx.skip ?_
    refine gS [] [] 50 [(2, vc (slP (ruled o))), (3, vc (i6 0))] [] trivial ?_
    exact gT (AV.tup [tc (slP (ruled o)), tc (i6 0)]) (by rw [show parseP s = (ruled o, 0) from by have he := Sep.sinv_end hP (by omega); rw [parse_ok hc1 (by rw [he]; exact hN) (by rw [he]; assumption), he]])
end AL.Policy
namespace AL.Ask
open Go Go.Proofs AL
set_option linter.unusedVariables false
set_option linter.unusedSimpArgs false
theorem f68_body : Tryz.f68.body = some (.seq (.region 0 (rg Tryz.f68 0) false) (.seq (.seq (.region 1 (rg Tryz.f68 1) false) (.cond (.tmp 4) (.seq (.region 2 (rg Tryz.f68 2) false) (.ret)) (.skip))) (.seq (.region 3 (rg Tryz.f68 3) true) (.ret)))) := by kernel_rfl
set_option maxRecDepth 100000 in
set_option maxHeartbeats 8000000 in
theorem Rnumber_s (n : Int) (h0 : 0 ≤ n) (h1 : n ≤ 999) (hr : ¬ n < 10 → Pure Tryz.prog 68 [tc (i6 (Int.tdiv n 10))] (vc (st (numS (Int.tdiv n 10))))) : Pure Tryz.prog 68 [tc (i6 n)] (vc (st (numS n))) := by
 refine Pure.of_body Tryz.func68 f68_body (by kernel_rfl) Tryz.ntmps68 (by kernel_rfl) (by kernel_rfl) ?_
 refine gS [] [] 20 [(0, vc (i6 n))] [] trivial ?_
 refine gQ ?_
 refine gS [] [] 20 [(0, vc (i6 n)), (4, vc (bo (decide (n < 10))))] [] trivial ?_
 refine gC (n < 10) (fun hc1 => ?_) fun hc1 => ?_
 ·
  refine gS [(3, CE.obj (AObj.grow 5 1 UInt8 0 rowU8 [dg n])), (4, CE.str [dg n])] [InR .i64 (48 + n), flat 1 rowU8 [dg n] = [.s (u8 (IntKind.wrap .u8 (48 + n)))], List.length ([dg n] : List UInt8) = 1, flat 1 rowU8 [dg n] = flat 1 rowU8 [dg n], List.length ([dg n] : List UInt8) = List.length ([dg n] : List UInt8), (List.length ([dg n] : List UInt8) : Int) ≤ 140737488355328] 20 [(2, vc (st [dg n]))] [] ⟨(show InR .i64 (48 + n) from (inR64 (by omega) (by omega))), (one_dr (by omega) (by omega)), rfl, rfl, rfl, (show (List.length ([dg n] : List UInt8) : Int) ≤ 140737488355328 from (by first | omega | (have ht := tdiv_10 (n := n) h0; have hm := tmod_10 (n := n) h0; have hl := num_le3 (Int.tdiv n 10); first | omega | ((try simp only [List.length_append, List.length_cons, List.length_nil]); omega))))⟩ ?_
  exact gT (vc (st [dg n])) (by rw [show numS n = [dg n] from by first | rw [numr_1 (by assumption)] | rw [numr_2 h0 h1 (by assumption)]])
 ·
  refine AMx.skip ?_
  refine gY [(2, CE.call [] [] (vc (st (numS (Int.tdiv n 10)))) []), (7, CE.obj (AObj.grow 5 1 UInt8 0 rowU8 [dg (Int.tmod n 10)])), (8, CE.str [dg (Int.tmod n 10)])] [(8, [17])] [(10 : Int) ≠ 0, InR .i64 (Int.tdiv n 10), Spec Tryz.prog 68 [tc (i6 (Int.tdiv n 10))] (ofH []) (vc (st (numS (Int.tdiv n 10)))) (ofH []), (10 : Int) ≠ 0, InR .i64 (48 + (Int.tmod n 10)), flat 1 rowU8 [dg (Int.tmod n 10)] = [.s (u8 (IntKind.wrap .u8 (48 + (Int.tmod n 10))))], List.length ([dg (Int.tmod n 10)] : List UInt8) = 1, flat 1 rowU8 [dg (Int.tmod n 10)] = flat 1 rowU8 [dg (Int.tmod n 10)], List.length ([dg (Int.tmod n 10)] : List UInt8) = List.length ([dg (Int.tmod n 10)] : List UInt8), (List.length ([dg (Int.tmod n 10)] : List UInt8) : Int) ≤ 140737488355328, List.length (numS (Int.tdiv n 10) : List UInt8) + List.length ([dg (Int.tmod n 10)] : List UInt8) ≤ maxLen] 20 [(2, vc (st ((numS (Int.tdiv n 10)) ++ [dg (Int.tmod n 10)])))] [] mixed ⟨(show (10 : Int) ≠ 0 from (by omega)), (show InR .i64 (Int.tdiv n 10) from (inR64 (by first | omega | (have ht := tdiv_10 (n := n) h0; have hm := tmod_10 (n := n) h0; have hl := num_le3 (Int.tdiv n 10); first | omega | ((try simp only [List.length_append, List.length_cons, List.length_nil]); omega))) (by first | omega | (have ht := tdiv_10 (n := n) h0; have hm := tmod_10 (n := n) h0; have hl := num_le3 (Int.tdiv n 10); first | omega | ((try simp only [List.length_append, List.length_cons, List.length_nil]); omega))))), (hr (by omega)), (show (10 : Int) ≠ 0 from (by omega)), (show InR .i64 (48 + (Int.tmod n 10)) from (inR64 (by first | omega | (have ht := tdiv_10 (n := n) h0; have hm := tmod_10 (n := n) h0; have hl := num_le3 (Int.tdiv n 10); first | omega | ((try simp only [List.length_append, List.length_cons, List.length_nil]); omega))) (by first | omega | (have ht := tdiv_10 (n := n) h0; have hm := tmod_10 (n := n) h0; have hl := num_le3 (Int.tdiv n 10); first | omega | ((try simp only [List.length_append, List.length_cons, List.length_nil]); omega))))), (one_dr (by have hm := tmod_10 (n := n) h0; omega) (by have hm := tmod_10 (n := n) h0; omega)), rfl, rfl, rfl, (show (List.length ([dg (Int.tmod n 10)] : List UInt8) : Int) ≤ 140737488355328 from (by first | omega | (have ht := tdiv_10 (n := n) h0; have hm := tmod_10 (n := n) h0; have hl := num_le3 (Int.tdiv n 10); first | omega | ((try simp only [List.length_append, List.length_cons, List.length_nil]); omega)))), (show List.length (numS (Int.tdiv n 10) : List UInt8) + List.length ([dg (Int.tmod n 10)] : List UInt8) ≤ maxLen from (by simp only [List.length_append, List.length_cons, List.length_nil, maxLen]; first | omega | (first | omega | (have ht := tdiv_10 (n := n) h0; have hm := tmod_10 (n := n) h0; have hl := num_le3 (Int.tdiv n 10); first | omega | ((try simp only [List.length_append, List.length_cons, List.length_nil]); omega)))))⟩ ?_
  exact gT (vc (st ((numS (Int.tdiv n 10)) ++ [dg (Int.tmod n 10)]))) (by rw [show numS n = (numS (Int.tdiv n 10)) ++ [dg (Int.tmod n 10)] from by first | rw [numr_1 (by assumption)] | rw [numr_2 h0 h1 (by assumption)]])
theorem Rnumber_c (n : Int) (h0 : 0 ≤ n) (h1 : n ≤ 999) : Pure Tryz.prog 68 [tc (i6 n)] (vc (st (numS n))) := by
  refine Rnumber_s n h0 h1 fun h => ?_
  have e := tdiv_10 (n := n) h0
  refine Rnumber_s (Int.tdiv n 10) (by omega) (by omega) fun h2 => ?_
  have e2 := tdiv_10 (n := Int.tdiv n 10) (by omega)
  exact Rnumber_s (Int.tdiv (Int.tdiv n 10) 10) (by omega) (by omega) fun h3 => absurd h3 (by omega)
theorem f61_body : Tryz.f61.body = some (.seq (.region 0 (rg Tryz.f61 0) false) (.seq (.seq (.region 1 (rg Tryz.f61 1) false) (.cond (.tmp 12) (.seq (.region 2 (rg Tryz.f61 2) false) (.ret)) (.skip))) (.seq (.region 3 (rg Tryz.f61 3) false) (.seq (.seq (.region 4 (rg Tryz.f61 4) false) (.block 0 (.loop (.seq (.seq (.region 5 (rg Tryz.f61 5) false) (.cond (.tmp 16) (.skip) (.exit 0))) (.seq (.block 1 (.seq (.seq (.region 7 (rg Tryz.f61 7) false) (.cond (.tmp 28) (.seq (.region 8 (rg Tryz.f61 8) false) (.ret)) (.skip))) (.region 9 (rg Tryz.f61 9) false))) (.region 6 (rg Tryz.f61 6) false)))))) (.seq (.seq (.region 10 (rg Tryz.f61 10) false) (.cond (.tmp 40) (.seq (.region 11 (rg Tryz.f61 11) false) (.ret)) (.skip))) (.seq (.region 12 (rg Tryz.f61 12) false) (.ret))))))) := by kernel_rfl
set_option maxRecDepth 100000 in
set_option maxHeartbeats 8000000 in
theorem Rscan_c (s : Bytes) : Pure Tryz.prog 61 [tc (st s)] (vc (i6 (scanN s))) := by
 refine Pure.of_body Tryz.func61 f61_body (by kernel_rfl) Tryz.ntmps61 (by kernel_rfl) (by kernel_rfl) ?_
 refine gS [] [] 42 [(0, vc (st s))] [] trivial ?_
 refine gQ ?_
 refine gS [] [((decide ((List.length s : Int) < 1)) = false) → allP [], ((decide ((List.length s : Int) < 1)) = false) → allP [(decide ((List.length s : Int) < 1)) = false], ((decide ((List.length s : Int) < 1)) = false) → allP [(decide ((List.length s : Int) < 1)) = false], (decide ((List.length s : Int) < 1)) = false → allP [(decide ((List.length s : Int) < 1)) = false]] 42 [(0, vc (st s)), (12, vc (bo ((decide ((List.length s : Int) < 1)) || (decide (3 < (List.length s : Int))))))] [] ⟨(fun _ => trivial), (fun hp => hp), (fun hp => hp), (fun hp2 => (by first | exact hp2 | exact ⟨hp, hp2⟩))⟩ ?_
 refine gB (((decide ((List.length s : Int) < 1)) || (decide (3 < (List.length s : Int))))) (fun hc1 => ?_) fun hc1 => ?_
 ·
  try simp only [xT, xF, xO, xP] at hc1
  refine gS [] [] 42 [(2, vc (i6 (-1)))] [] trivial ?_
  exact gT (vc (i6 (-1))) (by rw [show scanN s = (-1) from by first | rw [scanr_size (by assumption)] | rw [digr_no (i := i) (by omega) (by omega)] | rw [scanr_y (i := i) hD (by omega) (by omega) (by omega) (by assumption)] | rw [scanr_n (i := i) hD (by omega) (by omega) (by omega) (by assumption)]])
 ·
  try simp only [xT, xF, xO, xP] at hc1
  refine AMx.skip ?_
  refine gS [] [] 42 [(0, vc (st s)), (3, vc (i6 0))] [] trivial ?_
  refine gQ ?_
  refine gS [] [] 42 [(0, vc (st s)), (3, vc (i6 0)), (4, vc (i6 0))] [] trivial ?_
  refine AMx.block ?_
  refine AMx.ent (s' := AS.lst 42 [(0, vc (st s)), (3, vc (i6 0)), (4, vc (i6 0))] []) (ent_proj [0, 3, 4] []) ?_
  refine AMx.loop (fun mm ss => ∃ (i : Nat), (i ≤ s.length ∧ (List.take i s).all digB = true) ∧ mm = s.length - i ∧ ss = AS.lst 42 [(0, vc (st s)), (3, vc (i6 (valS (List.take i s)))), (4, vc (i6 (i : Int)))] []) ⟨0, ?_, rfl, ?_⟩ ?_
  · exact ⟨Nat.zero_le _, rfl⟩
  · rfl
  rintro mm ss ⟨i, ⟨hI, hD⟩, rfl, rfl⟩
  refine gQ ?_
  refine gS [] [] 42 [(0, vc (st s)), (3, vc (i6 (valS (List.take i s)))), (4, vc (i6 (i : Int))), (16, vc (bo (decide ((i : Int) < (List.length s : Int)))))] [] trivial ?_
  refine gC ((i : Int) < (List.length s : Int)) (fun hc2 => ?_) fun hc2 => ?_
  ·
   refine AMx.skip ?_
   refine gQ ?_
   refine AMx.block ?_
   refine gQ ?_
   refine gS [] [(0 : Int) ≤ (i : Int), (i : Int) < List.length s, ((decide (((List.getD s i 0).toNat : Int) < 48)) = false) → allP [], ((decide (((List.getD s i 0).toNat : Int) < 48)) = false) → allP [], ((decide (((List.getD s i 0).toNat : Int) < 48)) = false) → allP [(decide (((List.getD s i 0).toNat : Int) < 48)) = false, (decide (((List.getD s i 0).toNat : Int) < 48)) = false, (0 : Int) ≤ (i : Int), (i : Int) < List.length s], ((decide (((List.getD s i 0).toNat : Int) < 48)) = false) → allP [(decide (((List.getD s i 0).toNat : Int) < 48)) = false], (decide (((List.getD s i 0).toNat : Int) < 48)) = false → allP [(decide (((List.getD s i 0).toNat : Int) < 48)) = false]] 42 [(0, vc (st s)), (3, vc (i6 (valS (List.take i s)))), (4, vc (i6 (i : Int))), (28, vc (bo ((decide (((List.getD s i 0).toNat : Int) < 48)) || (decide (57 < ((List.getD s i 0).toNat : Int))))))] [] ⟨(show (0 : Int) ≤ (i : Int) from (by omega)), (show (i : Int) < List.length s from (by omega)), (fun _ => trivial), (fun _ => trivial), (fun hp => by have hq := hp; (try simp only [decide_eq_true_eq, decide_eq_false_iff_not, Bool.and_eq_true, Bool.or_eq_true, Bool.and_eq_false_iff, Bool.or_eq_false_iff, Bool.not_eq_true', Bool.not_eq_false', Bool.not_eq_true, Bool.not_eq_false] at hq); exact ⟨hp, hp, (show (0 : Int) ≤ (i : Int) from (by omega)), (show (i : Int) < List.length s from (by omega))⟩), (fun hp => hp), (fun hp2 => (by first | exact hp2 | exact ⟨hp, hp2⟩))⟩ ?_
   refine gB (((decide (((List.getD s i 0).toNat : Int) < 48)) || (decide (57 < ((List.getD s i 0).toNat : Int))))) (fun hc3 => ?_) fun hc3 => ?_
   ·
    try simp only [xT, xF, xO, xP] at hc3
    refine gS [] [] 42 [(2, vc (i6 (-1)))] [] trivial ?_
    exact gT (vc (i6 (-1))) (by rw [show scanN s = (-1) from by first | rw [scanr_size (by assumption)] | rw [digr_no (i := i) (by omega) (by omega)] | rw [scanr_y (i := i) hD (by omega) (by omega) (by omega) (by assumption)] | rw [scanr_n (i := i) hD (by omega) (by omega) (by omega) (by assumption)]])
   ·
    try simp only [xT, xF, xO, xP] at hc3
    refine AMx.skip ?_
    refine gR [] [InR .i64 (10 * (valS (List.take i s))), (0 : Int) ≤ (i : Int), (i : Int) < List.length s, InR .i64 ((10 * (valS (List.take i s))) + ((List.getD s i 0).toNat : Int)), InR .i64 (((10 * (valS (List.take i s))) + ((List.getD s i 0).toNat : Int)) - 48)] 42 [(0, vc (st s)), (3, vc (i6 (((10 * (valS (List.take i s))) + ((List.getD s i 0).toNat : Int)) - 48))), (4, vc (i6 (i : Int)))] [] ⟨(show InR .i64 (10 * (valS (List.take i s))) from (inR64 (by first | omega | (have hb := UInt8.toNat_lt (List.getD s i 0); have hv := val_rng s i (by omega) (by omega) hD; have hp := pow_le3 (p := i) (by omega); omega) | (have hv := valr_rng (i := i) hD (by omega) (by omega); omega)) (by first | omega | (have hb := UInt8.toNat_lt (List.getD s i 0); have hv := val_rng s i (by omega) (by omega) hD; have hp := pow_le3 (p := i) (by omega); omega) | (have hv := valr_rng (i := i) hD (by omega) (by omega); omega)))), (show (0 : Int) ≤ (i : Int) from (by omega)), (show (i : Int) < List.length s from (by omega)), (show InR .i64 ((10 * (valS (List.take i s))) + ((List.getD s i 0).toNat : Int)) from (inR64 (by first | omega | (have hb := UInt8.toNat_lt (List.getD s i 0); have hv := val_rng s i (by omega) (by omega) hD; have hp := pow_le3 (p := i) (by omega); omega) | (have hv := valr_rng (i := i) hD (by omega) (by omega); omega)) (by first | omega | (have hb := UInt8.toNat_lt (List.getD s i 0); have hv := val_rng s i (by omega) (by omega) hD; have hp := pow_le3 (p := i) (by omega); omega) | (have hv := valr_rng (i := i) hD (by omega) (by omega); omega)))), (show InR .i64 (((10 * (valS (List.take i s))) + ((List.getD s i 0).toNat : Int)) - 48) from (inR64 (by first | omega | (have hb := UInt8.toNat_lt (List.getD s i 0); have hv := val_rng s i (by omega) (by omega) hD; have hp := pow_le3 (p := i) (by omega); omega) | (have hv := valr_rng (i := i) hD (by omega) (by omega); omega)) (by first | omega | (have hb := UInt8.toNat_lt (List.getD s i 0); have hv := val_rng s i (by omega) (by omega) hD; have hp := pow_le3 (p := i) (by omega); omega) | (have hv := valr_rng (i := i) hD (by omega) (by omega); omega))))⟩ ?_
    refine AMx.blk ?_
    refine gR [] [InR .i64 ((i : Int) + 1)] 42 [(0, vc (st s)), (3, vc (i6 (((10 * (valS (List.take i s))) + ((List.getD s i 0).toNat : Int)) - 48))), (4, vc (i6 ((i : Int) + 1)))] [] (show InR .i64 ((i : Int) + 1) from (inR64 (by omega) (by omega))) ?_
    refine AMx.ent_inv (s' := AS.lst 42 [(0, vc (st s)), (3, vc (i6 (((10 * (valS (List.take i s))) + ((List.getD s i 0).toNat : Int)) - 48))), (4, vc (i6 ((i : Int) + 1)))] []) (ent_proj [0, 3, 4] []) ?_
    refine AMx.inv ⟨_, ?_, i + 1, ?_, rfl, ?_⟩
    rotate_left
    · exact ⟨by omega, digr_step (by omega) hD (by omega)⟩
    · rw [← valr_step (by omega)]; rfl
    · omega
  ·
   refine AMx.exit ?_
   refine AMx.code_exit ?_
   refine AMx.inv_exit ?_
   refine AMx.blk_exit ?_
   rw [show List.take i s = s from List.take_of_length_le (by omega)]
   refine gQ ?_
   refine gS [(1, CE.call [] [] (vc (st (numS (valS s)))) [])] [Spec Tryz.prog 68 [tc (i6 (valS s))] (ofH []) (vc (st (numS (valS s)))) (ofH [])] 42 [(3, vc (i6 (valS s))), (40, vc (bo (!decide (numS (valS s) = s))))] [] (Rnumber_c (valS s) (by first | omega | (have hb := UInt8.toNat_lt (List.getD s i 0); have hv := val_rng s i (by omega) (by omega) hD; have hp := pow_le3 (p := i) (by omega); omega) | (have hv := valr_rng (i := i) hD (by omega) (by omega); omega)) (by first | omega | (have hb := UInt8.toNat_lt (List.getD s i 0); have hv := val_rng s i (by omega) (by omega) hD; have hp := pow_le3 (p := i) (by omega); omega) | (have hv := valr_rng (i := i) hD (by omega) (by omega); omega))) ?_
   refine gN (numS (valS s) = s) (fun hc4 => ?_) fun hc4 => ?_
   ·
    refine gS [] [] 42 [(2, vc (i6 (-1)))] [] trivial ?_
    exact gT (vc (i6 (-1))) (by rw [show scanN s = (-1) from by first | rw [scanr_size (by assumption)] | rw [digr_no (i := i) (by omega) (by omega)] | rw [scanr_y (i := i) hD (by omega) (by omega) (by omega) (by assumption)] | rw [scanr_n (i := i) hD (by omega) (by omega) (by omega) (by assumption)]])
   ·
    refine AMx.skip ?_
    refine gS [] [] 42 [(2, vc (i6 (valS s)))] [] trivial ?_
    exact gT (vc (i6 (valS s))) (by rw [show scanN s = valS s from by first | rw [scanr_size (by assumption)] | rw [digr_no (i := i) (by omega) (by omega)] | rw [scanr_y (i := i) hD (by omega) (by omega) (by omega) (by assumption)] | rw [scanr_n (i := i) hD (by omega) (by omega) (by omega) (by assumption)]])
theorem f53_body : Tryz.f53.body = some (.seq (.region 0 (rg Tryz.f53 0) false) (.seq (.seq (.region 1 (rg Tryz.f53 1) false) (.block 0 (.loop (.seq (.seq (.region 2 (rg Tryz.f53 2) false) (.cond (.tmp 7) (.skip) (.exit 0))) (.seq (.block 1 (.seq (.region 4 (rg Tryz.f53 4) false) (.cond (.tmp 15) (.seq (.region 5 (rg Tryz.f53 5) false) (.ret)) (.skip)))) (.region 3 (rg Tryz.f53 3) false)))))) (.seq (.region 6 (rg Tryz.f53 6) false) (.ret)))) := by kernel_rfl
set_option maxRecDepth 100000 in
set_option maxHeartbeats 8000000 in
theorem Rlist_c (l : List Int) : Pure Tryz.prog 53 [tc (AL.Fnv.slI l)] (vc (bo (okNs l))) := by
 refine Pure.of_body Tryz.func53 f53_body (by kernel_rfl) Tryz.ntmps53 (by kernel_rfl) (by kernel_rfl) ?_
 refine AMx.sl 0 (l := l) rfl (fun hl => ?_)
 simp only [maxLen] at hl
 refine gS [] [] 19 [(0, vc (AL.Fnv.slI l))] [] trivial ?_
 refine gQ ?_
 refine gS [] [] 19 [(0, vc (AL.Fnv.slI l)), (3, vc (i6 0))] [] trivial ?_
 refine AMx.block ?_
 refine AMx.ent (s' := AS.lst 19 [(0, vc (AL.Fnv.slI l)), (3, vc (i6 0))] []) (ent_proj [0, 3] []) ?_
 refine AMx.loop (fun mm ss => ∃ (i : Nat), (i ≤ l.length ∧ NsTo l i) ∧ mm = l.length - i ∧ ss = AS.lst 19 [(0, vc (AL.Fnv.slI l)), (3, vc (i6 (i : Int)))] []) ⟨0, ?_, rfl, ?_⟩ ?_
 · exact ⟨Nat.zero_le _, nsto_0 l⟩
 · rfl
 rintro mm ss ⟨i, ⟨hI, hN⟩, rfl, rfl⟩
 refine gQ ?_
 refine gS [] [] 19 [(0, vc (AL.Fnv.slI l)), (3, vc (i6 (i : Int))), (7, vc (bo (decide ((i : Int) < (List.length l : Int)))))] [] trivial ?_
 refine gC ((i : Int) < (List.length l : Int)) (fun hc1 => ?_) fun hc1 => ?_
 ·
  refine AMx.skip ?_
  refine gQ ?_
  refine AMx.block ?_
  refine gS [(4, CE.call [] [] (vc (bo (withinI (List.getD l i 0) 1 999))) [])] [(0 : Int) ≤ (i : Int), (i : Int) < List.length l, Spec Tryz.prog 52 [tc (i6 (List.getD l i 0)), tc (i6 1), tc (i6 999)] (ofH []) (vc (bo (withinI (List.getD l i 0) 1 999))) (ofH [])] 19 [(0, vc (AL.Fnv.slI l)), (3, vc (i6 (i : Int))), (15, vc (bo (!(withinI (List.getD l i 0) 1 999))))] [] ⟨(show (0 : Int) ≤ (i : Int) from (by omega)), (show (i : Int) < List.length l from (by omega)), (Rwithin_c (List.getD l i 0) 1 999)⟩ ?_
  refine gB (!(withinI (List.getD l i 0) 1 999)) (fun hc2 => ?_) fun hc2 => ?_
  ·
   try simp only [xT, xF, xN, xM] at hc2
   refine gS [] [] 19 [(2, vc (bo false))] [] trivial ?_
   exact gT (vc (bo false)) (by rw [nsto_bad (i := i) (by omega) (by simp_all)])
  ·
   try simp only [xT, xF, xN, xM] at hc2
   refine AMx.skip ?_
   refine AMx.blk ?_
   refine gR [] [InR .i64 ((i : Int) + 1)] 19 [(0, vc (AL.Fnv.slI l)), (3, vc (i6 ((i : Int) + 1)))] [] (show InR .i64 ((i : Int) + 1) from (inR64 (by omega) (by omega))) ?_
   refine AMx.ent_inv (s' := AS.lst 19 [(0, vc (AL.Fnv.slI l)), (3, vc (i6 ((i : Int) + 1)))] []) (ent_proj [0, 3] []) ?_
   refine AMx.inv ⟨_, ?_, i + 1, ?_, rfl, ?_⟩
   rotate_left
   · exact ⟨by omega, nsto_step (by omega) hN (by simp_all)⟩
   · rfl
   · omega
 ·
  refine AMx.exit ?_
  refine AMx.code_exit ?_
  refine AMx.inv_exit ?_
  refine AMx.blk_exit ?_
  refine gS [] [] 19 [(2, vc (bo (decide ((List.length l : Int) ≤ 6))))] [] trivial ?_
  exact gT (vc (bo (decide ((List.length l : Int) ≤ 6)))) (by rw [nsto_end (by omega) hN])
theorem f26_body : Tryz.f26.body = some (.seq (.region 0 (rg Tryz.f26 0) false) (.seq (.region 1 (rg Tryz.f26 1) false) (.seq (.region 2 (rg Tryz.f26 2) false) (.ret)))) := by kernel_rfl
set_option maxRecDepth 100000 in
set_option maxHeartbeats 8000000 in
theorem Rkinds_c (op : Int) (h0 : 0 ≤ op) (h1 : op ≤ 18) : Pure Tryz.prog 26 [tc (i6 op)] (vc (st (kindS op))) := by
 refine Pure.of_body Tryz.func26 f26_body (by kernel_rfl) Tryz.ntmps26 (by kernel_rfl) (by kernel_rfl) ?_
 refine gS [] [] 9 [(0, vc (i6 op))] [] trivial ?_
 refine gS [(0, CE.obj (AObj.grow 9 1 Bytes [] AL.Fnv.rowS kindsL))] [flat 1 AL.Fnv.rowS kindsL = [.s (st []), .s (st []), .s (st [107]), .s (st [116]), .s (st [116]), .s (st [116, 112, 110, 102]), .s (st [116, 112]), .s (st [116, 109, 114]), .s (st [116, 109]), .s (st [116, 112, 110]), .s (st [116, 112, 99, 100]), .s (st [116, 112, 108]), .s (st [116, 112, 108]), .s (st [116, 112, 108]), .s (st [116, 112]), .s (st [116, 112, 110, 102]), .s (st [116, 112]), .s (st [116, 112]), .s (st [116, 112, 113])], List.length kindsL = 19] 9 [(0, vc (i6 op)), (3, vo 4)] [(4, AObj.grow 9 1 Bytes [] AL.Fnv.rowS kindsL)] ⟨(rfl), rfl⟩ ?_
 refine gS [] [(0 : Int) ≤ op, op < List.length kindsL, (op).toNat < List.length kindsL] 9 [(2, vc (st (List.getD kindsL (op).toNat [])))] [] ⟨(show (0 : Int) ≤ op from (by omega)), (show op < List.length kindsL from (by first | omega | (have hw := words_len; omega))), (show (op).toNat < List.length kindsL from (by first | omega | (have hw := words_len; omega)))⟩ ?_
 exact gT (vc (st (List.getD kindsL (op).toNat []))) rfl
theorem f37_body : Tryz.f37.body = some (.seq (.region 0 (rg Tryz.f37 0) false) (.seq (.region 1 (rg Tryz.f37 1) false) (.seq (.region 2 (rg Tryz.f37 2) false) (.ret)))) := by kernel_rfl
set_option maxRecDepth 100000 in
set_option maxHeartbeats 8000000 in
theorem Rword_c (op : Int) (h0 : 0 ≤ op) (h1 : op ≤ 18) : Pure Tryz.prog 37 [tc (i6 op)] (vc (st (wordS op))) := by
 refine Pure.of_body Tryz.func37 f37_body (by kernel_rfl) Tryz.ntmps37 (by kernel_rfl) (by kernel_rfl) ?_
 refine gS [] [] 9 [(0, vc (i6 op))] [] trivial ?_
 refine gS [(0, CE.obj (AObj.grow 9 1 Bytes [] AL.Fnv.rowS wordsL))] [flat 1 AL.Fnv.rowS wordsL = [.s (st []), .s (st [115, 116, 97, 116, 117, 115]), .s (st [117, 110, 115, 101, 97, 108]), .s (st [115, 101, 97, 108]), .s (st [114, 111, 116, 97, 116, 101]), .s (st [109, 111, 117, 110, 116]), .s (st [117, 110, 109, 111, 117, 110, 116]), .s (st [109, 97, 107, 101]), .s (st [114, 101, 118, 111, 107, 101]), .s (st [114, 101, 97, 100]), .s (st [119, 114, 105, 116, 101]), .s (st [100, 101, 108, 101, 116, 101]), .s (st [117, 110, 100, 101, 108, 101, 116, 101]), .s (st [100, 101, 115, 116, 114, 111, 121]), .s (st [109, 101, 116, 97]), .s (st [99, 111, 110, 102, 105, 103]), .s (st [112, 117, 114, 103, 101]), .s (st [108, 105, 115, 116]), .s (st [99, 111, 112, 121])], List.length wordsL = 19] 9 [(0, vc (i6 op)), (3, vo 4)] [(4, AObj.grow 9 1 Bytes [] AL.Fnv.rowS wordsL)] ⟨(rfl), rfl⟩ ?_
 refine gS [] [(0 : Int) ≤ op, op < List.length wordsL, (op).toNat < List.length wordsL] 9 [(2, vc (st (List.getD wordsL (op).toNat [])))] [] ⟨(show (0 : Int) ≤ op from (by omega)), (show op < List.length wordsL from (by first | omega | (have hw := words_len; omega))), (show (op).toNat < List.length wordsL from (by first | omega | (have hw := words_len; omega)))⟩ ?_
 exact gT (vc (st (List.getD wordsL (op).toNat []))) rfl
theorem f27_body : Tryz.f27.body = some (.seq (.region 0 (rg Tryz.f27 0) false) (.seq (.seq (.region 1 (rg Tryz.f27 1) false) (.cond (.tmp 6) (.seq (.region 2 (rg Tryz.f27 2) false) (.ret)) (.skip))) (.seq (.seq (.region 3 (rg Tryz.f27 3) false) (.cond (.tmp 12) (.seq (.region 4 (rg Tryz.f27 4) false) (.ret)) (.skip))) (.seq (.seq (.region 5 (rg Tryz.f27 5) false) (.cond (.tmp 18) (.seq (.region 6 (rg Tryz.f27 6) false) (.ret)) (.skip))) (.seq (.seq (.region 7 (rg Tryz.f27 7) false) (.cond (.tmp 23) (.seq (.region 8 (rg Tryz.f27 8) false) (.ret)) (.skip))) (.seq (.seq (.region 9 (rg Tryz.f27 9) false) (.cond (.tmp 28) (.seq (.region 10 (rg Tryz.f27 10) false) (.ret)) (.skip))) (.seq (.seq (.region 11 (rg Tryz.f27 11) false) (.cond (.tmp 34) (.seq (.region 12 (rg Tryz.f27 12) false) (.ret)) (.skip))) (.seq (.seq (.region 13 (rg Tryz.f27 13) false) (.cond (.tmp 40) (.seq (.region 14 (rg Tryz.f27 14) false) (.ret)) (.skip))) (.seq (.seq (.region 15 (rg Tryz.f27 15) false) (.cond (.tmp 46) (.seq (.region 16 (rg Tryz.f27 16) false) (.ret)) (.skip))) (.seq (.seq (.region 17 (rg Tryz.f27 17) false) (.cond (.tmp 51) (.seq (.region 18 (rg Tryz.f27 18) false) (.ret)) (.skip))) (.seq (.region 19 (rg Tryz.f27 19) false) (.ret)))))))))))) := by kernel_rfl
set_option maxRecDepth 100000 in
set_option maxHeartbeats 8000000 in
theorem Rfield_c (a : AskV) (c : Int) : Pure Tryz.prog 27 [TV.agg (rwA a), tc (u8 c)] (vc (i6 (fieldS a c))) := by
 refine Pure.of_body Tryz.func27 f27_body (by kernel_rfl) Tryz.ntmps27 (by kernel_rfl) (by kernel_rfl) ?_
 refine gS [] [] 57 [(1, vc (u8 c)), (2, vp 2 0)] [(2, AObj.row (rwA a))] trivial ?_
 refine gQ ?_
 refine gS [] [] 57 [(1, vc (u8 c)), (2, vp 2 0), (6, vc (bo (decide (c = 116))))] [(2, AObj.row (rwA a))] trivial ?_
 refine gC (c = 116) (fun hc1 => ?_) fun hc1 => ?_
 ·
  refine gS [(2, CE.call [] [] (vc (bo (Rows.namedS a.token))) []), (3, CE.call [] [] (vc (i6 (fineS (Rows.namedS a.token)))) [])] [Spec Tryz.prog 50 [tc (st a.token)] (ofH []) (vc (bo (Rows.namedS a.token))) (ofH []), Spec Tryz.prog 49 [tc (bo (Rows.namedS a.token))] (ofH []) (vc (i6 (fineS (Rows.namedS a.token)))) (ofH [])] 57 [(4, vc (i6 (fineS (Rows.namedS a.token))))] [] ⟨(Rows.Name_c a.token), (Rfine_c (Rows.namedS a.token))⟩ ?_
  exact gT (vc (i6 (fineS (Rows.namedS a.token)))) (by first | (subst_vars; rfl) | (subst_vars; rw [key16]; rfl) | (unfold fieldS; rw [if_neg (by assumption), if_neg (by assumption), if_neg (by assumption), if_neg (by assumption), if_neg (by assumption), if_neg (by assumption), if_neg (by assumption), if_neg (by assumption), if_neg (by assumption)]))
 ·
  refine AMx.skip ?_
  refine gQ ?_
  refine gS [] [] 57 [(1, vc (u8 c)), (2, vp 2 0), (12, vc (bo (decide (c = 109))))] [(2, AObj.row (rwA a))] trivial ?_
  refine gC (c = 109) (fun hc2 => ?_) fun hc2 => ?_
  ·
   refine gS [(2, CE.call [] [] (vc (bo (Rows.namedS a.other))) []), (3, CE.call [] [] (vc (i6 (fineS (Rows.namedS a.other)))) [])] [Spec Tryz.prog 50 [tc (st a.other)] (ofH []) (vc (bo (Rows.namedS a.other))) (ofH []), Spec Tryz.prog 49 [tc (bo (Rows.namedS a.other))] (ofH []) (vc (i6 (fineS (Rows.namedS a.other)))) (ofH [])] 57 [(4, vc (i6 (fineS (Rows.namedS a.other))))] [] ⟨(Rows.Name_c a.other), (Rfine_c (Rows.namedS a.other))⟩ ?_
   exact gT (vc (i6 (fineS (Rows.namedS a.other)))) (by first | (subst_vars; rfl) | (subst_vars; rw [key16]; rfl) | (unfold fieldS; rw [if_neg (by assumption), if_neg (by assumption), if_neg (by assumption), if_neg (by assumption), if_neg (by assumption), if_neg (by assumption), if_neg (by assumption), if_neg (by assumption), if_neg (by assumption)]))
  ·
   refine AMx.skip ?_
   refine gQ ?_
   refine gS [] [] 57 [(1, vc (u8 c)), (2, vp 2 0), (18, vc (bo (decide (c = 112))))] [(2, AObj.row (rwA a))] trivial ?_
   refine gC (c = 112) (fun hc3 => ?_) fun hc3 => ?_
   ·
    refine gS [(2, CE.call [] [] (vc (i6 (Route.checkS a.path))) [])] [Spec Tryz.prog 51 [tc (st a.path)] (ofH []) (vc (i6 (Route.checkS a.path))) (ofH [])] 57 [(4, vc (i6 (Route.checkS a.path)))] [] (Route.RCheck_c a.path) ?_
    exact gT (vc (i6 (Route.checkS a.path))) (by first | (subst_vars; rfl) | (subst_vars; rw [key16]; rfl) | (unfold fieldS; rw [if_neg (by assumption), if_neg (by assumption), if_neg (by assumption), if_neg (by assumption), if_neg (by assumption), if_neg (by assumption), if_neg (by assumption), if_neg (by assumption), if_neg (by assumption)]))
   ·
    refine AMx.skip ?_
    refine gQ ?_
    refine gS [] [] 57 [(1, vc (u8 c)), (2, vp 2 0), (23, vc (bo (decide (c = 113))))] [(2, AObj.row (rwA a))] trivial ?_
    refine gC (c = 113) (fun hc4 => ?_) fun hc4 => ?_
    ·
     refine gS [(2, CE.call [] [] (vc (i6 (Route.checkS a.other))) [])] [Spec Tryz.prog 51 [tc (st a.other)] (ofH []) (vc (i6 (Route.checkS a.other))) (ofH [])] 57 [(4, vc (i6 (Route.checkS a.other)))] [] (Route.RCheck_c a.other) ?_
     exact gT (vc (i6 (Route.checkS a.other))) (by first | (subst_vars; rfl) | (subst_vars; rw [key16]; rfl) | (unfold fieldS; rw [if_neg (by assumption), if_neg (by assumption), if_neg (by assumption), if_neg (by assumption), if_neg (by assumption), if_neg (by assumption), if_neg (by assumption), if_neg (by assumption), if_neg (by assumption)]))
    ·
     refine AMx.skip ?_
     refine gQ ?_
     refine gS [] [] 57 [(1, vc (u8 c)), (2, vp 2 0), (28, vc (bo (decide (c = 110))))] [(2, AObj.row (rwA a))] trivial ?_
     refine gC (c = 110) (fun hc5 => ?_) fun hc5 => ?_
     ·
      refine gS [(2, CE.call [] [] (vc (bo (withinI a.n 0 999))) []), (3, CE.call [] [] (vc (i6 (fineS (withinI a.n 0 999)))) [])] [Spec Tryz.prog 52 [tc (i6 a.n), tc (i6 0), tc (i6 999)] (ofH []) (vc (bo (withinI a.n 0 999))) (ofH []), Spec Tryz.prog 49 [tc (bo (withinI a.n 0 999))] (ofH []) (vc (i6 (fineS (withinI a.n 0 999)))) (ofH [])] 57 [(4, vc (i6 (fineS (withinI a.n 0 999))))] [] ⟨(Rwithin_c a.n 0 999), (Rfine_c (withinI a.n 0 999))⟩ ?_
      exact gT (vc (i6 (fineS (withinI a.n 0 999)))) (by first | (subst_vars; rfl) | (subst_vars; rw [key16]; rfl) | (unfold fieldS; rw [if_neg (by assumption), if_neg (by assumption), if_neg (by assumption), if_neg (by assumption), if_neg (by assumption), if_neg (by assumption), if_neg (by assumption), if_neg (by assumption), if_neg (by assumption)]))
     ·
      refine AMx.skip ?_
      refine gQ ?_
      refine gS [] [] 57 [(1, vc (u8 c)), (2, vp 2 0), (34, vc (bo (decide (c = 99))))] [(2, AObj.row (rwA a))] trivial ?_
      refine gC (c = 99) (fun hc6 => ?_) fun hc6 => ?_
      ·
       refine gS [(2, CE.call [] [] (vc (bo (withinI a.cas (-1) 999))) []), (3, CE.call [] [] (vc (i6 (fineS (withinI a.cas (-1) 999)))) [])] [Spec Tryz.prog 52 [tc (i6 a.cas), tc (i6 (-1)), tc (i6 999)] (ofH []) (vc (bo (withinI a.cas (-1) 999))) (ofH []), Spec Tryz.prog 49 [tc (bo (withinI a.cas (-1) 999))] (ofH []) (vc (i6 (fineS (withinI a.cas (-1) 999)))) (ofH [])] 57 [(4, vc (i6 (fineS (withinI a.cas (-1) 999))))] [] ⟨(Rwithin_c a.cas (-1) 999), (Rfine_c (withinI a.cas (-1) 999))⟩ ?_
       exact gT (vc (i6 (fineS (withinI a.cas (-1) 999)))) (by first | (subst_vars; rfl) | (subst_vars; rw [key16]; rfl) | (unfold fieldS; rw [if_neg (by assumption), if_neg (by assumption), if_neg (by assumption), if_neg (by assumption), if_neg (by assumption), if_neg (by assumption), if_neg (by assumption), if_neg (by assumption), if_neg (by assumption)]))
      ·
       refine AMx.skip ?_
       refine gQ ?_
       refine gS [] [] 57 [(1, vc (u8 c)), (2, vp 2 0), (40, vc (bo (decide (c = 108))))] [(2, AObj.row (rwA a))] trivial ?_
       refine gC (c = 108) (fun hc7 => ?_) fun hc7 => ?_
       ·
        refine gS [(2, CE.call [] [] (vc (bo (okNs a.ns))) []), (3, CE.call [] [] (vc (i6 (fineS (okNs a.ns)))) [])] [Spec Tryz.prog 53 [tc (AL.Fnv.slI a.ns)] (ofH []) (vc (bo (okNs a.ns))) (ofH []), Spec Tryz.prog 49 [tc (bo (okNs a.ns))] (ofH []) (vc (i6 (fineS (okNs a.ns)))) (ofH [])] 57 [(4, vc (i6 (fineS (okNs a.ns))))] [] ⟨(Rlist_c a.ns), (Rfine_c (okNs a.ns))⟩ ?_
        exact gT (vc (i6 (fineS (okNs a.ns)))) (by first | (subst_vars; rfl) | (subst_vars; rw [key16]; rfl) | (unfold fieldS; rw [if_neg (by assumption), if_neg (by assumption), if_neg (by assumption), if_neg (by assumption), if_neg (by assumption), if_neg (by assumption), if_neg (by assumption), if_neg (by assumption), if_neg (by assumption)]))
       ·
        refine AMx.skip ?_
        refine gQ ?_
        refine gS [] [] 57 [(1, vc (u8 c)), (2, vp 2 0), (46, vc (bo (decide (c = 114))))] [(2, AObj.row (rwA a))] trivial ?_
        refine gC (c = 114) (fun hc8 => ?_) fun hc8 => ?_
        ·
         refine gS [(2, CE.call [] [] (vc (i6 (Policy.checkP a.rules))) [])] [Spec Tryz.prog 54 [tc (Policy.slP a.rules)] (ofH []) (vc (i6 (Policy.checkP a.rules))) (ofH [])] 57 [(4, vc (i6 (Policy.checkP a.rules)))] [] (Policy.RCheck_c a.rules) ?_
         exact gT (vc (i6 (Policy.checkP a.rules))) (by first | (subst_vars; rfl) | (subst_vars; rw [key16]; rfl) | (unfold fieldS; rw [if_neg (by assumption), if_neg (by assumption), if_neg (by assumption), if_neg (by assumption), if_neg (by assumption), if_neg (by assumption), if_neg (by assumption), if_neg (by assumption), if_neg (by assumption)]))
        ·
         refine AMx.skip ?_
         refine gQ ?_
         refine gS [] [] 57 [(2, vp 2 0), (51, vc (bo (decide (c = 107))))] [(2, AObj.row (rwA a))] trivial ?_
         refine gC (c = 107) (fun hc9 => ?_) fun hc9 => ?_
         ·
          refine gS [(4, CE.call [] [] (vc (i6 (fineS (decide ((List.length a.key : Int) = 16))))) [])] [Spec Tryz.prog 49 [tc (bo (decide ((List.length a.key : Int) = 16)))] (ofH []) (vc (i6 (fineS (decide ((List.length a.key : Int) = 16))))) (ofH [])] 57 [(4, vc (i6 (fineS (decide ((List.length a.key : Int) = 16)))))] [] (Rfine_c (decide ((List.length a.key : Int) = 16))) ?_
          exact gT (vc (i6 (fineS (decide ((List.length a.key : Int) = 16))))) (by first | (subst_vars; rfl) | (subst_vars; rw [key16]; rfl) | (unfold fieldS; rw [if_neg (by assumption), if_neg (by assumption), if_neg (by assumption), if_neg (by assumption), if_neg (by assumption), if_neg (by assumption), if_neg (by assumption), if_neg (by assumption), if_neg (by assumption)]))
         ·
          refine AMx.skip ?_
          refine gS [] [] 57 [(4, vc (i6 0))] [] trivial ?_
          exact gT (vc (i6 0)) (by first | (subst_vars; rfl) | (subst_vars; rw [key16]; rfl) | (unfold fieldS; rw [if_neg (by assumption), if_neg (by assumption), if_neg (by assumption), if_neg (by assumption), if_neg (by assumption), if_neg (by assumption), if_neg (by assumption), if_neg (by assumption), if_neg (by assumption)]))
end AL.Ask
namespace AL.Ask
open Go Go.Proofs AL
set_option linter.unusedVariables false
set_option linter.unusedSimpArgs false
theorem f36_body : Tryz.f36.body = some (.seq (.region 0 (rg Tryz.f36 0) false) (.seq (.region 1 (rg Tryz.f36 1) false) (.seq (.region 2 (rg Tryz.f36 2) false) (.seq (.seq (.region 3 (rg Tryz.f36 3) false) (.block 0 (.loop (.seq (.seq (.region 4 (rg Tryz.f36 4) false) (.cond (.tmp 11) (.skip) (.exit 0))) (.seq (.block 1 (.seq (.region 6 (rg Tryz.f36 6) false) (.cond (.tmp 24) (.seq (.region 7 (rg Tryz.f36 7) false) (.region 8 (rg Tryz.f36 8) false)) (.skip)))) (.region 5 (rg Tryz.f36 5) false)))))) (.seq (.region 9 (rg Tryz.f36 9) false) (.ret)))))) := by kernel_rfl
set_option maxRecDepth 100000 in
set_option maxHeartbeats 8000000 in
theorem Pieces_c (k : UInt8) (s : Bytes) (hb : s.length ≤ 100000) : Pure Tryz.prog 36 [tc (st s), tc (u8 (k.toNat : Int))] (vc (AL.Fnv.slS (AL.Sep.splitC k s))) := by
 refine Pure.of_body Tryz.func36 f36_body (by kernel_rfl) Tryz.ntmps36 (by kernel_rfl) (by kernel_rfl) ?_
 refine gS [] [] 35 [(0, vc (st s)), (1, vc (u8 (k.toNat : Int)))] [] trivial ?_
 refine gS [] [] 35 [(0, vc (st s)), (1, vc (u8 (k.toNat : Int))), (5, vc (SC.nilsl))] [] trivial ?_
 refine gS [] [] 35 [(0, vc (st s)), (1, vc (u8 (k.toNat : Int))), (5, vc (SC.nilsl)), (6, vc (i6 0))] [] trivial ?_
 refine gQ ?_
 refine gS [] [] 35 [(0, vc (st s)), (1, vc (u8 (k.toNat : Int))), (5, vc (SC.nilsl)), (6, vc (i6 0)), (7, vc (i6 0))] [] trivial ?_
 refine AMx.block ?_
 refine AMx.ent (s' := AS.lst 35 [(0, vc (st s)), (1, vc (u8 (k.toNat : Int))), (5, vo 5), (6, vc (i6 0)), (7, vc (i6 0))] [(5, AObj.grow 9 1 Bytes [] AL.Fnv.rowS [])]) (ent_adopt (t := 5) (d := 5) 9 1 Bytes [] AL.Fnv.rowS (by kernel_rfl) (by kernel_rfl) (by kernel_rfl) (by kernel_rfl)) ?_
 refine AMx.ent (s' := AS.lst 35 [(0, vc (st s)), (1, vc (u8 (k.toNat : Int))), (5, vo 5), (6, vc (i6 0)), (7, vc (i6 0))] [(5, AObj.grow 9 1 Bytes [] AL.Fnv.rowS [])]) (ent_proj [0, 1, 5, 6, 7] [5]) ?_
 refine AMx.loop (fun mm ss => ∃ (i : Nat) (f : Nat) (o : List Bytes), (Sep.SInv k s i f o) ∧ mm = s.length + 1 - i ∧ ss = AS.lst 35 [(0, vc (st s)), (1, vc (u8 (k.toNat : Int))), (5, vo 5), (6, vc (i6 (f : Int))), (7, vc (i6 (i : Int)))] [(5, AObj.grow 9 1 Bytes [] AL.Fnv.rowS o)]) ⟨0, 0, [], ?_, rfl, ?_⟩ ?_
 · exact Sep.sinv_0 k s
 · rfl
 rintro mm ss ⟨i, f, o, hP, rfl, rfl⟩
 refine gQ ?_
 refine gS [] [] 35 [(0, vc (st s)), (1, vc (u8 (k.toNat : Int))), (5, vo 5), (6, vc (i6 (f : Int))), (7, vc (i6 (i : Int))), (11, vc (bo (decide ((i : Int) ≤ (List.length s : Int)))))] [(5, AObj.grow 9 1 Bytes [] AL.Fnv.rowS o)] trivial ?_
 refine gC ((i : Int) ≤ (List.length s : Int)) (fun hc1 => ?_) fun hc1 => ?_
 ·
  refine AMx.skip ?_
  refine gQ ?_
  refine AMx.block ?_
  refine gS [] [((decide ((i : Int) = (List.length s : Int))) = false) → allP [], ((decide ((i : Int) = (List.length s : Int))) = false) → allP [], ((decide ((i : Int) = (List.length s : Int))) = false) → allP [(decide ((i : Int) = (List.length s : Int))) = false, (decide ((i : Int) = (List.length s : Int))) = false, (0 : Int) ≤ (i : Int), (i : Int) < List.length s], ((decide ((i : Int) = (List.length s : Int))) = false) → allP [], ((decide ((i : Int) = (List.length s : Int))) = false) → allP [(decide ((i : Int) = (List.length s : Int))) = false, (decide ((i : Int) = (List.length s : Int))) = false], (decide ((i : Int) = (List.length s : Int))) = false → allP [(decide ((i : Int) = (List.length s : Int))) = false]] 35 [(0, vc (st s)), (1, vc (u8 (k.toNat : Int))), (5, vo 5), (6, vc (i6 (f : Int))), (7, vc (i6 (i : Int))), (24, vc (bo ((decide ((i : Int) = (List.length s : Int))) || (decide (((List.getD s i 0).toNat : Int) = (k.toNat : Int))))))] [(5, AObj.grow 9 1 Bytes [] AL.Fnv.rowS o)] ⟨(fun _ => trivial), (fun _ => trivial), (fun hp => by have hq := hp; (try simp only [decide_eq_true_eq, decide_eq_false_iff_not, Bool.and_eq_true, Bool.or_eq_true, Bool.and_eq_false_iff, Bool.or_eq_false_iff, Bool.not_eq_true', Bool.not_eq_false', Bool.not_eq_true, Bool.not_eq_false] at hq); exact ⟨hp, hp, (show (0 : Int) ≤ (i : Int) from (by omega)), (show (i : Int) < List.length s from (by omega))⟩), (fun _ => trivial), (fun hp => ⟨hp, hp⟩), (fun hp2 => (by first | exact hp2 | exact ⟨hp, hp2⟩))⟩ ?_
  refine gB (((decide ((i : Int) = (List.length s : Int))) || (decide (((List.getD s i 0).toNat : Int) = (k.toNat : Int))))) (fun hc2 => ?_) fun hc2 => ?_
  ·
   try simp only [xT, xF, xO, xP] at hc2
   refine gS [(5, CE.obj (AObj.grow 9 1 Bytes [] AL.Fnv.rowS [List.drop f (List.take i s)])), (6, CE.obj (AObj.grow 9 1 Bytes [] AL.Fnv.rowS (o ++ [List.drop f (List.take i s)])))] [0 ≤ (i : Int), (i : Int) ≤ List.length s, 0 ≤ (f : Int), (f : Int) ≤ (i : Int), flat 1 AL.Fnv.rowS [List.drop f (List.take i s)] = [.s (st (List.drop f (List.take i s)))], List.length ([List.drop f (List.take i s)] : List Bytes) = 1, AppC (flat 1 AL.Fnv.rowS [List.drop f (List.take i s)]) (List.length ([List.drop f (List.take i s)] : List Bytes)) 16 (AObj.grow 9 1 Bytes [] AL.Fnv.rowS o) (AObj.grow 9 1 Bytes [] AL.Fnv.rowS (o ++ [List.drop f (List.take i s)]))] 35 [(0, vc (st s)), (1, vc (u8 (k.toNat : Int))), (5, vo 31), (7, vc (i6 (i : Int)))] [(31, AObj.grow 9 1 Bytes [] AL.Fnv.rowS (o ++ [List.drop f (List.take i s)]))] ⟨(show 0 ≤ (i : Int) from (by omega)), (show (i : Int) ≤ List.length s from (by omega)), (show 0 ≤ (f : Int) from (by omega)), (show (f : Int) ≤ (i : Int) from (by first | omega | (have hz := Sep.sinv_len hP; first | omega | ((try simp only [List.length_append, List.length_cons, List.length_nil]); omega)))), rfl, rfl, (⟨_, rfl, rfl, rfl, by have hz := Sep.sinv_len hP; simp only [List.length_append, List.length_cons, List.length_nil]; omega, by have hz := Sep.sinv_len hP; simp only [maxLen, List.length_append, List.length_cons, List.length_nil]; omega⟩)⟩ ?_
   refine gR [] [InR .i64 ((i : Int) + 1)] 35 [(0, vc (st s)), (1, vc (u8 (k.toNat : Int))), (5, vo 31), (6, vc (i6 ((i : Int) + 1))), (7, vc (i6 (i : Int)))] [(31, AObj.grow 9 1 Bytes [] AL.Fnv.rowS (o ++ [List.drop f (List.take i s)]))] (show InR .i64 ((i : Int) + 1) from (inR64 (by omega) (by omega))) ?_
   refine AMx.blk ?_
   refine gR [] [InR .i64 ((i : Int) + 1)] 35 [(0, vc (st s)), (1, vc (u8 (k.toNat : Int))), (5, vo 31), (6, vc (i6 ((i : Int) + 1))), (7, vc (i6 ((i : Int) + 1)))] [(31, AObj.grow 9 1 Bytes [] AL.Fnv.rowS (o ++ [List.drop f (List.take i s)]))] (show InR .i64 ((i : Int) + 1) from (inR64 (by omega) (by omega))) ?_
   refine AMx.ent_inv (s' := AS.lst 35 [(0, vc (st s)), (1, vc (u8 (k.toNat : Int))), (5, vo 5), (6, vc (i6 ((i : Int) + 1))), (7, vc (i6 ((i : Int) + 1)))] [(5, AObj.grow 9 1 Bytes [] AL.Fnv.rowS (o ++ [List.drop f (List.take i s)]))]) (ent_swap 31 5 (by kernel_rfl) (by kernel_rfl)) ?_
   refine AMx.ent_inv (s' := AS.lst 35 [(0, vc (st s)), (1, vc (u8 (k.toNat : Int))), (5, vo 5), (6, vc (i6 ((i : Int) + 1))), (7, vc (i6 ((i : Int) + 1)))] [(5, AObj.grow 9 1 Bytes [] AL.Fnv.rowS (o ++ [List.drop f (List.take i s)]))]) (ent_proj [0, 1, 5, 6, 7] [5]) ?_
   refine AMx.inv ⟨_, ?_, i + 1, i + 1, o ++ [(List.drop f (List.take i s))], ?_, rfl, ?_⟩
   rotate_left
   · exact piece_hit hP (by omega) (by assumption)
   · rfl
   · omega
  ·
   try simp only [xT, xF, xO, xP] at hc2
   refine AMx.skip ?_
   refine AMx.blk ?_
   refine gR [] [InR .i64 ((i : Int) + 1)] 35 [(0, vc (st s)), (1, vc (u8 (k.toNat : Int))), (5, vo 5), (6, vc (i6 (f : Int))), (7, vc (i6 ((i : Int) + 1)))] [(5, AObj.grow 9 1 Bytes [] AL.Fnv.rowS o)] (show InR .i64 ((i : Int) + 1) from (inR64 (by omega) (by omega))) ?_
   refine AMx.ent_inv (s' := AS.lst 35 [(0, vc (st s)), (1, vc (u8 (k.toNat : Int))), (5, vo 5), (6, vc (i6 (f : Int))), (7, vc (i6 ((i : Int) + 1)))] [(5, AObj.grow 9 1 Bytes [] AL.Fnv.rowS o)]) (ent_proj [0, 1, 5, 6, 7] [5]) ?_
   refine AMx.inv ⟨_, ?_, i + 1, f, o, ?_, rfl, ?_⟩
   rotate_left
   · exact piece_not hP (by omega) (by omega)
   · rfl
   · omega
 ·
  refine AMx.exit ?_
  refine AMx.code_exit ?_
  refine AMx.inv_exit ?_
  refine AMx.blk_exit ?_
  refine gS [] [] 35 [(4, vo 5)] [(5, AObj.grow 9 1 Bytes [] AL.Fnv.rowS o)] trivial ?_
  refine AMx.ent (s' := AS.lst 35 [(4, vc (AL.Fnv.slS o))] []) (ent_freeze (id := 5) (T := 9) (by kernel_rfl)) ?_
  exact gT (vc (AL.Fnv.slS o)) (by rw [Sep.sinv_end hP (by omega)])
theorem f31_body : Tryz.f31.body = some (.seq (.region 0 (rg Tryz.f31 0) false) (.seq (.seq (.region 1 (rg Tryz.f31 1) false) (.cond (.tmp 10) (.seq (.region 2 (rg Tryz.f31 2) false) (.ret)) (.skip))) (.seq (.seq (.region 3 (rg Tryz.f31 3) false) (.block 0 (.loop (.seq (.seq (.region 4 (rg Tryz.f31 4) false) (.cond (.tmp 14) (.skip) (.exit 0))) (.seq (.block 1 (.seq (.region 6 (rg Tryz.f31 6) true) (.cond (.tmp 25) (.seq (.region 7 (rg Tryz.f31 7) false) (.ret)) (.skip)))) (.region 5 (rg Tryz.f31 5) false)))))) (.seq (.region 8 (rg Tryz.f31 8) false) (.ret))))) := by kernel_rfl
set_option maxRecDepth 100000 in
set_option maxHeartbeats 8000000 in
theorem SameInts_c (a b : List Int) : Pure Tryz.prog 31 [tc (AL.Fnv.slI a), tc (AL.Fnv.slI b)] (vc (bo (decide (a = b)))) := by
 refine Pure.of_body Tryz.func31 f31_body (by kernel_rfl) Tryz.ntmps31 (by kernel_rfl) (by kernel_rfl) ?_
 refine AMx.sl 0 (l := a) rfl (fun hl => ?_)
 simp only [maxLen] at hl
 refine gS [] [] 26 [(0, vc (AL.Fnv.slI a)), (1, vc (AL.Fnv.slI b))] [] trivial ?_
 refine gQ ?_
 refine gS [] [] 26 [(0, vc (AL.Fnv.slI a)), (1, vc (AL.Fnv.slI b)), (10, vc (bo (!decide ((List.length a : Int) = (List.length b : Int)))))] [] trivial ?_
 refine gN ((List.length a : Int) = (List.length b : Int)) (fun hc1 => ?_) fun hc1 => ?_
 ·
  refine gS [] [] 26 [(4, vc (bo false))] [] trivial ?_
  exact gT (vc (bo false)) (by rw [decide_eq_false (fun h => by subst h; simp_all)])
 ·
  refine AMx.skip ?_
  refine gQ ?_
  refine gS [] [] 26 [(0, vc (AL.Fnv.slI a)), (1, vc (AL.Fnv.slI b)), (5, vc (i6 0))] [] trivial ?_
  refine AMx.block ?_
  refine AMx.ent (s' := AS.lst 26 [(0, vc (AL.Fnv.slI a)), (1, vc (AL.Fnv.slI b)), (5, vc (i6 0))] []) (ent_proj [0, 1, 5] []) ?_
  refine AMx.loop (fun mm ss => ∃ (i : Nat), (i ≤ a.length ∧ List.take i a = List.take i b) ∧ mm = a.length - i ∧ ss = AS.lst 26 [(0, vc (AL.Fnv.slI a)), (1, vc (AL.Fnv.slI b)), (5, vc (i6 (i : Int)))] []) ⟨0, ?_, rfl, ?_⟩ ?_
  · exact ⟨by omega, rfl⟩
  · rfl
  rintro mm ss ⟨i, ⟨hI, hE⟩, rfl, rfl⟩
  refine gQ ?_
  refine gS [] [] 26 [(0, vc (AL.Fnv.slI a)), (1, vc (AL.Fnv.slI b)), (5, vc (i6 (i : Int))), (14, vc (bo (decide ((i : Int) < (List.length a : Int)))))] [] trivial ?_
  refine gC ((i : Int) < (List.length a : Int)) (fun hc2 => ?_) fun hc2 => ?_
  ·
   refine AMx.skip ?_
   refine gQ ?_
   refine AMx.block ?_
   refine gY [] [] [(0 : Int) ≤ (i : Int), (i : Int) < List.length a, (0 : Int) ≤ (i : Int), (i : Int) < List.length b] 26 [(0, vc (AL.Fnv.slI a)), (1, vc (AL.Fnv.slI b)), (5, vc (i6 (i : Int))), (25, vc (bo (!decide ((List.getD a i 0) = (List.getD b i 0)))))] [] mixed ⟨(show (0 : Int) ≤ (i : Int) from (by omega)), (show (i : Int) < List.length a from (by omega)), (show (0 : Int) ≤ (i : Int) from (by omega)), (show (i : Int) < List.length b from (by omega))⟩ ?_
   refine gN ((List.getD a i 0) = (List.getD b i 0)) (fun hc3 => ?_) fun hc3 => ?_
   ·
    refine gS [] [] 26 [(4, vc (bo false))] [] trivial ?_
    exact gT (vc (bo false)) (by rw [decide_eq_false (fun h => by subst h; simp_all)])
   ·
    refine AMx.skip ?_
    refine AMx.blk ?_
    refine gR [] [InR .i64 ((i : Int) + 1)] 26 [(0, vc (AL.Fnv.slI a)), (1, vc (AL.Fnv.slI b)), (5, vc (i6 ((i : Int) + 1)))] [] (show InR .i64 ((i : Int) + 1) from (inR64 (by omega) (by omega))) ?_
    refine AMx.ent_inv (s' := AS.lst 26 [(0, vc (AL.Fnv.slI a)), (1, vc (AL.Fnv.slI b)), (5, vc (i6 ((i : Int) + 1)))] []) (ent_proj [0, 1, 5] []) ?_
    refine AMx.inv ⟨_, ?_, i + 1, ?_, rfl, ?_⟩
    rotate_left
    · exact ⟨by omega, Lib.same_step 0 a b i (by omega) (by omega) hE (by grind)⟩
    · rfl
    · omega
  ·
   refine AMx.exit ?_
   refine AMx.code_exit ?_
   refine AMx.inv_exit ?_
   refine AMx.blk_exit ?_
   refine gS [] [] 26 [(4, vc (bo true))] [] trivial ?_
   exact gT (vc (bo true)) (by rw [decide_eq_true (Lib.same_end a b i (by omega) (by omega) hE)])
theorem f13_body : Tryz.f13.body = some (.seq (.region 0 (rg Tryz.f13 0) false) (.seq (.region 1 (rg Tryz.f13 1) false) (.ret))) := by kernel_rfl
set_option maxRecDepth 100000 in
set_option maxHeartbeats 8000000 in
theorem RSame_c (a b : AskV) : Pure Tryz.prog 13 [TV.agg (rwA a), TV.agg (rwA b)] (vc (bo (decide (a = b)))) := by
 refine Pure.of_body Tryz.func13 f13_body (by kernel_rfl) Tryz.ntmps13 (by kernel_rfl) (by kernel_rfl) ?_
 refine gS [] [] 80 [(2, vp 2 0), (3, vp 3 0)] [(2, AObj.row (rwA a)), (3, AObj.row (rwA b))] trivial ?_
 refine gS [(52, CE.call [] [] (vc (bo (decide (a.ns = b.ns)))) []), (66, CE.call [] [] (vc (bo (decide (a.rules = b.rules)))) [])] [((decide (a.op = b.op)) = true) → allP [], ((decide (a.op = b.op)) = true) → allP [(decide (a.op = b.op)) = true], ((decide (a.op = b.op)) = true) → allP [], ((decide (a.op = b.op)) = true) → allP [(decide (a.op = b.op)) = true], ((decide (a.op = b.op)) = true) → allP [(decide (a.op = b.op)) = true, (decide (a.op = b.op)) = true], (decide (a.op = b.op)) = true → allP [(decide (a.op = b.op)) = true], (((decide (a.op = b.op)) && (decide (a.token = b.token))) = true) → allP [], (((decide (a.op = b.op)) && (decide (a.token = b.token))) = true) → allP [((decide (a.op = b.op)) && (decide (a.token = b.token))) = true], (((decide (a.op = b.op)) && (decide (a.token = b.token))) = true) → allP [], (((decide (a.op = b.op)) && (decide (a.token = b.token))) = true) → allP [((decide (a.op = b.op)) && (decide (a.token = b.token))) = true], (((decide (a.op = b.op)) && (decide (a.token = b.token))) = true) → allP [((decide (a.op = b.op)) && (decide (a.token = b.token))) = true, ((decide (a.op = b.op)) && (decide (a.token = b.token))) = true], ((decide (a.op = b.op)) && (decide (a.token = b.token))) = true → allP [((decide (a.op = b.op)) && (decide (a.token = b.token))) = true], ((((decide (a.op = b.op)) && (decide (a.token = b.token))) && (decide (a.path = b.path))) = true) → allP [], ((((decide (a.op = b.op)) && (decide (a.token = b.token))) && (decide (a.path = b.path))) = true) → allP [(((decide (a.op = b.op)) && (decide (a.token = b.token))) && (decide (a.path = b.path))) = true], ((((decide (a.op = b.op)) && (decide (a.token = b.token))) && (decide (a.path = b.path))) = true) → allP [], ((((decide (a.op = b.op)) && (decide (a.token = b.token))) && (decide (a.path = b.path))) = true) → allP [(((decide (a.op = b.op)) && (decide (a.token = b.token))) && (decide (a.path = b.path))) = true], ((((decide (a.op = b.op)) && (decide (a.token = b.token))) && (decide (a.path = b.path))) = true) → allP [(((decide (a.op = b.op)) && (decide (a.token = b.token))) && (decide (a.path = b.path))) = true, (((decide (a.op = b.op)) && (decide (a.token = b.token))) && (decide (a.path = b.path))) = true], (((decide (a.op = b.op)) && (decide (a.token = b.token))) && (decide (a.path = b.path))) = true → allP [(((decide (a.op = b.op)) && (decide (a.token = b.token))) && (decide (a.path = b.path))) = true], (((((decide (a.op = b.op)) && (decide (a.token = b.token))) && (decide (a.path = b.path))) && (decide (a.other = b.other))) = true) → allP [], (((((decide (a.op = b.op)) && (decide (a.token = b.token))) && (decide (a.path = b.path))) && (decide (a.other = b.other))) = true) → allP [((((decide (a.op = b.op)) && (decide (a.token = b.token))) && (decide (a.path = b.path))) && (decide (a.other = b.other))) = true], (((((decide (a.op = b.op)) && (decide (a.token = b.token))) && (decide (a.path = b.path))) && (decide (a.other = b.other))) = true) → allP [], (((((decide (a.op = b.op)) && (decide (a.token = b.token))) && (decide (a.path = b.path))) && (decide (a.other = b.other))) = true) → allP [((((decide (a.op = b.op)) && (decide (a.token = b.token))) && (decide (a.path = b.path))) && (decide (a.other = b.other))) = true], (((((decide (a.op = b.op)) && (decide (a.token = b.token))) && (decide (a.path = b.path))) && (decide (a.other = b.other))) = true) → allP [((((decide (a.op = b.op)) && (decide (a.token = b.token))) && (decide (a.path = b.path))) && (decide (a.other = b.other))) = true, ((((decide (a.op = b.op)) && (decide (a.token = b.token))) && (decide (a.path = b.path))) && (decide (a.other = b.other))) = true], ((((decide (a.op = b.op)) && (decide (a.token = b.token))) && (decide (a.path = b.path))) && (decide (a.other = b.other))) = true → allP [((((decide (a.op = b.op)) && (decide (a.token = b.token))) && (decide (a.path = b.path))) && (decide (a.other = b.other))) = true], ((((((decide (a.op = b.op)) && (decide (a.token = b.token))) && (decide (a.path = b.path))) && (decide (a.other = b.other))) && (decide (a.n = b.n))) = true) → allP [], ((((((decide (a.op = b.op)) && (decide (a.token = b.token))) && (decide (a.path = b.path))) && (decide (a.other = b.other))) && (decide (a.n = b.n))) = true) → allP [(((((decide (a.op = b.op)) && (decide (a.token = b.token))) && (decide (a.path = b.path))) && (decide (a.other = b.other))) && (decide (a.n = b.n))) = true], ((((((decide (a.op = b.op)) && (decide (a.token = b.token))) && (decide (a.path = b.path))) && (decide (a.other = b.other))) && (decide (a.n = b.n))) = true) → allP [], ((((((decide (a.op = b.op)) && (decide (a.token = b.token))) && (decide (a.path = b.path))) && (decide (a.other = b.other))) && (decide (a.n = b.n))) = true) → allP [(((((decide (a.op = b.op)) && (decide (a.token = b.token))) && (decide (a.path = b.path))) && (decide (a.other = b.other))) && (decide (a.n = b.n))) = true], ((((((decide (a.op = b.op)) && (decide (a.token = b.token))) && (decide (a.path = b.path))) && (decide (a.other = b.other))) && (decide (a.n = b.n))) = true) → allP [(((((decide (a.op = b.op)) && (decide (a.token = b.token))) && (decide (a.path = b.path))) && (decide (a.other = b.other))) && (decide (a.n = b.n))) = true, (((((decide (a.op = b.op)) && (decide (a.token = b.token))) && (decide (a.path = b.path))) && (decide (a.other = b.other))) && (decide (a.n = b.n))) = true], (((((decide (a.op = b.op)) && (decide (a.token = b.token))) && (decide (a.path = b.path))) && (decide (a.other = b.other))) && (decide (a.n = b.n))) = true → allP [(((((decide (a.op = b.op)) && (decide (a.token = b.token))) && (decide (a.path = b.path))) && (decide (a.other = b.other))) && (decide (a.n = b.n))) = true], (((((((decide (a.op = b.op)) && (decide (a.token = b.token))) && (decide (a.path = b.path))) && (decide (a.other = b.other))) && (decide (a.n = b.n))) && (decide (a.cas = b.cas))) = true) → allP [], (((((((decide (a.op = b.op)) && (decide (a.token = b.token))) && (decide (a.path = b.path))) && (decide (a.other = b.other))) && (decide (a.n = b.n))) && (decide (a.cas = b.cas))) = true) → allP [((((((decide (a.op = b.op)) && (decide (a.token = b.token))) && (decide (a.path = b.path))) && (decide (a.other = b.other))) && (decide (a.n = b.n))) && (decide (a.cas = b.cas))) = true], (((((((decide (a.op = b.op)) && (decide (a.token = b.token))) && (decide (a.path = b.path))) && (decide (a.other = b.other))) && (decide (a.n = b.n))) && (decide (a.cas = b.cas))) = true) → allP [], (((((((decide (a.op = b.op)) && (decide (a.token = b.token))) && (decide (a.path = b.path))) && (decide (a.other = b.other))) && (decide (a.n = b.n))) && (decide (a.cas = b.cas))) = true) → allP [((((((decide (a.op = b.op)) && (decide (a.token = b.token))) && (decide (a.path = b.path))) && (decide (a.other = b.other))) && (decide (a.n = b.n))) && (decide (a.cas = b.cas))) = true], (((((((decide (a.op = b.op)) && (decide (a.token = b.token))) && (decide (a.path = b.path))) && (decide (a.other = b.other))) && (decide (a.n = b.n))) && (decide (a.cas = b.cas))) = true) → allP [((((((decide (a.op = b.op)) && (decide (a.token = b.token))) && (decide (a.path = b.path))) && (decide (a.other = b.other))) && (decide (a.n = b.n))) && (decide (a.cas = b.cas))) = true, ((((((decide (a.op = b.op)) && (decide (a.token = b.token))) && (decide (a.path = b.path))) && (decide (a.other = b.other))) && (decide (a.n = b.n))) && (decide (a.cas = b.cas))) = true], ((((((decide (a.op = b.op)) && (decide (a.token = b.token))) && (decide (a.path = b.path))) && (decide (a.other = b.other))) && (decide (a.n = b.n))) && (decide (a.cas = b.cas))) = true → allP [((((((decide (a.op = b.op)) && (decide (a.token = b.token))) && (decide (a.path = b.path))) && (decide (a.other = b.other))) && (decide (a.n = b.n))) && (decide (a.cas = b.cas))) = true], ((((((((decide (a.op = b.op)) && (decide (a.token = b.token))) && (decide (a.path = b.path))) && (decide (a.other = b.other))) && (decide (a.n = b.n))) && (decide (a.cas = b.cas))) && (a.flag == b.flag)) = true) → allP [], ((((((((decide (a.op = b.op)) && (decide (a.token = b.token))) && (decide (a.path = b.path))) && (decide (a.other = b.other))) && (decide (a.n = b.n))) && (decide (a.cas = b.cas))) && (a.flag == b.flag)) = true) → allP [(((((((decide (a.op = b.op)) && (decide (a.token = b.token))) && (decide (a.path = b.path))) && (decide (a.other = b.other))) && (decide (a.n = b.n))) && (decide (a.cas = b.cas))) && (a.flag == b.flag)) = true], ((((((((decide (a.op = b.op)) && (decide (a.token = b.token))) && (decide (a.path = b.path))) && (decide (a.other = b.other))) && (decide (a.n = b.n))) && (decide (a.cas = b.cas))) && (a.flag == b.flag)) = true) → allP [], ((((((((decide (a.op = b.op)) && (decide (a.token = b.token))) && (decide (a.path = b.path))) && (decide (a.other = b.other))) && (decide (a.n = b.n))) && (decide (a.cas = b.cas))) && (a.flag == b.flag)) = true) → allP [(((((((decide (a.op = b.op)) && (decide (a.token = b.token))) && (decide (a.path = b.path))) && (decide (a.other = b.other))) && (decide (a.n = b.n))) && (decide (a.cas = b.cas))) && (a.flag == b.flag)) = true], ((((((((decide (a.op = b.op)) && (decide (a.token = b.token))) && (decide (a.path = b.path))) && (decide (a.other = b.other))) && (decide (a.n = b.n))) && (decide (a.cas = b.cas))) && (a.flag == b.flag)) = true) → allP [(((((((decide (a.op = b.op)) && (decide (a.token = b.token))) && (decide (a.path = b.path))) && (decide (a.other = b.other))) && (decide (a.n = b.n))) && (decide (a.cas = b.cas))) && (a.flag == b.flag)) = true, (((((((decide (a.op = b.op)) && (decide (a.token = b.token))) && (decide (a.path = b.path))) && (decide (a.other = b.other))) && (decide (a.n = b.n))) && (decide (a.cas = b.cas))) && (a.flag == b.flag)) = true, Spec Tryz.prog 31 [tc (AL.Fnv.slI a.ns), tc (AL.Fnv.slI b.ns)] (ofH []) (vc (bo (decide (a.ns = b.ns)))) (ofH [])], (((((((decide (a.op = b.op)) && (decide (a.token = b.token))) && (decide (a.path = b.path))) && (decide (a.other = b.other))) && (decide (a.n = b.n))) && (decide (a.cas = b.cas))) && (a.flag == b.flag)) = true → allP [(((((((decide (a.op = b.op)) && (decide (a.token = b.token))) && (decide (a.path = b.path))) && (decide (a.other = b.other))) && (decide (a.n = b.n))) && (decide (a.cas = b.cas))) && (a.flag == b.flag)) = true], (((((((((decide (a.op = b.op)) && (decide (a.token = b.token))) && (decide (a.path = b.path))) && (decide (a.other = b.other))) && (decide (a.n = b.n))) && (decide (a.cas = b.cas))) && (a.flag == b.flag)) && (decide (a.ns = b.ns))) = true) → allP [], (((((((((decide (a.op = b.op)) && (decide (a.token = b.token))) && (decide (a.path = b.path))) && (decide (a.other = b.other))) && (decide (a.n = b.n))) && (decide (a.cas = b.cas))) && (a.flag == b.flag)) && (decide (a.ns = b.ns))) = true) → allP [((((((((decide (a.op = b.op)) && (decide (a.token = b.token))) && (decide (a.path = b.path))) && (decide (a.other = b.other))) && (decide (a.n = b.n))) && (decide (a.cas = b.cas))) && (a.flag == b.flag)) && (decide (a.ns = b.ns))) = true], (((((((((decide (a.op = b.op)) && (decide (a.token = b.token))) && (decide (a.path = b.path))) && (decide (a.other = b.other))) && (decide (a.n = b.n))) && (decide (a.cas = b.cas))) && (a.flag == b.flag)) && (decide (a.ns = b.ns))) = true) → allP [], (((((((((decide (a.op = b.op)) && (decide (a.token = b.token))) && (decide (a.path = b.path))) && (decide (a.other = b.other))) && (decide (a.n = b.n))) && (decide (a.cas = b.cas))) && (a.flag == b.flag)) && (decide (a.ns = b.ns))) = true) → allP [((((((((decide (a.op = b.op)) && (decide (a.token = b.token))) && (decide (a.path = b.path))) && (decide (a.other = b.other))) && (decide (a.n = b.n))) && (decide (a.cas = b.cas))) && (a.flag == b.flag)) && (decide (a.ns = b.ns))) = true], (((((((((decide (a.op = b.op)) && (decide (a.token = b.token))) && (decide (a.path = b.path))) && (decide (a.other = b.other))) && (decide (a.n = b.n))) && (decide (a.cas = b.cas))) && (a.flag == b.flag)) && (decide (a.ns = b.ns))) = true) → allP [((((((((decide (a.op = b.op)) && (decide (a.token = b.token))) && (decide (a.path = b.path))) && (decide (a.other = b.other))) && (decide (a.n = b.n))) && (decide (a.cas = b.cas))) && (a.flag == b.flag)) && (decide (a.ns = b.ns))) = true, ((((((((decide (a.op = b.op)) && (decide (a.token = b.token))) && (decide (a.path = b.path))) && (decide (a.other = b.other))) && (decide (a.n = b.n))) && (decide (a.cas = b.cas))) && (a.flag == b.flag)) && (decide (a.ns = b.ns))) = true], ((((((((decide (a.op = b.op)) && (decide (a.token = b.token))) && (decide (a.path = b.path))) && (decide (a.other = b.other))) && (decide (a.n = b.n))) && (decide (a.cas = b.cas))) && (a.flag == b.flag)) && (decide (a.ns = b.ns))) = true → allP [((((((((decide (a.op = b.op)) && (decide (a.token = b.token))) && (decide (a.path = b.path))) && (decide (a.other = b.other))) && (decide (a.n = b.n))) && (decide (a.cas = b.cas))) && (a.flag == b.flag)) && (decide (a.ns = b.ns))) = true], ((((((((((decide (a.op = b.op)) && (decide (a.token = b.token))) && (decide (a.path = b.path))) && (decide (a.other = b.other))) && (decide (a.n = b.n))) && (decide (a.cas = b.cas))) && (a.flag == b.flag)) && (decide (a.ns = b.ns))) && (decide (a.data = b.data))) = true) → allP [], ((((((((((decide (a.op = b.op)) && (decide (a.token = b.token))) && (decide (a.path = b.path))) && (decide (a.other = b.other))) && (decide (a.n = b.n))) && (decide (a.cas = b.cas))) && (a.flag == b.flag)) && (decide (a.ns = b.ns))) && (decide (a.data = b.data))) = true) → allP [(((((((((decide (a.op = b.op)) && (decide (a.token = b.token))) && (decide (a.path = b.path))) && (decide (a.other = b.other))) && (decide (a.n = b.n))) && (decide (a.cas = b.cas))) && (a.flag == b.flag)) && (decide (a.ns = b.ns))) && (decide (a.data = b.data))) = true], ((((((((((decide (a.op = b.op)) && (decide (a.token = b.token))) && (decide (a.path = b.path))) && (decide (a.other = b.other))) && (decide (a.n = b.n))) && (decide (a.cas = b.cas))) && (a.flag == b.flag)) && (decide (a.ns = b.ns))) && (decide (a.data = b.data))) = true) → allP [], ((((((((((decide (a.op = b.op)) && (decide (a.token = b.token))) && (decide (a.path = b.path))) && (decide (a.other = b.other))) && (decide (a.n = b.n))) && (decide (a.cas = b.cas))) && (a.flag == b.flag)) && (decide (a.ns = b.ns))) && (decide (a.data = b.data))) = true) → allP [(((((((((decide (a.op = b.op)) && (decide (a.token = b.token))) && (decide (a.path = b.path))) && (decide (a.other = b.other))) && (decide (a.n = b.n))) && (decide (a.cas = b.cas))) && (a.flag == b.flag)) && (decide (a.ns = b.ns))) && (decide (a.data = b.data))) = true], ((((((((((decide (a.op = b.op)) && (decide (a.token = b.token))) && (decide (a.path = b.path))) && (decide (a.other = b.other))) && (decide (a.n = b.n))) && (decide (a.cas = b.cas))) && (a.flag == b.flag)) && (decide (a.ns = b.ns))) && (decide (a.data = b.data))) = true) → allP [(((((((((decide (a.op = b.op)) && (decide (a.token = b.token))) && (decide (a.path = b.path))) && (decide (a.other = b.other))) && (decide (a.n = b.n))) && (decide (a.cas = b.cas))) && (a.flag == b.flag)) && (decide (a.ns = b.ns))) && (decide (a.data = b.data))) = true, (((((((((decide (a.op = b.op)) && (decide (a.token = b.token))) && (decide (a.path = b.path))) && (decide (a.other = b.other))) && (decide (a.n = b.n))) && (decide (a.cas = b.cas))) && (a.flag == b.flag)) && (decide (a.ns = b.ns))) && (decide (a.data = b.data))) = true, Spec Tryz.prog 32 [tc (Policy.slP a.rules), tc (Policy.slP b.rules)] (ofH []) (vc (bo (decide (a.rules = b.rules)))) (ofH [])], (((((((((decide (a.op = b.op)) && (decide (a.token = b.token))) && (decide (a.path = b.path))) && (decide (a.other = b.other))) && (decide (a.n = b.n))) && (decide (a.cas = b.cas))) && (a.flag == b.flag)) && (decide (a.ns = b.ns))) && (decide (a.data = b.data))) = true → allP [(((((((((decide (a.op = b.op)) && (decide (a.token = b.token))) && (decide (a.path = b.path))) && (decide (a.other = b.other))) && (decide (a.n = b.n))) && (decide (a.cas = b.cas))) && (a.flag == b.flag)) && (decide (a.ns = b.ns))) && (decide (a.data = b.data))) = true], (((((((((((decide (a.op = b.op)) && (decide (a.token = b.token))) && (decide (a.path = b.path))) && (decide (a.other = b.other))) && (decide (a.n = b.n))) && (decide (a.cas = b.cas))) && (a.flag == b.flag)) && (decide (a.ns = b.ns))) && (decide (a.data = b.data))) && (decide (a.rules = b.rules))) = true) → allP [], (((((((((((decide (a.op = b.op)) && (decide (a.token = b.token))) && (decide (a.path = b.path))) && (decide (a.other = b.other))) && (decide (a.n = b.n))) && (decide (a.cas = b.cas))) && (a.flag == b.flag)) && (decide (a.ns = b.ns))) && (decide (a.data = b.data))) && (decide (a.rules = b.rules))) = true) → allP [((((((((((decide (a.op = b.op)) && (decide (a.token = b.token))) && (decide (a.path = b.path))) && (decide (a.other = b.other))) && (decide (a.n = b.n))) && (decide (a.cas = b.cas))) && (a.flag == b.flag)) && (decide (a.ns = b.ns))) && (decide (a.data = b.data))) && (decide (a.rules = b.rules))) = true], (((((((((((decide (a.op = b.op)) && (decide (a.token = b.token))) && (decide (a.path = b.path))) && (decide (a.other = b.other))) && (decide (a.n = b.n))) && (decide (a.cas = b.cas))) && (a.flag == b.flag)) && (decide (a.ns = b.ns))) && (decide (a.data = b.data))) && (decide (a.rules = b.rules))) = true) → allP [], (((((((((((decide (a.op = b.op)) && (decide (a.token = b.token))) && (decide (a.path = b.path))) && (decide (a.other = b.other))) && (decide (a.n = b.n))) && (decide (a.cas = b.cas))) && (a.flag == b.flag)) && (decide (a.ns = b.ns))) && (decide (a.data = b.data))) && (decide (a.rules = b.rules))) = true) → allP [((((((((((decide (a.op = b.op)) && (decide (a.token = b.token))) && (decide (a.path = b.path))) && (decide (a.other = b.other))) && (decide (a.n = b.n))) && (decide (a.cas = b.cas))) && (a.flag == b.flag)) && (decide (a.ns = b.ns))) && (decide (a.data = b.data))) && (decide (a.rules = b.rules))) = true], (((((((((((decide (a.op = b.op)) && (decide (a.token = b.token))) && (decide (a.path = b.path))) && (decide (a.other = b.other))) && (decide (a.n = b.n))) && (decide (a.cas = b.cas))) && (a.flag == b.flag)) && (decide (a.ns = b.ns))) && (decide (a.data = b.data))) && (decide (a.rules = b.rules))) = true) → allP [((((((((((decide (a.op = b.op)) && (decide (a.token = b.token))) && (decide (a.path = b.path))) && (decide (a.other = b.other))) && (decide (a.n = b.n))) && (decide (a.cas = b.cas))) && (a.flag == b.flag)) && (decide (a.ns = b.ns))) && (decide (a.data = b.data))) && (decide (a.rules = b.rules))) = true, ((((((((((decide (a.op = b.op)) && (decide (a.token = b.token))) && (decide (a.path = b.path))) && (decide (a.other = b.other))) && (decide (a.n = b.n))) && (decide (a.cas = b.cas))) && (a.flag == b.flag)) && (decide (a.ns = b.ns))) && (decide (a.data = b.data))) && (decide (a.rules = b.rules))) = true], ((((((((((decide (a.op = b.op)) && (decide (a.token = b.token))) && (decide (a.path = b.path))) && (decide (a.other = b.other))) && (decide (a.n = b.n))) && (decide (a.cas = b.cas))) && (a.flag == b.flag)) && (decide (a.ns = b.ns))) && (decide (a.data = b.data))) && (decide (a.rules = b.rules))) = true → allP [((((((((((decide (a.op = b.op)) && (decide (a.token = b.token))) && (decide (a.path = b.path))) && (decide (a.other = b.other))) && (decide (a.n = b.n))) && (decide (a.cas = b.cas))) && (a.flag == b.flag)) && (decide (a.ns = b.ns))) && (decide (a.data = b.data))) && (decide (a.rules = b.rules))) = true]] 80 [(4, vc (bo (((((((((((decide (a.op = b.op)) && (decide (a.token = b.token))) && (decide (a.path = b.path))) && (decide (a.other = b.other))) && (decide (a.n = b.n))) && (decide (a.cas = b.cas))) && (a.flag == b.flag)) && (decide (a.ns = b.ns))) && (decide (a.data = b.data))) && (decide (a.rules = b.rules))) && (decide (a.key = b.key)))))] [] ⟨(fun _ => trivial), (fun hp => hp), (fun _ => trivial), (fun hp => hp), (fun hp => ⟨hp, hp⟩), (fun hp2 => (by first | exact hp2 | exact ⟨hp, hp2⟩)), (fun _ => trivial), (fun hp => hp), (fun _ => trivial), (fun hp => hp), (fun hp => ⟨hp, hp⟩), (fun hp2 => (by first | exact hp2 | exact ⟨hp, hp2⟩)), (fun _ => trivial), (fun hp => hp), (fun _ => trivial), (fun hp => hp), (fun hp => ⟨hp, hp⟩), (fun hp2 => (by first | exact hp2 | exact ⟨hp, hp2⟩)), (fun _ => trivial), (fun hp => hp), (fun _ => trivial), (fun hp => hp), (fun hp => ⟨hp, hp⟩), (fun hp2 => (by first | exact hp2 | exact ⟨hp, hp2⟩)), (fun _ => trivial), (fun hp => hp), (fun _ => trivial), (fun hp => hp), (fun hp => ⟨hp, hp⟩), (fun hp2 => (by first | exact hp2 | exact ⟨hp, hp2⟩)), (fun _ => trivial), (fun hp => hp), (fun _ => trivial), (fun hp => hp), (fun hp => ⟨hp, hp⟩), (fun hp2 => (by first | exact hp2 | exact ⟨hp, hp2⟩)), (fun _ => trivial), (fun hp => hp), (fun _ => trivial), (fun hp => hp), (fun hp => by have hq := hp; (try simp only [decide_eq_true_eq, decide_eq_false_iff_not, Bool.and_eq_true, Bool.or_eq_true, Bool.and_eq_false_iff, Bool.or_eq_false_iff, Bool.not_eq_true', Bool.not_eq_false', Bool.not_eq_true, Bool.not_eq_false] at hq); exact ⟨hp, hp, (SameInts_c a.ns b.ns)⟩), (fun hp2 => (by first | exact hp2 | exact ⟨hp, hp2⟩)), (fun _ => trivial), (fun hp => hp), (fun _ => trivial), (fun hp => hp), (fun hp => ⟨hp, hp⟩), (fun hp2 => (by first | exact hp2 | exact ⟨hp, hp2⟩)), (fun _ => trivial), (fun hp => hp), (fun _ => trivial), (fun hp => hp), (fun hp => by have hq := hp; (try simp only [decide_eq_true_eq, decide_eq_false_iff_not, Bool.and_eq_true, Bool.or_eq_true, Bool.and_eq_false_iff, Bool.or_eq_false_iff, Bool.not_eq_true', Bool.not_eq_false', Bool.not_eq_true, Bool.not_eq_false] at hq); exact ⟨hp, hp, (Policy.RSame_c a.rules b.rules)⟩), (fun hp2 => (by first | exact hp2 | exact ⟨hp, hp2⟩)), (fun _ => trivial), (fun hp => hp), (fun _ => trivial), (fun hp => hp), (fun hp => ⟨hp, hp⟩), (fun hp2 => (by first | exact hp2 | exact ⟨hp, hp2⟩))⟩ ?_
 exact gT (vc (bo (((((((((((decide (a.op = b.op)) && (decide (a.token = b.token))) && (decide (a.path = b.path))) && (decide (a.other = b.other))) && (decide (a.n = b.n))) && (decide (a.cas = b.cas))) && (a.flag == b.flag)) && (decide (a.ns = b.ns))) && (decide (a.data = b.data))) && (decide (a.rules = b.rules))) && (decide (a.key = b.key))))) (by rw [same_ref])
end AL.Ask
namespace AL.Ask
open Go AL
open AL.Sep (splitC joinC)
open AL.Policy (RuleV textP parseP checkP)
set_option linter.unusedVariables false
set_option linter.unusedSimpArgs false
def Clear (a : AskV) (c : Int) : Prop := (c = 108 → a.ns = []) ∧ (c = 114 → a.rules = [])
theorem clear_of {a : AskV} {c : Int} (h : withoutS a c = a) : Clear a c := by
  constructor
  · intro e; subst e; exact congrArg AskV.ns h.symm
  · intro e; subst e; exact congrArg AskV.rules h.symm
theorem with_f (a : AskV) (s : Bytes) : readA a 102 s = ({ a with flag := decide (s = [49]) }, fineS (decide (s = [48]) || decide (s = [49]))) := by
  show (({ a with flag := decide (s = [49]) } : AskV), fineS (decide (s = [49]) || decide (s = [48]))) = _
  rw [Bool.or_comm]
theorem with_c {a : AskV} {s : Bytes} (h : ¬ s = [45]) : readA a 99 s = ({ a with cas := scanN s }, fineS (decide (0 ≤ scanN s))) := if_neg h
theorem with_l {a : AskV} {s : Bytes} (h : ¬ s = [45]) : readA a 108 s = ({ a with ns := numbersS s }, fieldS { a with ns := numbersS s } 108) := if_neg h
theorem with_r2 {a : AskV} (h : a.rules = []) : readA a 114 [45] = (a, fieldS a 114) := by
  show (a, (0 : Int)) = (a, checkP a.rules)
  rw [h]; rfl
theorem with_r0 {a : AskV} (h : a.rules = []) : readA a 114 [] = ({ a with rules := (parseP []).1 }, 4) := by
  show (a, (4 : Int)) = _
  rw [Policy.parse_nil, ← h]
def nsX (x : SC) (c : Int) (s : Bytes) : SC := if c = 108 then (if s = [45] then x else Fnv.slI (numbersS s)) else x
theorem nsx_d {x : SC} {s : Bytes} (h : s = [45]) : nsX x 108 s = x := if_pos h
theorem nsx_l {x : SC} {s : Bytes} (h : ¬ s = [45]) : nsX x 108 s = Fnv.slI (numbersS s) := if_neg h
theorem nsx_o {x : SC} {c : Int} {s : Bytes} (h : ¬ c = 108) : nsX x c s = x := if_neg h
theorem nsx_f {x : SC} {c : Int} {s : Bytes} (h : ¬ c = 108 ∨ s = [45]) : nsX x c s = x := by
  unfold nsX
  rcases h with h | h
  · exact if_neg h
  · rw [if_pos h]; split <;> rfl
def nsL (l : List Int) (c : Int) (s : Bytes) : List Int := if c = 108 ∧ ¬ s = [45] then numbersS s else l
theorem nil_le {l : List Int} (h : l = []) : AC.le (.s SC.nilsl) (.s (Fnv.slI l)) := by subst h; exact AC.le_nil
theorem nsx_le2 {l : List Int} {c : Int} {s : Bytes} (h : l = []) : AC.le (.s (nsX SC.nilsl c s)) (.s (Fnv.slI (nsL l c s))) := by
  by_cases q : c = 108 ∧ ¬ s = [45]
  · rw [q.1, nsx_l q.2, show nsL l 108 s = numbersS s from if_pos ⟨rfl, q.2⟩]; exact AC.le_rfl
  · have e : nsX SC.nilsl c s = SC.nilsl := nsx_f (by by_cases z : c = 108; exact .inr (Decidable.not_not.1 fun y => q ⟨z, y⟩); exact .inl z)
    rw [e, show nsL l c s = l from if_neg q]
    exact nil_le h
theorem nsl_y {l : List Int} {s : Bytes} (h : ¬ s = [45]) : nsL l 108 s = numbersS s := if_pos ⟨rfl, h⟩
def NsX (x : SC) (l : List Int) : Prop := (x = SC.nilsl ∧ l = []) ∨ x = Fnv.slI l
theorem nsx_le {x : SC} {l : List Int} (h : NsX x l) : AC.le (.s x) (.s (Fnv.slI l)) := by
  rcases h with ⟨rfl, h⟩ | rfl
  · exact nil_le h
  · exact AC.le_rfl
theorem sl_not {l : List Int} : ¬ Fnv.slI l = SC.nilsl := fun h => by cases h
theorem read_ns (a : AskV) {c : Int} (s : Bytes) (h : LetI c) (h2 : ¬ c = 108) : (readA a c s).1.ns = a.ns := by
  rcases h with h | h | h | h | h | h | h | h | h | h | h <;> subst h
  · rfl
  · rfl
  · rfl
  · rfl
  · rfl
  · show (if s = [45] then (({ a with cas := -1 } : AskV), (0 : Int)) else _).1.ns = _
    split <;> rfl
  · rfl
  · exact absurd rfl h2
  · show (if s = [45] then (a, (0 : Int)) else _).1.ns = _
    split <;> rfl
  · show (if s = [45] then (a, (0 : Int)) else if s = [] then (a, 4) else _).1.ns = _
    split
    · rfl
    · split <;> rfl
  · rfl
theorem nsx_read {x : SC} {a : AskV} {c : Int} {s : Bytes} (hc : LetI c) (hx : NsX x a.ns) (h : c = 108 → x = SC.nilsl) : NsX (nsX x c s) (readA a c s).1.ns := by
  by_cases e : c = 108
  · subst e
    obtain rfl := h rfl
    by_cases q : s = [45]
    · subst q
      rw [nsx_d rfl]
      rcases hx with hx | hx
      · exact .inl ⟨rfl, hx.2⟩
      · exact absurd hx.symm sl_not
    · rw [nsx_l q]
      right
      rw [show readA a 108 s = ({ a with ns := numbersS s }, fineS (okNs (numbersS s))) from if_neg q]
  · rw [nsx_o e, read_ns a s hc e]; exact hx
def opTo (w : Bytes) (k : Nat) : Int := if 1 ≤ opS w ∧ opS w < (k : Int) then opS w else 0
theorem opto_1 (w : Bytes) : opTo w 1 = 0 := if_neg (by omega)
theorem opto_hit {w : Bytes} {k : Nat} (h1 : 1 ≤ k) (h2 : k ≤ 18) (h : wordS (k : Int) = w) : opTo w (k + 1) = (k : Int) := by
  have e : opS w = k := op_some h1 h2 h
  unfold opTo
  rw [e, if_pos ⟨by omega, by omega⟩]
theorem opto_not {w : Bytes} {k : Nat} (h1 : 1 ≤ k) (h2 : k ≤ 18) (h : ¬ wordS (k : Int) = w) : opTo w (k + 1) = opTo w k := by
  have e : ¬ opS w = k := by
    intro q
    rcases op_rng w with z | ⟨_, _, z⟩
    · omega
    · rw [q] at z; exact h z
  unfold opTo
  by_cases q : 1 ≤ opS w ∧ opS w < (k : Int)
  · rw [if_pos q, if_pos ⟨q.1, by omega⟩]
  · rw [if_neg q, if_neg (by omega)]
theorem opto_end (w : Bytes) {k : Nat} (h : 19 ≤ k) : opTo w k = opS w := by
  unfold opTo
  rcases op_rng w with z | ⟨z1, z2, _⟩
  · rw [z]; rfl
  · rw [if_pos ⟨z1, by omega⟩]
def ReadTo (op : Int) (ws : List Bytes) (k : Nat) (b : AskV) : Prop :=
  ReadAt { askd with op := op } (kindS op) (List.drop 1 ws) k b ∧ ∀ c ∈ List.drop k (kindS op), withoutS b (c.toNat : Int) = b
theorem readto_0 (op : Int) (ws : List Bytes) : ReadTo op ws 0 { askd with op := op } :=
  ⟨readat_0 _ _ _, fun c hc => zero_op ((kind_let op).1 c (by rwa [List.drop_zero] at hc))⟩
theorem readto_clear {op : Int} {ws : List Bytes} {k : Nat} {b : AskV} (h : k < (kindS op).length) (hN : ReadTo op ws k b) : Clear b ((List.getD (kindS op) k 0).toNat : Int) :=
  clear_of (hN.2 _ (by rw [Lib.drop_cons 0 (kindS op) k h]; exact List.mem_cons_self ..))
theorem readto_next {op : Int} {ws : List Bytes} {k : Nat} {b : AskV} (h : k < (kindS op).length) (hN : ReadTo op ws k b) (h0 : (readA b ((List.getD (kindS op) k 0).toNat : Int) (List.getD ws (k + 1) [])).2 = 0) :
    ReadTo op ws (k + 1) (readA b ((List.getD (kindS op) k 0).toNat : Int) (List.getD ws (k + 1) [])).1 := by
  obtain ⟨hN, hZ⟩ := hN
  rw [Nat.add_comm k 1] at h0 ⊢
  refine ⟨by rw [Nat.add_comm 1 k, Nat.add_comm k 1]; exact Nat.add_comm k 1 ▸ readat_next h hN h0, ?_⟩
  rw [Lib.drop_cons 0 (kindS op) k h] at hZ
  have hl : LetI ((List.getD (kindS op) k 0).toNat : Int) := (kind_let op).1 _ (Lib.getD_mem 0 _ k h)
  have hs := (lay_read hl (hZ _ (List.mem_cons_self ..)) h0).2.2.1
  have hp : (List.drop k (kindS op)).Pairwise fun b d => Apart (b.toNat : Int) (d.toNat : Int) := (kind_let op).2.sublist (List.drop_sublist k _)
  rw [Lib.drop_cons 0 (kindS op) k h, List.pairwise_cons] at hp
  intro d hd
  rw [Nat.add_comm 1 k] at hd
  have hdl : LetI (d.toNat : Int) := (kind_let op).1 d (List.mem_of_mem_drop hd)
  have z := without_apart (readA b ((List.getD (kindS op) k 0).toNat : Int) (List.getD ws (1 + k) [])).1 b hdl hl (apart_symm (hp.1 d hd)) (hZ d (List.mem_cons_of_mem _ hd))
  rwa [hs] at z
def XTo (op : Int) (k : Nat) (b : AskV) (x : SC) : Prop := NsX x b.ns ∧ (x = SC.nilsl ∨ ∀ d ∈ List.drop k (kindS op), ¬ (d.toNat : Int) = 108)
theorem xto_0 (op : Int) : XTo op 0 { askd with op := op } SC.nilsl := ⟨.inl ⟨rfl, rfl⟩, .inl rfl⟩
theorem xto_at {op : Int} {k : Nat} {b : AskV} {x : SC} (h : k < (kindS op).length) (hX : XTo op k b x) : ((List.getD (kindS op) k 0).toNat : Int) = 108 → x = SC.nilsl := by
  intro e
  rcases hX.2 with q | q
  · exact q
  · exact absurd e (q _ (by rw [Lib.drop_cons 0 (kindS op) k h]; exact List.mem_cons_self ..))
theorem xto_next {op : Int} {k : Nat} {b : AskV} {x : SC} {s : Bytes} (h : k < (kindS op).length) (hX : XTo op k b x) :
    XTo op (k + 1) (readA b ((List.getD (kindS op) k 0).toNat : Int) s).1 (nsX x ((List.getD (kindS op) k 0).toNat : Int) s) := by
  have hl : LetI ((List.getD (kindS op) k 0).toNat : Int) := (kind_let op).1 _ (Lib.getD_mem 0 _ k h)
  refine ⟨nsx_read hl hX.1 (xto_at h hX), ?_⟩
  by_cases e : ((List.getD (kindS op) k 0).toNat : Int) = 108
  · right
    have hp : (List.drop k (kindS op)).Pairwise fun b d => Apart (b.toNat : Int) (d.toNat : Int) := (kind_let op).2.sublist (List.drop_sublist k _)
    rw [Lib.drop_cons 0 (kindS op) k h, List.pairwise_cons] at hp
    intro d hd q
    exact (hp.1 d hd).1 (e.trans q.symm)
  · rw [nsx_o e]
    rcases hX.2 with q | q
    · exact .inl q
    · right
      intro d hd
      exact q d (by rw [Lib.drop_cons 0 (kindS op) k h]; exact List.mem_cons_of_mem _ hd)
theorem parsr_e {s : Bytes} {op : Int} {k : Nat} {b : AskV} (hop : op = opS (List.getD (splitC 32 s) 0 [])) (h : ¬ (400 : Int) < (List.length s : Int)) (h0 : ¬ op = 0) (hn : (List.length (splitC 32 s) : Int) = 1 + (List.length (kindS op) : Int)) (hk : k < (kindS op).length)
    (hN : ReadTo op (splitC 32 s) k b) (he : ¬ (readA b ((List.getD (kindS op) k 0).toNat : Int) (List.getD (splitC 32 s) (k + 1) [])).2 = 0) : parseA s = (askd, (readA b ((List.getD (kindS op) k 0).toNat : Int) (List.getD (splitC 32 s) (k + 1) [])).2) := by
  rw [Nat.add_comm k 1] at he ⊢
  exact parse_e hop h h0 hn hk hN.1 he
theorem parsr_0 {s : Bytes} {op : Int} {k : Nat} {b : AskV} (hop : op = opS (List.getD (splitC 32 s) 0 [])) (h : ¬ (400 : Int) < (List.length s : Int)) (h0 : ¬ op = 0) (hn : (List.length (splitC 32 s) : Int) = 1 + (List.length (kindS op) : Int)) (hk : (kindS op).length ≤ k)
    (hN : ReadTo op (splitC 32 s) k b) : parseA s = (b, 0) := parse_0 hop h h0 hn hk hN.1
theorem ite_len {p : Prop} [Decidable p] {x y : AskV × Int} {n : Nat} (hx : x.1.rules.length ≤ n) (hy : y.1.rules.length ≤ n) : (if p then x else y).1.rules.length ≤ n := by
  split
  · exact hx
  · exact hy
theorem read_rules {a : AskV} {c : Int} {s : Bytes} {n : Nat} (h : a.rules.length ≤ n) (h2 : s.length + 1 ≤ n) : (readA a c s).1.rules.length ≤ n := by
  have hp : (parseP s).1.length ≤ n := Nat.le_trans (Policy.parse_len s) h2
  unfold readA
  exact ite_len h (ite_len h (ite_len h (ite_len h (ite_len h (ite_len (ite_len h h) (ite_len h (ite_len (ite_len h h) (ite_len (ite_len h h) (ite_len (ite_len h (ite_len h hp)) (ite_len h h))))))))))
theorem reads_rules {n : Nat} (h1 : 1 ≤ n) : ∀ (l : Bytes) (a : AskV) (ws : List Bytes), a.rules.length ≤ n → (∀ w ∈ ws, w.length + 1 ≤ n) → (readsA a l ws).1.rules.length ≤ n
  | [], a, ws, h, _ => h
  | c :: l, a, ws, h, hw => by
    have hg : (List.getD ws 0 []).length + 1 ≤ n := by
      cases ws with
      | nil => simpa using h1
      | cons w ws => exact hw w (List.mem_cons_self ..)
    by_cases h0 : (readA a (c.toNat : Int) (List.getD ws 0 [])).2 = 0
    · have e : readsA a (c :: l) ws = readsA (readA a (c.toNat : Int) (List.getD ws 0 [])).1 l (ws.drop 1) := if_pos h0
      rw [e]
      exact reads_rules h1 l _ _ (read_rules h hg) fun w hm => hw w (List.mem_of_mem_drop hm)
    · have e : readsA a (c :: l) ws = (askd, (readA a (c.toNat : Int) (List.getD ws 0 [])).2) := if_neg h0
      rw [e]; exact Nat.zero_le _
theorem parse_rules (s : Bytes) : (parseA s).1.rules.length ≤ 100000 := by
  unfold parseA
  by_cases h : 400 < s.length
  · rw [if_pos h]; exact Nat.zero_le _
  · rw [if_neg h]
    split
    · exact Nat.zero_le _
    · split
      · exact Nat.zero_le _
      · refine reads_rules (by omega) _ _ _ (Nat.zero_le _) fun w hw => ?_
        have := Sep.mem_len (List.mem_of_mem_drop hw)
        omega
end AL.Ask
namespace AL.Ask
open Go Go.Proofs AL
set_option linter.unusedVariables false
set_option linter.unusedSimpArgs false
theorem f38_body : Tryz.f38.body = some (.seq (.region 0 (rg Tryz.f38 0) false) (.seq (.seq (.region 1 (rg Tryz.f38 1) false) (.cond (.tmp 17) (.region 2 (rg Tryz.f38 2) false) (.skip))) (.seq (.seq (.region 3 (rg Tryz.f38 3) false) (.cond (.tmp 21) (.region 4 (rg Tryz.f38 4) false) (.skip))) (.seq (.seq (.region 5 (rg Tryz.f38 5) false) (.cond (.tmp 29) (.region 6 (rg Tryz.f38 6) false) (.skip))) (.seq (.seq (.region 7 (rg Tryz.f38 7) false) (.cond (.tmp 33) (.region 8 (rg Tryz.f38 8) false) (.skip))) (.seq (.seq (.region 9 (rg Tryz.f38 9) false) (.cond (.tmp 38) (.seq (.region 10 (rg Tryz.f38 10) false) (.seq (.region 11 (rg Tryz.f38 11) true) (.ret))) (.skip))) (.seq (.seq (.region 12 (rg Tryz.f38 12) false) (.cond (.tmp 55) (.seq (.region 13 (rg Tryz.f38 13) false) (.seq (.region 14 (rg Tryz.f38 14) true) (.ret))) (.skip))) (.seq (.seq (.region 15 (rg Tryz.f38 15) false) (.cond (.tmp 65) (.region 16 (rg Tryz.f38 16) false) (.skip))) (.seq (.seq (.region 17 (rg Tryz.f38 17) false) (.cond (.tmp 72) (.seq (.region 18 (rg Tryz.f38 18) false) (.seq (.region 19 (rg Tryz.f38 19) false) (.block 0 (.loop (.seq (.seq (.region 20 (rg Tryz.f38 20) false) (.cond (.tmp 78) (.skip) (.exit 0))) (.seq (.block 1 (.region 22 (rg Tryz.f38 22) true)) (.region 21 (rg Tryz.f38 21) false))))))) (.skip))) (.seq (.seq (.region 23 (rg Tryz.f38 23) false) (.cond (.tmp 96) (.seq (.region 24 (rg Tryz.f38 24) false) (.seq (.region 25 (rg Tryz.f38 25) false) (.seq (.region 26 (rg Tryz.f38 26) true) (.ret)))) (.skip))) (.seq (.seq (.region 27 (rg Tryz.f38 27) false) (.cond (.tmp 112) (.seq (.region 28 (rg Tryz.f38 28) false) (.seq (.region 29 (rg Tryz.f38 29) false) (.seq (.region 30 (rg Tryz.f38 30) true) (.ret)))) (.skip))) (.seq (.seq (.region 31 (rg Tryz.f38 31) false) (.cond (.tmp 133) (.seq (.region 32 (rg Tryz.f38 32) false) (.seq (.region 33 (rg Tryz.f38 33) false) (.seq (.seq (.region 34 (rg Tryz.f38 34) false) (.cond (.tmp 142) (.seq (.region 35 (rg Tryz.f38 35) false) (.ret)) (.skip))) (.seq (.region 36 (rg Tryz.f38 36) false) (.ret))))) (.skip))) (.seq (.region 37 (rg Tryz.f38 37) true) (.ret)))))))))))))) := by kernel_rfl
set_option maxRecDepth 100000 in
set_option maxHeartbeats 8000000 in
theorem RwithN_c (a : AskV) (c : Int) (s : Bytes) (hc : LetI c) (hn : a.ns = []) (h114 : c = 114 → a.rules = []) (hb : s.length ≤ 100000) : Pure Tryz.prog 38 [TV.agg [.s (u8 a.op), .s (st a.token), .s (st a.path), .s (st a.other), .s (i6 a.n), .s (i6 a.cas), .s (bo a.flag), .s (SC.nilsl), .s (st a.data), .s (Policy.slP a.rules), .s (st a.key)], tc (u8 c), tc (st s)] (AV.tup [TV.agg [.s (u8 (((readA a c s).1).op)), .s (st (((readA a c s).1).token)), .s (st (((readA a c s).1).path)), .s (st (((readA a c s).1).other)), .s (i6 (((readA a c s).1).n)), .s (i6 (((readA a c s).1).cas)), .s (bo (((readA a c s).1).flag)), .s (nsX SC.nilsl c s), .s (st (((readA a c s).1).data)), .s (Policy.slP (((readA a c s).1).rules)), .s (st (((readA a c s).1).key))], tc (i6 ((readA a c s).2))]) := by
 refine Pure.of_body Tryz.func38 f38_body (by kernel_rfl) Tryz.ntmps38 (by kernel_rfl) (by kernel_rfl) ?_
 unfold LetI at hc
 refine gS [] [] 150 [(1, vc (u8 c)), (2, vc (st s)), (3, vp 3 0), (6, vp 6 0)] [(3, AObj.row [.s (u8 a.op), .s (st a.token), .s (st a.path), .s (st a.other), .s (i6 a.n), .s (i6 a.cas), .s (bo a.flag), .s (SC.nilsl), .s (st a.data), .s (Policy.slP a.rules), .s (st a.key)]), (6, AObj.row [.s (u8 0), .s (st []), .s (st []), .s (st []), .s (i6 0), .s (i6 0), .s (bo false), .s (SC.nilsl), .s (st []), .s (SC.nilsl), .s (st [])])] trivial ?_
 refine gQ ?_
 refine gS [] [] 150 [(1, vc (u8 c)), (2, vc (st s)), (3, vp 3 0), (6, vp 6 0), (17, vc (bo (decide (c = 116))))] [(3, AObj.row [.s (u8 a.op), .s (st a.token), .s (st a.path), .s (st a.other), .s (i6 a.n), .s (i6 a.cas), .s (bo a.flag), .s (SC.nilsl), .s (st a.data), .s (Policy.slP a.rules), .s (st a.key)]), (6, AObj.row [.s (u8 0), .s (st []), .s (st []), .s (st []), .s (i6 0), .s (i6 0), .s (bo false), .s (SC.nilsl), .s (st []), .s (SC.nilsl), .s (st [])])] trivial ?_
 refine gJ 150 [(1, vc (u8 c)), (2, vc (st s)), (3, vp 3 0), (6, vp 6 0)] [(3, AObj.row [.s (u8 a.op), .s (st (if c = 116 then s else a.token)), .s (st a.path), .s (st a.other), .s (i6 a.n), .s (i6 a.cas), .s (bo a.flag), .s (SC.nilsl), .s (st a.data), .s (Policy.slP a.rules), .s (st a.key)]), (6, AObj.row [.s (u8 0), .s (st []), .s (st []), .s (st []), .s (i6 0), .s (i6 0), .s (bo false), .s (SC.nilsl), .s (st []), .s (SC.nilsl), .s (st [])])] ?_ ?_
 ·
  refine gC (c = 116) (fun hc1 => ?_) fun hc1 => ?_
  ·
   refine gR [] [] 150 [(1, vc (u8 c)), (2, vc (st s)), (3, vp 3 0), (6, vp 6 0)] [(3, AObj.row [.s (u8 a.op), .s (st s), .s (st a.path), .s (st a.other), .s (i6 a.n), .s (i6 a.cas), .s (bo a.flag), .s (SC.nilsl), .s (st a.data), .s (Policy.slP a.rules), .s (st a.key)]), (6, AObj.row [.s (u8 0), .s (st []), .s (st []), .s (st []), .s (i6 0), .s (i6 0), .s (bo false), .s (SC.nilsl), .s (st []), .s (SC.nilsl), .s (st [])])] trivial ?_
   refine gE ?_
   refine AS.ent_trans (s1 := AS.lst 150 [(1, vc (u8 c)), (2, vc (st s)), (3, vp 3 0), (6, vp 6 0)] [(3, AObj.row [.s (u8 a.op), .s (st s), .s (st a.path), .s (st a.other), .s (i6 a.n), .s (i6 a.cas), .s (bo a.flag), .s (SC.nilsl), .s (st a.data), .s (Policy.slP a.rules), .s (st a.key)]), (6, AObj.row [.s (u8 0), .s (st []), .s (st []), .s (st []), .s (i6 0), .s (i6 0), .s (bo false), .s (SC.nilsl), .s (st []), .s (SC.nilsl), .s (st [])])]) (ent_proj [1, 2, 3, 6] [3, 6]) ?_
   rw [if_pos hc1]
   exact AS.ent_refl _
  ·
   refine AMx.skip ?_
   refine gE ?_
   refine AS.ent_trans (s1 := AS.lst 150 [(1, vc (u8 c)), (2, vc (st s)), (3, vp 3 0), (6, vp 6 0)] [(3, AObj.row [.s (u8 a.op), .s (st a.token), .s (st a.path), .s (st a.other), .s (i6 a.n), .s (i6 a.cas), .s (bo a.flag), .s (SC.nilsl), .s (st a.data), .s (Policy.slP a.rules), .s (st a.key)]), (6, AObj.row [.s (u8 0), .s (st []), .s (st []), .s (st []), .s (i6 0), .s (i6 0), .s (bo false), .s (SC.nilsl), .s (st []), .s (SC.nilsl), .s (st [])])]) (ent_proj [1, 2, 3, 6] [3, 6]) ?_
   rw [if_neg hc1]
   exact AS.ent_refl _
 ·
  refine gQ ?_
  refine gS [] [] 150 [(1, vc (u8 c)), (2, vc (st s)), (3, vp 3 0), (6, vp 6 0), (21, vc (bo (decide (c = 112))))] [(3, AObj.row [.s (u8 a.op), .s (st (if c = 116 then s else a.token)), .s (st a.path), .s (st a.other), .s (i6 a.n), .s (i6 a.cas), .s (bo a.flag), .s (SC.nilsl), .s (st a.data), .s (Policy.slP a.rules), .s (st a.key)]), (6, AObj.row [.s (u8 0), .s (st []), .s (st []), .s (st []), .s (i6 0), .s (i6 0), .s (bo false), .s (SC.nilsl), .s (st []), .s (SC.nilsl), .s (st [])])] trivial ?_
  refine gJ 150 [(1, vc (u8 c)), (2, vc (st s)), (3, vp 3 0), (6, vp 6 0)] [(3, AObj.row [.s (u8 a.op), .s (st (if c = 116 then s else a.token)), .s (st (if c = 112 then s else a.path)), .s (st a.other), .s (i6 a.n), .s (i6 a.cas), .s (bo a.flag), .s (SC.nilsl), .s (st a.data), .s (Policy.slP a.rules), .s (st a.key)]), (6, AObj.row [.s (u8 0), .s (st []), .s (st []), .s (st []), .s (i6 0), .s (i6 0), .s (bo false), .s (SC.nilsl), .s (st []), .s (SC.nilsl), .s (st [])])] ?_ ?_
  ·
   refine gC (c = 112) (fun hc2 => ?_) fun hc2 => ?_
   ·
    refine gR [] [] 150 [(1, vc (u8 c)), (2, vc (st s)), (3, vp 3 0), (6, vp 6 0)] [(3, AObj.row [.s (u8 a.op), .s (st (if c = 116 then s else a.token)), .s (st s), .s (st a.other), .s (i6 a.n), .s (i6 a.cas), .s (bo a.flag), .s (SC.nilsl), .s (st a.data), .s (Policy.slP a.rules), .s (st a.key)]), (6, AObj.row [.s (u8 0), .s (st []), .s (st []), .s (st []), .s (i6 0), .s (i6 0), .s (bo false), .s (SC.nilsl), .s (st []), .s (SC.nilsl), .s (st [])])] trivial ?_
    refine gE ?_
    refine AS.ent_trans (s1 := AS.lst 150 [(1, vc (u8 c)), (2, vc (st s)), (3, vp 3 0), (6, vp 6 0)] [(3, AObj.row [.s (u8 a.op), .s (st (if c = 116 then s else a.token)), .s (st s), .s (st a.other), .s (i6 a.n), .s (i6 a.cas), .s (bo a.flag), .s (SC.nilsl), .s (st a.data), .s (Policy.slP a.rules), .s (st a.key)]), (6, AObj.row [.s (u8 0), .s (st []), .s (st []), .s (st []), .s (i6 0), .s (i6 0), .s (bo false), .s (SC.nilsl), .s (st []), .s (SC.nilsl), .s (st [])])]) (ent_proj [1, 2, 3, 6] [3, 6]) ?_
    rw [if_pos hc2]
    exact AS.ent_refl _
   ·
    refine AMx.skip ?_
    refine gE ?_
    refine AS.ent_trans (s1 := AS.lst 150 [(1, vc (u8 c)), (2, vc (st s)), (3, vp 3 0), (6, vp 6 0)] [(3, AObj.row [.s (u8 a.op), .s (st (if c = 116 then s else a.token)), .s (st a.path), .s (st a.other), .s (i6 a.n), .s (i6 a.cas), .s (bo a.flag), .s (SC.nilsl), .s (st a.data), .s (Policy.slP a.rules), .s (st a.key)]), (6, AObj.row [.s (u8 0), .s (st []), .s (st []), .s (st []), .s (i6 0), .s (i6 0), .s (bo false), .s (SC.nilsl), .s (st []), .s (SC.nilsl), .s (st [])])]) (ent_proj [1, 2, 3, 6] [3, 6]) ?_
    rw [if_neg hc2]
    exact AS.ent_refl _
  ·
   refine gQ ?_
   refine gS [] [((decide (c = 109)) = false) → allP [], ((decide (c = 109)) = false) → allP [(decide (c = 109)) = false], (decide (c = 109)) = false → allP [(decide (c = 109)) = false]] 150 [(1, vc (u8 c)), (2, vc (st s)), (3, vp 3 0), (6, vp 6 0), (29, vc (bo ((decide (c = 109)) || (decide (c = 113)))))] [(3, AObj.row [.s (u8 a.op), .s (st (if c = 116 then s else a.token)), .s (st (if c = 112 then s else a.path)), .s (st a.other), .s (i6 a.n), .s (i6 a.cas), .s (bo a.flag), .s (SC.nilsl), .s (st a.data), .s (Policy.slP a.rules), .s (st a.key)]), (6, AObj.row [.s (u8 0), .s (st []), .s (st []), .s (st []), .s (i6 0), .s (i6 0), .s (bo false), .s (SC.nilsl), .s (st []), .s (SC.nilsl), .s (st [])])] ⟨(fun _ => trivial), (fun hp => hp), (fun hp2 => (by first | exact hp2 | exact ⟨hp, hp2⟩))⟩ ?_
   refine gJ 150 [(1, vc (u8 c)), (2, vc (st s)), (3, vp 3 0), (6, vp 6 0)] [(3, AObj.row [.s (u8 a.op), .s (st (if c = 116 then s else a.token)), .s (st (if c = 112 then s else a.path)), .s (st (if c = 109 ∨ c = 113 then s else a.other)), .s (i6 a.n), .s (i6 a.cas), .s (bo a.flag), .s (SC.nilsl), .s (st a.data), .s (Policy.slP a.rules), .s (st a.key)]), (6, AObj.row [.s (u8 0), .s (st []), .s (st []), .s (st []), .s (i6 0), .s (i6 0), .s (bo false), .s (SC.nilsl), .s (st []), .s (SC.nilsl), .s (st [])])] ?_ ?_
   ·
    refine gB (((decide (c = 109)) || (decide (c = 113)))) (fun hc3 => ?_) fun hc3 => ?_
    ·
     try simp only [xT, xF, xO, xP] at hc3
     refine gR [] [] 150 [(1, vc (u8 c)), (2, vc (st s)), (3, vp 3 0), (6, vp 6 0)] [(3, AObj.row [.s (u8 a.op), .s (st (if c = 116 then s else a.token)), .s (st (if c = 112 then s else a.path)), .s (st s), .s (i6 a.n), .s (i6 a.cas), .s (bo a.flag), .s (SC.nilsl), .s (st a.data), .s (Policy.slP a.rules), .s (st a.key)]), (6, AObj.row [.s (u8 0), .s (st []), .s (st []), .s (st []), .s (i6 0), .s (i6 0), .s (bo false), .s (SC.nilsl), .s (st []), .s (SC.nilsl), .s (st [])])] trivial ?_
     refine gE ?_
     refine AS.ent_trans (s1 := AS.lst 150 [(1, vc (u8 c)), (2, vc (st s)), (3, vp 3 0), (6, vp 6 0)] [(3, AObj.row [.s (u8 a.op), .s (st (if c = 116 then s else a.token)), .s (st (if c = 112 then s else a.path)), .s (st s), .s (i6 a.n), .s (i6 a.cas), .s (bo a.flag), .s (SC.nilsl), .s (st a.data), .s (Policy.slP a.rules), .s (st a.key)]), (6, AObj.row [.s (u8 0), .s (st []), .s (st []), .s (st []), .s (i6 0), .s (i6 0), .s (bo false), .s (SC.nilsl), .s (st []), .s (SC.nilsl), .s (st [])])]) (ent_proj [1, 2, 3, 6] [3, 6]) ?_
     rw [if_pos hc3]
     exact AS.ent_refl _
    ·
     try simp only [xT, xF, xO, xP] at hc3
     refine AMx.skip ?_
     refine gE ?_
     refine AS.ent_trans (s1 := AS.lst 150 [(1, vc (u8 c)), (2, vc (st s)), (3, vp 3 0), (6, vp 6 0)] [(3, AObj.row [.s (u8 a.op), .s (st (if c = 116 then s else a.token)), .s (st (if c = 112 then s else a.path)), .s (st a.other), .s (i6 a.n), .s (i6 a.cas), .s (bo a.flag), .s (SC.nilsl), .s (st a.data), .s (Policy.slP a.rules), .s (st a.key)]), (6, AObj.row [.s (u8 0), .s (st []), .s (st []), .s (st []), .s (i6 0), .s (i6 0), .s (bo false), .s (SC.nilsl), .s (st []), .s (SC.nilsl), .s (st [])])]) (ent_proj [1, 2, 3, 6] [3, 6]) ?_
     rw [if_neg (show ¬ (c = 109 ∨ c = 113) from by omega)]
     exact AS.ent_refl _
   ·
    refine gQ ?_
    refine gS [] [] 150 [(1, vc (u8 c)), (2, vc (st s)), (3, vp 3 0), (6, vp 6 0), (33, vc (bo (decide (c = 110))))] [(3, AObj.row [.s (u8 a.op), .s (st (if c = 116 then s else a.token)), .s (st (if c = 112 then s else a.path)), .s (st (if c = 109 ∨ c = 113 then s else a.other)), .s (i6 a.n), .s (i6 a.cas), .s (bo a.flag), .s (SC.nilsl), .s (st a.data), .s (Policy.slP a.rules), .s (st a.key)]), (6, AObj.row [.s (u8 0), .s (st []), .s (st []), .s (st []), .s (i6 0), .s (i6 0), .s (bo false), .s (SC.nilsl), .s (st []), .s (SC.nilsl), .s (st [])])] trivial ?_
    refine gJ 150 [(1, vc (u8 c)), (2, vc (st s)), (3, vp 3 0), (6, vp 6 0)] [(3, AObj.row [.s (u8 a.op), .s (st (if c = 116 then s else a.token)), .s (st (if c = 112 then s else a.path)), .s (st (if c = 109 ∨ c = 113 then s else a.other)), .s (i6 (if c = 110 then scanN s else a.n)), .s (i6 a.cas), .s (bo a.flag), .s (SC.nilsl), .s (st a.data), .s (Policy.slP a.rules), .s (st a.key)]), (6, AObj.row [.s (u8 0), .s (st []), .s (st []), .s (st []), .s (i6 0), .s (i6 0), .s (bo false), .s (SC.nilsl), .s (st []), .s (SC.nilsl), .s (st [])])] ?_ ?_
    ·
     refine gC (c = 110) (fun hc4 => ?_) fun hc4 => ?_
     ·
      refine gR [(1, CE.call [] [] (vc (i6 (scanN s))) [])] [Spec Tryz.prog 61 [tc (st s)] (ofH []) (vc (i6 (scanN s))) (ofH [])] 150 [(1, vc (u8 c)), (2, vc (st s)), (3, vp 3 0), (6, vp 6 0)] [(3, AObj.row [.s (u8 a.op), .s (st (if c = 116 then s else a.token)), .s (st (if c = 112 then s else a.path)), .s (st (if c = 109 ∨ c = 113 then s else a.other)), .s (i6 (scanN s)), .s (i6 a.cas), .s (bo a.flag), .s (SC.nilsl), .s (st a.data), .s (Policy.slP a.rules), .s (st a.key)]), (6, AObj.row [.s (u8 0), .s (st []), .s (st []), .s (st []), .s (i6 0), .s (i6 0), .s (bo false), .s (SC.nilsl), .s (st []), .s (SC.nilsl), .s (st [])])] (Rscan_c s) ?_
      refine gE ?_
      refine AS.ent_trans (s1 := AS.lst 150 [(1, vc (u8 c)), (2, vc (st s)), (3, vp 3 0), (6, vp 6 0)] [(3, AObj.row [.s (u8 a.op), .s (st (if c = 116 then s else a.token)), .s (st (if c = 112 then s else a.path)), .s (st (if c = 109 ∨ c = 113 then s else a.other)), .s (i6 (scanN s)), .s (i6 a.cas), .s (bo a.flag), .s (SC.nilsl), .s (st a.data), .s (Policy.slP a.rules), .s (st a.key)]), (6, AObj.row [.s (u8 0), .s (st []), .s (st []), .s (st []), .s (i6 0), .s (i6 0), .s (bo false), .s (SC.nilsl), .s (st []), .s (SC.nilsl), .s (st [])])]) (ent_proj [1, 2, 3, 6] [3, 6]) ?_
      rw [if_pos hc4]
      exact AS.ent_refl _
     ·
      refine AMx.skip ?_
      refine gE ?_
      refine AS.ent_trans (s1 := AS.lst 150 [(1, vc (u8 c)), (2, vc (st s)), (3, vp 3 0), (6, vp 6 0)] [(3, AObj.row [.s (u8 a.op), .s (st (if c = 116 then s else a.token)), .s (st (if c = 112 then s else a.path)), .s (st (if c = 109 ∨ c = 113 then s else a.other)), .s (i6 a.n), .s (i6 a.cas), .s (bo a.flag), .s (SC.nilsl), .s (st a.data), .s (Policy.slP a.rules), .s (st a.key)]), (6, AObj.row [.s (u8 0), .s (st []), .s (st []), .s (st []), .s (i6 0), .s (i6 0), .s (bo false), .s (SC.nilsl), .s (st []), .s (SC.nilsl), .s (st [])])]) (ent_proj [1, 2, 3, 6] [3, 6]) ?_
      rw [if_neg hc4]
      exact AS.ent_refl _
    ·
     refine gQ ?_
     refine gS [] [] 150 [(1, vc (u8 c)), (2, vc (st s)), (3, vp 3 0), (6, vp 6 0), (38, vc (bo (decide (c = 102))))] [(3, AObj.row [.s (u8 a.op), .s (st (if c = 116 then s else a.token)), .s (st (if c = 112 then s else a.path)), .s (st (if c = 109 ∨ c = 113 then s else a.other)), .s (i6 (if c = 110 then scanN s else a.n)), .s (i6 a.cas), .s (bo a.flag), .s (SC.nilsl), .s (st a.data), .s (Policy.slP a.rules), .s (st a.key)]), (6, AObj.row [.s (u8 0), .s (st []), .s (st []), .s (st []), .s (i6 0), .s (i6 0), .s (bo false), .s (SC.nilsl), .s (st []), .s (SC.nilsl), .s (st [])])] trivial ?_
     refine gC (c = 102) (fun hc5 => ?_) fun hc5 => ?_
     ·
      refine gS [] [] 150 [(2, vc (st s)), (3, vp 3 0), (6, vp 6 0)] [(3, AObj.row [.s (u8 a.op), .s (st (if c = 116 then s else a.token)), .s (st (if c = 112 then s else a.path)), .s (st (if c = 109 ∨ c = 113 then s else a.other)), .s (i6 (if c = 110 then scanN s else a.n)), .s (i6 a.cas), .s (bo (decide (s = [49]))), .s (SC.nilsl), .s (st a.data), .s (Policy.slP a.rules), .s (st a.key)]), (6, AObj.row [.s (u8 0), .s (st []), .s (st []), .s (st []), .s (i6 0), .s (i6 0), .s (bo false), .s (SC.nilsl), .s (st []), .s (SC.nilsl), .s (st [])])] trivial ?_
      refine gY [(7, CE.call [] [] (vc (i6 (fineS ((decide (s = [48])) || (decide (s = [49])))))) [])] [(0, [3]), (8, [6])] [((decide (s = [48])) = false) → allP [], ((decide (s = [48])) = false) → allP [(decide (s = [48])) = false], (decide (s = [48])) = false → allP [(decide (s = [48])) = false], Spec Tryz.prog 49 [tc (bo ((decide (s = [48])) || (decide (s = [49]))))] (ofH []) (vc (i6 (fineS ((decide (s = [48])) || (decide (s = [49])))))) (ofH [])] 150 [(6, vp 6 0), (7, vc (i6 (fineS ((decide (s = [48])) || (decide (s = [49]))))))] [(6, AObj.row [.s (u8 a.op), .s (st (if c = 116 then s else a.token)), .s (st (if c = 112 then s else a.path)), .s (st (if c = 109 ∨ c = 113 then s else a.other)), .s (i6 (if c = 110 then scanN s else a.n)), .s (i6 a.cas), .s (bo (decide (s = [49]))), .s (SC.nilsl), .s (st a.data), .s (Policy.slP a.rules), .s (st a.key)])] mixed ⟨(fun _ => trivial), (fun hp => hp), (fun hp2 => (by first | exact hp2 | exact ⟨hp, hp2⟩)), (Rfine_c ((decide (s = [48])) || (decide (s = [49]))))⟩ ?_
      exact gT (AV.tup [TV.agg [.s (u8 a.op), .s (st (if c = 116 then s else a.token)), .s (st (if c = 112 then s else a.path)), .s (st (if c = 109 ∨ c = 113 then s else a.other)), .s (i6 (if c = 110 then scanN s else a.n)), .s (i6 a.cas), .s (bo (decide (s = [49]))), .s (SC.nilsl), .s (st a.data), .s (Policy.slP a.rules), .s (st a.key)], tc (i6 (fineS ((decide (s = [48])) || (decide (s = [49])))))]) (by rcases hc with rfl | rfl | rfl | rfl | rfl | rfl | rfl | rfl | rfl | rfl | rfl <;> first | (exfalso; omega) | rfl | (rw [with_f] <;> rfl) | (rw [read_k] <;> rfl) | (by_cases hz : s = [45] <;> (by_cases hy : s = [] <;> first | (exfalso; simp_all; done) | (subst hz; rfl) | (subst hz; rw [with_r2 (h114 rfl)] <;> rfl) | (subst hy; rw [with_r0 (h114 rfl)] <;> rfl) | (subst hy; rfl) | (rw [with_c hz] <;> rfl) | (rw [read_d hz] <;> rfl) | (rw [read_r hz hy] <;> rfl) | (rw [with_l hz, nsx_l hz, nsl_y hz] <;> rfl))))
     ·
      refine AMx.skip ?_
      refine gQ ?_
      refine gS [] [((decide (c = 99)) = true) → allP [], ((decide (c = 99)) = true) → allP [(decide (c = 99)) = true], (decide (c = 99)) = true → allP [(decide (c = 99)) = true]] 150 [(1, vc (u8 c)), (2, vc (st s)), (3, vp 3 0), (6, vp 6 0), (55, vc (bo ((decide (c = 99)) && (!decide (s = [45])))))] [(3, AObj.row [.s (u8 a.op), .s (st (if c = 116 then s else a.token)), .s (st (if c = 112 then s else a.path)), .s (st (if c = 109 ∨ c = 113 then s else a.other)), .s (i6 (if c = 110 then scanN s else a.n)), .s (i6 a.cas), .s (bo a.flag), .s (SC.nilsl), .s (st a.data), .s (Policy.slP a.rules), .s (st a.key)]), (6, AObj.row [.s (u8 0), .s (st []), .s (st []), .s (st []), .s (i6 0), .s (i6 0), .s (bo false), .s (SC.nilsl), .s (st []), .s (SC.nilsl), .s (st [])])] ⟨(fun _ => trivial), (fun hp => hp), (fun hp2 => (by first | exact hp2 | exact ⟨hp, hp2⟩))⟩ ?_
      refine gB (((decide (c = 99)) && (!decide (s = [45])))) (fun hc6 => ?_) fun hc6 => ?_
      ·
       try simp only [xT, xF, xA, xB, xN, xM] at hc6
       refine gS [(1, CE.call [] [] (vc (i6 (scanN s))) [])] [Spec Tryz.prog 61 [tc (st s)] (ofH []) (vc (i6 (scanN s))) (ofH [])] 150 [(3, vp 3 0), (6, vp 6 0)] [(3, AObj.row [.s (u8 a.op), .s (st (if c = 116 then s else a.token)), .s (st (if c = 112 then s else a.path)), .s (st (if c = 109 ∨ c = 113 then s else a.other)), .s (i6 (if c = 110 then scanN s else a.n)), .s (i6 (scanN s)), .s (bo a.flag), .s (SC.nilsl), .s (st a.data), .s (Policy.slP a.rules), .s (st a.key)]), (6, AObj.row [.s (u8 0), .s (st []), .s (st []), .s (st []), .s (i6 0), .s (i6 0), .s (bo false), .s (SC.nilsl), .s (st []), .s (SC.nilsl), .s (st [])])] (Rscan_c s) ?_
       refine gY [(4, CE.call [] [] (vc (i6 (fineS (decide (0 ≤ scanN s))))) [])] [(0, [3]), (2, [3]), (5, [6])] [Spec Tryz.prog 49 [tc (bo (decide (0 ≤ scanN s)))] (ofH []) (vc (i6 (fineS (decide (0 ≤ scanN s))))) (ofH [])] 150 [(6, vp 6 0), (7, vc (i6 (fineS (decide (0 ≤ scanN s)))))] [(6, AObj.row [.s (u8 a.op), .s (st (if c = 116 then s else a.token)), .s (st (if c = 112 then s else a.path)), .s (st (if c = 109 ∨ c = 113 then s else a.other)), .s (i6 (if c = 110 then scanN s else a.n)), .s (i6 (scanN s)), .s (bo a.flag), .s (SC.nilsl), .s (st a.data), .s (Policy.slP a.rules), .s (st a.key)])] mixed (Rfine_c (decide (0 ≤ scanN s))) ?_
       exact gT (AV.tup [TV.agg [.s (u8 a.op), .s (st (if c = 116 then s else a.token)), .s (st (if c = 112 then s else a.path)), .s (st (if c = 109 ∨ c = 113 then s else a.other)), .s (i6 (if c = 110 then scanN s else a.n)), .s (i6 (scanN s)), .s (bo a.flag), .s (SC.nilsl), .s (st a.data), .s (Policy.slP a.rules), .s (st a.key)], tc (i6 (fineS (decide (0 ≤ scanN s))))]) (by rcases hc with rfl | rfl | rfl | rfl | rfl | rfl | rfl | rfl | rfl | rfl | rfl <;> first | (exfalso; omega) | rfl | (rw [with_f] <;> rfl) | (rw [read_k] <;> rfl) | (by_cases hz : s = [45] <;> (by_cases hy : s = [] <;> first | (exfalso; simp_all; done) | (subst hz; rfl) | (subst hz; rw [with_r2 (h114 rfl)] <;> rfl) | (subst hy; rw [with_r0 (h114 rfl)] <;> rfl) | (subst hy; rfl) | (rw [with_c hz] <;> rfl) | (rw [read_d hz] <;> rfl) | (rw [read_r hz hy] <;> rfl) | (rw [with_l hz, nsx_l hz, nsl_y hz] <;> rfl))))
      ·
       try simp only [xT, xF, xA, xB, xN, xM] at hc6
       refine AMx.skip ?_
       refine gQ ?_
       refine gS [] [] 150 [(1, vc (u8 c)), (2, vc (st s)), (3, vp 3 0), (6, vp 6 0), (65, vc (bo (decide (c = 99))))] [(3, AObj.row [.s (u8 a.op), .s (st (if c = 116 then s else a.token)), .s (st (if c = 112 then s else a.path)), .s (st (if c = 109 ∨ c = 113 then s else a.other)), .s (i6 (if c = 110 then scanN s else a.n)), .s (i6 a.cas), .s (bo a.flag), .s (SC.nilsl), .s (st a.data), .s (Policy.slP a.rules), .s (st a.key)]), (6, AObj.row [.s (u8 0), .s (st []), .s (st []), .s (st []), .s (i6 0), .s (i6 0), .s (bo false), .s (SC.nilsl), .s (st []), .s (SC.nilsl), .s (st [])])] trivial ?_
       refine gJ 150 [(1, vc (u8 c)), (2, vc (st s)), (3, vp 3 0), (6, vp 6 0)] [(3, AObj.row [.s (u8 a.op), .s (st (if c = 116 then s else a.token)), .s (st (if c = 112 then s else a.path)), .s (st (if c = 109 ∨ c = 113 then s else a.other)), .s (i6 (if c = 110 then scanN s else a.n)), .s (i6 (if c = 99 then -1 else a.cas)), .s (bo a.flag), .s (SC.nilsl), .s (st a.data), .s (Policy.slP a.rules), .s (st a.key)]), (6, AObj.row [.s (u8 0), .s (st []), .s (st []), .s (st []), .s (i6 0), .s (i6 0), .s (bo false), .s (SC.nilsl), .s (st []), .s (SC.nilsl), .s (st [])])] ?_ ?_
       ·
        refine gC (c = 99) (fun hc7 => ?_) fun hc7 => ?_
        ·
         refine gR [] [] 150 [(1, vc (u8 c)), (2, vc (st s)), (3, vp 3 0), (6, vp 6 0)] [(3, AObj.row [.s (u8 a.op), .s (st (if c = 116 then s else a.token)), .s (st (if c = 112 then s else a.path)), .s (st (if c = 109 ∨ c = 113 then s else a.other)), .s (i6 (if c = 110 then scanN s else a.n)), .s (i6 (-1)), .s (bo a.flag), .s (SC.nilsl), .s (st a.data), .s (Policy.slP a.rules), .s (st a.key)]), (6, AObj.row [.s (u8 0), .s (st []), .s (st []), .s (st []), .s (i6 0), .s (i6 0), .s (bo false), .s (SC.nilsl), .s (st []), .s (SC.nilsl), .s (st [])])] trivial ?_
         refine gE ?_
         refine AS.ent_trans (s1 := AS.lst 150 [(1, vc (u8 c)), (2, vc (st s)), (3, vp 3 0), (6, vp 6 0)] [(3, AObj.row [.s (u8 a.op), .s (st (if c = 116 then s else a.token)), .s (st (if c = 112 then s else a.path)), .s (st (if c = 109 ∨ c = 113 then s else a.other)), .s (i6 (if c = 110 then scanN s else a.n)), .s (i6 (-1)), .s (bo a.flag), .s (SC.nilsl), .s (st a.data), .s (Policy.slP a.rules), .s (st a.key)]), (6, AObj.row [.s (u8 0), .s (st []), .s (st []), .s (st []), .s (i6 0), .s (i6 0), .s (bo false), .s (SC.nilsl), .s (st []), .s (SC.nilsl), .s (st [])])]) (ent_proj [1, 2, 3, 6] [3, 6]) ?_
         rw [if_pos hc7]
         exact AS.ent_refl _
        ·
         refine AMx.skip ?_
         refine gE ?_
         refine AS.ent_trans (s1 := AS.lst 150 [(1, vc (u8 c)), (2, vc (st s)), (3, vp 3 0), (6, vp 6 0)] [(3, AObj.row [.s (u8 a.op), .s (st (if c = 116 then s else a.token)), .s (st (if c = 112 then s else a.path)), .s (st (if c = 109 ∨ c = 113 then s else a.other)), .s (i6 (if c = 110 then scanN s else a.n)), .s (i6 a.cas), .s (bo a.flag), .s (SC.nilsl), .s (st a.data), .s (Policy.slP a.rules), .s (st a.key)]), (6, AObj.row [.s (u8 0), .s (st []), .s (st []), .s (st []), .s (i6 0), .s (i6 0), .s (bo false), .s (SC.nilsl), .s (st []), .s (SC.nilsl), .s (st [])])]) (ent_proj [1, 2, 3, 6] [3, 6]) ?_
         rw [if_neg hc7]
         exact AS.ent_refl _
       ·
        refine gQ ?_
        refine gS [] [((decide (c = 108)) = true) → allP [], ((decide (c = 108)) = true) → allP [(decide (c = 108)) = true], (decide (c = 108)) = true → allP [(decide (c = 108)) = true]] 150 [(1, vc (u8 c)), (2, vc (st s)), (3, vp 3 0), (6, vp 6 0), (72, vc (bo ((decide (c = 108)) && (!decide (s = [45])))))] [(3, AObj.row [.s (u8 a.op), .s (st (if c = 116 then s else a.token)), .s (st (if c = 112 then s else a.path)), .s (st (if c = 109 ∨ c = 113 then s else a.other)), .s (i6 (if c = 110 then scanN s else a.n)), .s (i6 (if c = 99 then -1 else a.cas)), .s (bo a.flag), .s (SC.nilsl), .s (st a.data), .s (Policy.slP a.rules), .s (st a.key)]), (6, AObj.row [.s (u8 0), .s (st []), .s (st []), .s (st []), .s (i6 0), .s (i6 0), .s (bo false), .s (SC.nilsl), .s (st []), .s (SC.nilsl), .s (st [])])] ⟨(fun _ => trivial), (fun hp => hp), (fun hp2 => (by first | exact hp2 | exact ⟨hp, hp2⟩))⟩ ?_
        refine gJ 150 [(1, vc (u8 c)), (2, vc (st s)), (3, vp 3 0), (6, vp 6 0)] [(3, AObj.row [.s (u8 a.op), .s (st (if c = 116 then s else a.token)), .s (st (if c = 112 then s else a.path)), .s (st (if c = 109 ∨ c = 113 then s else a.other)), .s (i6 (if c = 110 then scanN s else a.n)), .s (i6 (if c = 99 then -1 else a.cas)), .s (bo a.flag), .s (nsX SC.nilsl c s), .s (st a.data), .s (Policy.slP a.rules), .s (st a.key)]), (6, AObj.row [.s (u8 0), .s (st []), .s (st []), .s (st []), .s (i6 0), .s (i6 0), .s (bo false), .s (SC.nilsl), .s (st []), .s (SC.nilsl), .s (st [])])] ?_ ?_
        ·
         refine gB (((decide (c = 108)) && (!decide (s = [45])))) (fun hc8 => ?_) fun hc8 => ?_
         ·
          try simp only [xT, xF, xA, xB, xN, xM] at hc8
          refine gS [(1, CE.call [] [] (vc (AL.Fnv.slS (AL.Sep.splitC 44 s))) [])] [Spec Tryz.prog 36 [tc (st s), tc (u8 44)] (ofH []) (vc (AL.Fnv.slS (AL.Sep.splitC 44 s))) (ofH [])] 150 [(1, vc (u8 c)), (2, vc (st s)), (3, vp 3 0), (6, vp 6 0), (8, vc (AL.Fnv.slS (AL.Sep.splitC 44 s)))] [(3, AObj.row [.s (u8 a.op), .s (st (if c = 116 then s else a.token)), .s (st (if c = 112 then s else a.path)), .s (st (if c = 109 ∨ c = 113 then s else a.other)), .s (i6 (if c = 110 then scanN s else a.n)), .s (i6 (if c = 99 then -1 else a.cas)), .s (bo a.flag), .s (SC.nilsl), .s (st a.data), .s (Policy.slP a.rules), .s (st a.key)]), (6, AObj.row [.s (u8 0), .s (st []), .s (st []), .s (st []), .s (i6 0), .s (i6 0), .s (bo false), .s (SC.nilsl), .s (st []), .s (SC.nilsl), .s (st [])])] (Pieces_c 44 s (by omega)) ?_
          refine gS [] [] 150 [(1, vc (u8 c)), (2, vc (st s)), (3, vp 3 0), (6, vp 6 0), (8, vc (AL.Fnv.slS (AL.Sep.splitC 44 s))), (9, vc (i6 0))] [(3, AObj.row [.s (u8 a.op), .s (st (if c = 116 then s else a.token)), .s (st (if c = 112 then s else a.path)), .s (st (if c = 109 ∨ c = 113 then s else a.other)), .s (i6 (if c = 110 then scanN s else a.n)), .s (i6 (if c = 99 then -1 else a.cas)), .s (bo a.flag), .s (SC.nilsl), .s (st a.data), .s (Policy.slP a.rules), .s (st a.key)]), (6, AObj.row [.s (u8 0), .s (st []), .s (st []), .s (st []), .s (i6 0), .s (i6 0), .s (bo false), .s (SC.nilsl), .s (st []), .s (SC.nilsl), .s (st [])])] trivial ?_
          refine AMx.block ?_
          refine AMx.ent (ent_adoptO 3 90 [.s (u8 a.op), .s (st (if c = 116 then s else a.token)), .s (st (if c = 112 then s else a.path)), .s (st (if c = 109 ∨ c = 113 then s else a.other)), .s (i6 (if c = 110 then scanN s else a.n)), .s (i6 (if c = 99 then -1 else a.cas)), .s (bo a.flag)] [.s (st a.data), .s (Policy.slP a.rules), .s (st a.key)] 3 1 Int 0 AL.Fnv.rowI (by kernel_rfl) (by kernel_rfl) (by kernel_rfl) (by kernel_rfl)) ?_
          refine AMx.ent (s' := AS.lst 150 [(1, vc (u8 c)), (2, vc (st s)), (3, vp 3 0), (6, vp 6 0), (8, vc (AL.Fnv.slS (AL.Sep.splitC 44 s))), (9, vc (i6 0))] [(3, AObj.row [.s (u8 a.op), .s (st (if c = 116 then s else a.token)), .s (st (if c = 112 then s else a.path)), .s (st (if c = 109 ∨ c = 113 then s else a.other)), .s (i6 (if c = 110 then scanN s else a.n)), .s (i6 (if c = 99 then -1 else a.cas)), .s (bo a.flag), .own 90, .s (st a.data), .s (Policy.slP a.rules), .s (st a.key)]), (6, AObj.row [.s (u8 0), .s (st []), .s (st []), .s (st []), .s (i6 0), .s (i6 0), .s (bo false), .s (SC.nilsl), .s (st []), .s (SC.nilsl), .s (st [])]), (90, AObj.grow 3 1 Int 0 AL.Fnv.rowI [])]) (ent_proj [1, 2, 3, 6, 8, 9] [3, 6, 90]) ?_
          refine AMx.ent (s' := AS.lst 150 [(1, vc (u8 c)), (2, vc (st s)), (3, vp 3 0), (6, vp 6 0), (8, vc (AL.Fnv.slS (AL.Sep.splitC 44 s))), (9, vc (i6 0))] [(3, AObj.row [.s (u8 a.op), .s (st (if c = 116 then s else a.token)), .s (st (if c = 112 then s else a.path)), .s (st (if c = 109 ∨ c = 113 then s else a.other)), .s (i6 (if c = 110 then scanN s else a.n)), .s (i6 (if c = 99 then -1 else a.cas)), .s (bo a.flag), .own 90, .s (st a.data), .s (Policy.slP a.rules), .s (st a.key)]), (6, AObj.row [.s (u8 0), .s (st []), .s (st []), .s (st []), .s (i6 0), .s (i6 0), .s (bo false), .s (SC.nilsl), .s (st []), .s (SC.nilsl), .s (st [])]), (90, AObj.grow 3 1 Int 0 AL.Fnv.rowI [])]) (ent_proj [1, 2, 3, 6, 8, 9] [3, 6, 90]) ?_
          refine AMx.loop (fun mm ss => ∃ (i : Nat), (i ≤ (AL.Sep.splitC 44 s).length) ∧ mm = (AL.Sep.splitC 44 s).length - i ∧ ss = AS.lst 150 [(1, vc (u8 c)), (2, vc (st s)), (3, vp 3 0), (6, vp 6 0), (8, vc (AL.Fnv.slS (AL.Sep.splitC 44 s))), (9, vc (i6 (i : Int)))] [(3, AObj.row [.s (u8 a.op), .s (st (if c = 116 then s else a.token)), .s (st (if c = 112 then s else a.path)), .s (st (if c = 109 ∨ c = 113 then s else a.other)), .s (i6 (if c = 110 then scanN s else a.n)), .s (i6 (if c = 99 then -1 else a.cas)), .s (bo a.flag), .own 90, .s (st a.data), .s (Policy.slP a.rules), .s (st a.key)]), (6, AObj.row [.s (u8 0), .s (st []), .s (st []), .s (st []), .s (i6 0), .s (i6 0), .s (bo false), .s (SC.nilsl), .s (st []), .s (SC.nilsl), .s (st [])]), (90, AObj.grow 3 1 Int 0 AL.Fnv.rowI ((List.take i (AL.Sep.splitC 44 s)).map scanN))]) ⟨0, ?_, rfl, ?_⟩ ?_
          · omega
          · rfl
          rintro mm ss ⟨i, hI, rfl, rfl⟩
          refine gQ ?_
          refine gS [] [] 150 [(1, vc (u8 c)), (2, vc (st s)), (3, vp 3 0), (6, vp 6 0), (8, vc (AL.Fnv.slS (AL.Sep.splitC 44 s))), (9, vc (i6 (i : Int))), (78, vc (bo (decide ((i : Int) < (List.length (AL.Sep.splitC 44 s : List Bytes) : Int)))))] [(3, AObj.row [.s (u8 a.op), .s (st (if c = 116 then s else a.token)), .s (st (if c = 112 then s else a.path)), .s (st (if c = 109 ∨ c = 113 then s else a.other)), .s (i6 (if c = 110 then scanN s else a.n)), .s (i6 (if c = 99 then -1 else a.cas)), .s (bo a.flag), .own 90, .s (st a.data), .s (Policy.slP a.rules), .s (st a.key)]), (6, AObj.row [.s (u8 0), .s (st []), .s (st []), .s (st []), .s (i6 0), .s (i6 0), .s (bo false), .s (SC.nilsl), .s (st []), .s (SC.nilsl), .s (st [])]), (90, AObj.grow 3 1 Int 0 AL.Fnv.rowI ((List.take i (AL.Sep.splitC 44 s)).map scanN))] trivial ?_
          refine gC ((i : Int) < (List.length (AL.Sep.splitC 44 s : List Bytes) : Int)) (fun hc9 => ?_) fun hc9 => ?_
          ·
           refine AMx.skip ?_
           refine gQ ?_
           refine AMx.block ?_
           refine gX [(6, CE.call [] [] (vc (i6 (scanN (List.getD (AL.Sep.splitC 44 s) i [])))) []), (7, CE.obj (AObj.grow 3 1 Int 0 AL.Fnv.rowI [scanN (List.getD (AL.Sep.splitC 44 s) i [])])), (8, CE.obj (AObj.grow 3 1 Int 0 AL.Fnv.rowI (((List.take i (AL.Sep.splitC 44 s)).map scanN) ++ [scanN (List.getD (AL.Sep.splitC 44 s) i [])])))] [(1, [3]), (8, [88, 90]), (10, [3])] [(0 : Int) ≤ (i : Int), (i : Int) < List.length (AL.Sep.splitC 44 s : List Bytes), Spec Tryz.prog 61 [tc (st (List.getD (AL.Sep.splitC 44 s) i []))] (ofH []) (vc (i6 (scanN (List.getD (AL.Sep.splitC 44 s) i [])))) (ofH []), flat 1 AL.Fnv.rowI [scanN (List.getD (AL.Sep.splitC 44 s) i [])] = [.s (i6 (scanN (List.getD (AL.Sep.splitC 44 s) i [])))], List.length ([scanN (List.getD (AL.Sep.splitC 44 s) i [])] : List Int) = 1, AppC (flat 1 AL.Fnv.rowI [scanN (List.getD (AL.Sep.splitC 44 s) i [])]) (List.length ([scanN (List.getD (AL.Sep.splitC 44 s) i [])] : List Int)) 8 (AObj.grow 3 1 Int 0 AL.Fnv.rowI ((List.take i (AL.Sep.splitC 44 s)).map scanN)) (AObj.grow 3 1 Int 0 AL.Fnv.rowI (((List.take i (AL.Sep.splitC 44 s)).map scanN) ++ [scanN (List.getD (AL.Sep.splitC 44 s) i [])]))] 150 [(1, vc (u8 c)), (2, vc (st s)), (3, vp 3 0), (6, vp 6 0), (8, vc (AL.Fnv.slS (AL.Sep.splitC 44 s))), (9, vc (i6 (i : Int)))] [(3, AObj.row [.s (u8 a.op), .s (st (if c = 116 then s else a.token)), .s (st (if c = 112 then s else a.path)), .s (st (if c = 109 ∨ c = 113 then s else a.other)), .s (i6 (if c = 110 then scanN s else a.n)), .s (i6 (if c = 99 then -1 else a.cas)), .s (bo a.flag), .own 89, .s (st a.data), .s (Policy.slP a.rules), .s (st a.key)]), (6, AObj.row [.s (u8 0), .s (st []), .s (st []), .s (st []), .s (i6 0), .s (i6 0), .s (bo false), .s (SC.nilsl), .s (st []), .s (SC.nilsl), .s (st [])]), (89, AObj.grow 3 1 Int 0 AL.Fnv.rowI (((List.take i (AL.Sep.splitC 44 s)).map scanN) ++ [scanN (List.getD (AL.Sep.splitC 44 s) i [])]))] mixed ⟨(show (0 : Int) ≤ (i : Int) from (by omega)), (show (i : Int) < List.length (AL.Sep.splitC 44 s : List Bytes) from (by omega)), (Rscan_c (List.getD (AL.Sep.splitC 44 s) i [])), rfl, rfl, (⟨_, rfl, rfl, rfl, by have hsl := Policy.split_le 44 s; simp only [List.length_append, List.length_cons, List.length_nil, List.length_map, List.length_take]; omega, by have hsl := Policy.split_le 44 s; simp only [maxLen, List.length_append, List.length_cons, List.length_nil, List.length_map, List.length_take]; omega⟩)⟩ ?_
           refine AMx.blk ?_
           refine gR [] [InR .i64 ((i : Int) + 1)] 150 [(1, vc (u8 c)), (2, vc (st s)), (3, vp 3 0), (6, vp 6 0), (8, vc (AL.Fnv.slS (AL.Sep.splitC 44 s))), (9, vc (i6 ((i : Int) + 1)))] [(3, AObj.row [.s (u8 a.op), .s (st (if c = 116 then s else a.token)), .s (st (if c = 112 then s else a.path)), .s (st (if c = 109 ∨ c = 113 then s else a.other)), .s (i6 (if c = 110 then scanN s else a.n)), .s (i6 (if c = 99 then -1 else a.cas)), .s (bo a.flag), .own 89, .s (st a.data), .s (Policy.slP a.rules), .s (st a.key)]), (6, AObj.row [.s (u8 0), .s (st []), .s (st []), .s (st []), .s (i6 0), .s (i6 0), .s (bo false), .s (SC.nilsl), .s (st []), .s (SC.nilsl), .s (st [])]), (89, AObj.grow 3 1 Int 0 AL.Fnv.rowI (((List.take i (AL.Sep.splitC 44 s)).map scanN) ++ [scanN (List.getD (AL.Sep.splitC 44 s) i [])]))] (show InR .i64 ((i : Int) + 1) from (inR64 (by omega) (by first | omega | (have hsl := Policy.split_le 44 s; first | omega | (simp only [List.length_append, List.length_cons, List.length_nil, List.length_map, List.length_take]; omega))))) ?_
           refine AMx.ent_inv (s' := AS.lst 150 [(1, vc (u8 c)), (2, vc (st s)), (3, vp 3 0), (6, vp 6 0), (8, vc (AL.Fnv.slS (AL.Sep.splitC 44 s))), (9, vc (i6 ((i : Int) + 1)))] [(3, AObj.row [.s (u8 a.op), .s (st (if c = 116 then s else a.token)), .s (st (if c = 112 then s else a.path)), .s (st (if c = 109 ∨ c = 113 then s else a.other)), .s (i6 (if c = 110 then scanN s else a.n)), .s (i6 (if c = 99 then -1 else a.cas)), .s (bo a.flag), .own 90, .s (st a.data), .s (Policy.slP a.rules), .s (st a.key)]), (6, AObj.row [.s (u8 0), .s (st []), .s (st []), .s (st []), .s (i6 0), .s (i6 0), .s (bo false), .s (SC.nilsl), .s (st []), .s (SC.nilsl), .s (st [])]), (90, AObj.grow 3 1 Int 0 AL.Fnv.rowI (((List.take i (AL.Sep.splitC 44 s)).map scanN) ++ [scanN (List.getD (AL.Sep.splitC 44 s) i [])]))]) (ent_swap 89 90 (by kernel_rfl) (by kernel_rfl)) ?_
           refine AMx.ent_inv (s' := AS.lst 150 [(1, vc (u8 c)), (2, vc (st s)), (3, vp 3 0), (6, vp 6 0), (8, vc (AL.Fnv.slS (AL.Sep.splitC 44 s))), (9, vc (i6 ((i : Int) + 1)))] [(3, AObj.row [.s (u8 a.op), .s (st (if c = 116 then s else a.token)), .s (st (if c = 112 then s else a.path)), .s (st (if c = 109 ∨ c = 113 then s else a.other)), .s (i6 (if c = 110 then scanN s else a.n)), .s (i6 (if c = 99 then -1 else a.cas)), .s (bo a.flag), .own 90, .s (st a.data), .s (Policy.slP a.rules), .s (st a.key)]), (6, AObj.row [.s (u8 0), .s (st []), .s (st []), .s (st []), .s (i6 0), .s (i6 0), .s (bo false), .s (SC.nilsl), .s (st []), .s (SC.nilsl), .s (st [])]), (90, AObj.grow 3 1 Int 0 AL.Fnv.rowI (((List.take i (AL.Sep.splitC 44 s)).map scanN) ++ [scanN (List.getD (AL.Sep.splitC 44 s) i [])]))]) (ent_proj [1, 2, 3, 6, 8, 9] [3, 6, 90]) ?_
           refine AMx.inv ⟨_, ?_, i + 1, ?_, rfl, ?_⟩
           rotate_left
           · omega
           · rw [← scans_step (AL.Sep.splitC 44 s) i (by omega)]; rfl
           · omega
          ·
           refine AMx.exit ?_
           refine AMx.code_exit ?_
           refine AMx.inv_exit ?_
           refine AMx.blk_exit ?_
           rw [show List.take i (AL.Sep.splitC 44 s) = AL.Sep.splitC 44 s from List.take_of_length_le (by omega)]
           refine gE ?_
           refine AS.ent_trans (s1 := AS.lst 150 [(1, vc (u8 c)), (2, vc (st s)), (3, vp 3 0), (6, vp 6 0), (8, vc (AL.Fnv.slS (AL.Sep.splitC 44 s))), (9, vc (i6 (i : Int))), (78, vc (bo (decide ((i : Int) < (List.length (AL.Sep.splitC 44 s : List Bytes) : Int)))))] [(3, AObj.row [.s (u8 a.op), .s (st (if c = 116 then s else a.token)), .s (st (if c = 112 then s else a.path)), .s (st (if c = 109 ∨ c = 113 then s else a.other)), .s (i6 (if c = 110 then scanN s else a.n)), .s (i6 (if c = 99 then -1 else a.cas)), .s (bo a.flag), .s (AL.Fnv.slI ((AL.Sep.splitC 44 s).map scanN)), .s (st a.data), .s (Policy.slP a.rules), .s (st a.key)]), (6, AObj.row [.s (u8 0), .s (st []), .s (st []), .s (st []), .s (i6 0), .s (i6 0), .s (bo false), .s (SC.nilsl), .s (st []), .s (SC.nilsl), .s (st [])])]) (ent_freeze (id := 90) (T := 3) (by kernel_rfl)) ?_
           refine AS.ent_trans (s1 := AS.lst 150 [(1, vc (u8 c)), (2, vc (st s)), (3, vp 3 0), (6, vp 6 0)] [(3, AObj.row [.s (u8 a.op), .s (st (if c = 116 then s else a.token)), .s (st (if c = 112 then s else a.path)), .s (st (if c = 109 ∨ c = 113 then s else a.other)), .s (i6 (if c = 110 then scanN s else a.n)), .s (i6 (if c = 99 then -1 else a.cas)), .s (bo a.flag), .s (AL.Fnv.slI ((AL.Sep.splitC 44 s).map scanN)), .s (st a.data), .s (Policy.slP a.rules), .s (st a.key)]), (6, AObj.row [.s (u8 0), .s (st []), .s (st []), .s (st []), .s (i6 0), .s (i6 0), .s (bo false), .s (SC.nilsl), .s (st []), .s (SC.nilsl), .s (st [])])]) (ent_proj [1, 2, 3, 6] [3, 6]) ?_
           obtain ⟨rfl, hz⟩ := hc8; rw [nsx_l hz]
           exact AS.ent_refl _
         ·
          try simp only [xT, xF, xA, xB, xN, xM] at hc8
          refine AMx.skip ?_
          refine gE ?_
          refine AS.ent_trans (s1 := AS.lst 150 [(1, vc (u8 c)), (2, vc (st s)), (3, vp 3 0), (6, vp 6 0)] [(3, AObj.row [.s (u8 a.op), .s (st (if c = 116 then s else a.token)), .s (st (if c = 112 then s else a.path)), .s (st (if c = 109 ∨ c = 113 then s else a.other)), .s (i6 (if c = 110 then scanN s else a.n)), .s (i6 (if c = 99 then -1 else a.cas)), .s (bo a.flag), .s (SC.nilsl), .s (st a.data), .s (Policy.slP a.rules), .s (st a.key)]), (6, AObj.row [.s (u8 0), .s (st []), .s (st []), .s (st []), .s (i6 0), .s (i6 0), .s (bo false), .s (SC.nilsl), .s (st []), .s (SC.nilsl), .s (st [])])]) (ent_proj [1, 2, 3, 6] [3, 6]) ?_
          rw [nsx_f hc8]
          exact AS.ent_refl _
        ·
         refine gQ ?_
         refine gS [] [((decide (c = 100)) = true) → allP [], ((decide (c = 100)) = true) → allP [(decide (c = 100)) = true], (decide (c = 100)) = true → allP [(decide (c = 100)) = true]] 150 [(1, vc (u8 c)), (2, vc (st s)), (3, vp 3 0), (6, vp 6 0), (96, vc (bo ((decide (c = 100)) && (!decide (s = [45])))))] [(3, AObj.row [.s (u8 a.op), .s (st (if c = 116 then s else a.token)), .s (st (if c = 112 then s else a.path)), .s (st (if c = 109 ∨ c = 113 then s else a.other)), .s (i6 (if c = 110 then scanN s else a.n)), .s (i6 (if c = 99 then -1 else a.cas)), .s (bo a.flag), .s (nsX SC.nilsl c s), .s (st a.data), .s (Policy.slP a.rules), .s (st a.key)]), (6, AObj.row [.s (u8 0), .s (st []), .s (st []), .s (st []), .s (i6 0), .s (i6 0), .s (bo false), .s (SC.nilsl), .s (st []), .s (SC.nilsl), .s (st [])])] ⟨(fun _ => trivial), (fun hp => hp), (fun hp2 => (by first | exact hp2 | exact ⟨hp, hp2⟩))⟩ ?_
         refine gB (((decide (c = 100)) && (!decide (s = [45])))) (fun hc10 => ?_) fun hc10 => ?_
         ·
          try simp only [xT, xF, xA, xB, xN, xM] at hc10
          refine gS [(1, CE.call [] [] (AV.tup [tc (st ((unhexS s).1)), tc (bo ((unhexS s).2))]) [])] [Spec Tryz.prog 62 [tc (st s)] (ofH []) (AV.tup [tc (st ((unhexS s).1)), tc (bo ((unhexS s).2))]) (ofH [])] 150 [(2, vc (st s)), (3, vp 3 0), (6, vp 6 0), (10, vc (st ((unhexS s).1))), (11, vc (bo ((unhexS s).2)))] [(3, AObj.row [.s (u8 a.op), .s (st (if c = 116 then s else a.token)), .s (st (if c = 112 then s else a.path)), .s (st (if c = 109 ∨ c = 113 then s else a.other)), .s (i6 (if c = 110 then scanN s else a.n)), .s (i6 (if c = 99 then -1 else a.cas)), .s (bo a.flag), .s (nsX SC.nilsl c s), .s (st a.data), .s (Policy.slP a.rules), .s (st a.key)]), (6, AObj.row [.s (u8 0), .s (st []), .s (st []), .s (st []), .s (i6 0), .s (i6 0), .s (bo false), .s (SC.nilsl), .s (st []), .s (SC.nilsl), .s (st [])])] (RUnhex_c s (by omega)) ?_
          refine gS [] [] 150 [(2, vc (st s)), (3, vp 3 0), (6, vp 6 0), (11, vc (bo ((unhexS s).2)))] [(3, AObj.row [.s (u8 a.op), .s (st (if c = 116 then s else a.token)), .s (st (if c = 112 then s else a.path)), .s (st (if c = 109 ∨ c = 113 then s else a.other)), .s (i6 (if c = 110 then scanN s else a.n)), .s (i6 (if c = 99 then -1 else a.cas)), .s (bo a.flag), .s (nsX SC.nilsl c s), .s (st ((unhexS s).1)), .s (Policy.slP a.rules), .s (st a.key)]), (6, AObj.row [.s (u8 0), .s (st []), .s (st []), .s (st []), .s (i6 0), .s (i6 0), .s (bo false), .s (SC.nilsl), .s (st []), .s (SC.nilsl), .s (st [])])] trivial ?_
          refine gY [(6, CE.call [] [] (vc (i6 (fineS (((unhexS s).2) && (!decide (s = [])))))) [])] [(0, [3]), (7, [6])] [(((unhexS s).2) = true) → allP [], (((unhexS s).2) = true) → allP [((unhexS s).2) = true], ((unhexS s).2) = true → allP [((unhexS s).2) = true], Spec Tryz.prog 49 [tc (bo (((unhexS s).2) && (!decide (s = []))))] (ofH []) (vc (i6 (fineS (((unhexS s).2) && (!decide (s = [])))))) (ofH [])] 150 [(6, vp 6 0), (7, vc (i6 (fineS (((unhexS s).2) && (!decide (s = []))))))] [(6, AObj.row [.s (u8 a.op), .s (st (if c = 116 then s else a.token)), .s (st (if c = 112 then s else a.path)), .s (st (if c = 109 ∨ c = 113 then s else a.other)), .s (i6 (if c = 110 then scanN s else a.n)), .s (i6 (if c = 99 then -1 else a.cas)), .s (bo a.flag), .s (nsX SC.nilsl c s), .s (st ((unhexS s).1)), .s (Policy.slP a.rules), .s (st a.key)])] mixed ⟨(fun _ => trivial), (fun hp => hp), (fun hp2 => (by first | exact hp2 | exact ⟨hp, hp2⟩)), (Rfine_c (((unhexS s).2) && (!decide (s = []))))⟩ ?_
          exact gT (AV.tup [TV.agg [.s (u8 a.op), .s (st (if c = 116 then s else a.token)), .s (st (if c = 112 then s else a.path)), .s (st (if c = 109 ∨ c = 113 then s else a.other)), .s (i6 (if c = 110 then scanN s else a.n)), .s (i6 (if c = 99 then -1 else a.cas)), .s (bo a.flag), .s (nsX SC.nilsl c s), .s (st ((unhexS s).1)), .s (Policy.slP a.rules), .s (st a.key)], tc (i6 (fineS (((unhexS s).2) && (!decide (s = [])))))]) (by rcases hc with rfl | rfl | rfl | rfl | rfl | rfl | rfl | rfl | rfl | rfl | rfl <;> first | (exfalso; omega) | rfl | (rw [with_f] <;> rfl) | (rw [read_k] <;> rfl) | (by_cases hz : s = [45] <;> (by_cases hy : s = [] <;> first | (exfalso; simp_all; done) | (subst hz; rfl) | (subst hz; rw [with_r2 (h114 rfl)] <;> rfl) | (subst hy; rw [with_r0 (h114 rfl)] <;> rfl) | (subst hy; rfl) | (rw [with_c hz] <;> rfl) | (rw [read_d hz] <;> rfl) | (rw [read_r hz hy] <;> rfl) | (rw [with_l hz, nsx_l hz, nsl_y hz] <;> rfl))))
         ·
          try simp only [xT, xF, xA, xB, xN, xM] at hc10
          refine AMx.skip ?_
          refine gQ ?_
          refine gS [] [] 150 [(1, vc (u8 c)), (2, vc (st s)), (3, vp 3 0), (6, vp 6 0), (112, vc (bo (decide (c = 107))))] [(3, AObj.row [.s (u8 a.op), .s (st (if c = 116 then s else a.token)), .s (st (if c = 112 then s else a.path)), .s (st (if c = 109 ∨ c = 113 then s else a.other)), .s (i6 (if c = 110 then scanN s else a.n)), .s (i6 (if c = 99 then -1 else a.cas)), .s (bo a.flag), .s (nsX SC.nilsl c s), .s (st a.data), .s (Policy.slP a.rules), .s (st a.key)]), (6, AObj.row [.s (u8 0), .s (st []), .s (st []), .s (st []), .s (i6 0), .s (i6 0), .s (bo false), .s (SC.nilsl), .s (st []), .s (SC.nilsl), .s (st [])])] trivial ?_
          refine gC (c = 107) (fun hc11 => ?_) fun hc11 => ?_
          ·
           refine gS [(1, CE.call [] [] (AV.tup [tc (st ((unhexS s).1)), tc (bo ((unhexS s).2))]) [])] [Spec Tryz.prog 62 [tc (st s)] (ofH []) (AV.tup [tc (st ((unhexS s).1)), tc (bo ((unhexS s).2))]) (ofH [])] 150 [(3, vp 3 0), (6, vp 6 0), (12, vc (st ((unhexS s).1))), (13, vc (bo ((unhexS s).2)))] [(3, AObj.row [.s (u8 a.op), .s (st (if c = 116 then s else a.token)), .s (st (if c = 112 then s else a.path)), .s (st (if c = 109 ∨ c = 113 then s else a.other)), .s (i6 (if c = 110 then scanN s else a.n)), .s (i6 (if c = 99 then -1 else a.cas)), .s (bo a.flag), .s (nsX SC.nilsl c s), .s (st a.data), .s (Policy.slP a.rules), .s (st a.key)]), (6, AObj.row [.s (u8 0), .s (st []), .s (st []), .s (st []), .s (i6 0), .s (i6 0), .s (bo false), .s (SC.nilsl), .s (st []), .s (SC.nilsl), .s (st [])])] (RUnhex_c s (by omega)) ?_
           refine gS [] [] 150 [(3, vp 3 0), (6, vp 6 0), (12, vc (st ((unhexS s).1))), (13, vc (bo ((unhexS s).2)))] [(3, AObj.row [.s (u8 a.op), .s (st (if c = 116 then s else a.token)), .s (st (if c = 112 then s else a.path)), .s (st (if c = 109 ∨ c = 113 then s else a.other)), .s (i6 (if c = 110 then scanN s else a.n)), .s (i6 (if c = 99 then -1 else a.cas)), .s (bo a.flag), .s (nsX SC.nilsl c s), .s (st a.data), .s (Policy.slP a.rules), .s (st ((unhexS s).1))]), (6, AObj.row [.s (u8 0), .s (st []), .s (st []), .s (st []), .s (i6 0), .s (i6 0), .s (bo false), .s (SC.nilsl), .s (st []), .s (SC.nilsl), .s (st [])])] trivial ?_
           refine gY [(7, CE.call [] [] (vc (i6 (fineS (((unhexS s).2) && (decide ((List.length ((unhexS s).1 : List UInt8) : Int) = 16)))))) [])] [(0, [3]), (8, [6])] [(((unhexS s).2) = true) → allP [], (((unhexS s).2) = true) → allP [((unhexS s).2) = true], (((unhexS s).2) = true) → allP [((unhexS s).2) = true], ((unhexS s).2) = true → allP [((unhexS s).2) = true], Spec Tryz.prog 49 [tc (bo (((unhexS s).2) && (decide ((List.length ((unhexS s).1 : List UInt8) : Int) = 16))))] (ofH []) (vc (i6 (fineS (((unhexS s).2) && (decide ((List.length ((unhexS s).1 : List UInt8) : Int) = 16)))))) (ofH [])] 150 [(6, vp 6 0), (7, vc (i6 (fineS (((unhexS s).2) && (decide ((List.length ((unhexS s).1 : List UInt8) : Int) = 16))))))] [(6, AObj.row [.s (u8 a.op), .s (st (if c = 116 then s else a.token)), .s (st (if c = 112 then s else a.path)), .s (st (if c = 109 ∨ c = 113 then s else a.other)), .s (i6 (if c = 110 then scanN s else a.n)), .s (i6 (if c = 99 then -1 else a.cas)), .s (bo a.flag), .s (nsX SC.nilsl c s), .s (st a.data), .s (Policy.slP a.rules), .s (st ((unhexS s).1))])] mixed ⟨(fun _ => trivial), (fun hp => hp), (fun hp => hp), (fun hp2 => (by first | exact hp2 | exact ⟨hp, hp2⟩)), (Rfine_c (((unhexS s).2) && (decide ((List.length ((unhexS s).1 : List UInt8) : Int) = 16))))⟩ ?_
           exact gT (AV.tup [TV.agg [.s (u8 a.op), .s (st (if c = 116 then s else a.token)), .s (st (if c = 112 then s else a.path)), .s (st (if c = 109 ∨ c = 113 then s else a.other)), .s (i6 (if c = 110 then scanN s else a.n)), .s (i6 (if c = 99 then -1 else a.cas)), .s (bo a.flag), .s (nsX SC.nilsl c s), .s (st a.data), .s (Policy.slP a.rules), .s (st ((unhexS s).1))], tc (i6 (fineS (((unhexS s).2) && (decide ((List.length ((unhexS s).1 : List UInt8) : Int) = 16)))))]) (by rcases hc with rfl | rfl | rfl | rfl | rfl | rfl | rfl | rfl | rfl | rfl | rfl <;> first | (exfalso; omega) | rfl | (rw [with_f] <;> rfl) | (rw [read_k] <;> rfl) | (by_cases hz : s = [45] <;> (by_cases hy : s = [] <;> first | (exfalso; simp_all; done) | (subst hz; rfl) | (subst hz; rw [with_r2 (h114 rfl)] <;> rfl) | (subst hy; rw [with_r0 (h114 rfl)] <;> rfl) | (subst hy; rfl) | (rw [with_c hz] <;> rfl) | (rw [read_d hz] <;> rfl) | (rw [read_r hz hy] <;> rfl) | (rw [with_l hz, nsx_l hz, nsl_y hz] <;> rfl))))
          ·
           refine AMx.skip ?_
           refine gQ ?_
           refine gS [] [((decide (c = 114)) = true) → allP [], ((decide (c = 114)) = true) → allP [(decide (c = 114)) = true], (decide (c = 114)) = true → allP [(decide (c = 114)) = true]] 150 [(1, vc (u8 c)), (2, vc (st s)), (3, vp 3 0), (6, vp 6 0), (133, vc (bo ((decide (c = 114)) && (!decide (s = [45])))))] [(3, AObj.row [.s (u8 a.op), .s (st (if c = 116 then s else a.token)), .s (st (if c = 112 then s else a.path)), .s (st (if c = 109 ∨ c = 113 then s else a.other)), .s (i6 (if c = 110 then scanN s else a.n)), .s (i6 (if c = 99 then -1 else a.cas)), .s (bo a.flag), .s (nsX SC.nilsl c s), .s (st a.data), .s (Policy.slP a.rules), .s (st a.key)]), (6, AObj.row [.s (u8 0), .s (st []), .s (st []), .s (st []), .s (i6 0), .s (i6 0), .s (bo false), .s (SC.nilsl), .s (st []), .s (SC.nilsl), .s (st [])])] ⟨(fun _ => trivial), (fun hp => hp), (fun hp2 => (by first | exact hp2 | exact ⟨hp, hp2⟩))⟩ ?_
           refine gB (((decide (c = 114)) && (!decide (s = [45])))) (fun hc12 => ?_) fun hc12 => ?_
           ·
            try simp only [xT, xF, xA, xB, xN, xM] at hc12
            refine gS [(1, CE.call [] [] (AV.tup [tc (Policy.slP ((Policy.parseP s).1)), tc (i6 ((Policy.parseP s).2))]) [])] [Spec Tryz.prog 63 [tc (st s)] (ofH []) (AV.tup [tc (Policy.slP ((Policy.parseP s).1)), tc (i6 ((Policy.parseP s).2))]) (ofH [])] 150 [(2, vc (st s)), (3, vp 3 0), (6, vp 6 0), (14, vc (Policy.slP ((Policy.parseP s).1))), (15, vc (i6 ((Policy.parseP s).2)))] [(3, AObj.row [.s (u8 a.op), .s (st (if c = 116 then s else a.token)), .s (st (if c = 112 then s else a.path)), .s (st (if c = 109 ∨ c = 113 then s else a.other)), .s (i6 (if c = 110 then scanN s else a.n)), .s (i6 (if c = 99 then -1 else a.cas)), .s (bo a.flag), .s (nsX SC.nilsl c s), .s (st a.data), .s (Policy.slP a.rules), .s (st a.key)]), (6, AObj.row [.s (u8 0), .s (st []), .s (st []), .s (st []), .s (i6 0), .s (i6 0), .s (bo false), .s (SC.nilsl), .s (st []), .s (SC.nilsl), .s (st [])])] (Policy.RParse_c s (by omega)) ?_
            refine gS [] [] 150 [(2, vc (st s)), (3, vp 3 0), (6, vp 6 0), (15, vc (i6 ((Policy.parseP s).2)))] [(3, AObj.row [.s (u8 a.op), .s (st (if c = 116 then s else a.token)), .s (st (if c = 112 then s else a.path)), .s (st (if c = 109 ∨ c = 113 then s else a.other)), .s (i6 (if c = 110 then scanN s else a.n)), .s (i6 (if c = 99 then -1 else a.cas)), .s (bo a.flag), .s (nsX SC.nilsl c s), .s (st a.data), .s (Policy.slP ((Policy.parseP s).1)), .s (st a.key)]), (6, AObj.row [.s (u8 0), .s (st []), .s (st []), .s (st []), .s (i6 0), .s (i6 0), .s (bo false), .s (SC.nilsl), .s (st []), .s (SC.nilsl), .s (st [])])] trivial ?_
            refine gQ ?_
            refine gS [] [] 150 [(3, vp 3 0), (6, vp 6 0), (15, vc (i6 ((Policy.parseP s).2))), (142, vc (bo (decide (s = []))))] [(3, AObj.row [.s (u8 a.op), .s (st (if c = 116 then s else a.token)), .s (st (if c = 112 then s else a.path)), .s (st (if c = 109 ∨ c = 113 then s else a.other)), .s (i6 (if c = 110 then scanN s else a.n)), .s (i6 (if c = 99 then -1 else a.cas)), .s (bo a.flag), .s (nsX SC.nilsl c s), .s (st a.data), .s (Policy.slP ((Policy.parseP s).1)), .s (st a.key)]), (6, AObj.row [.s (u8 0), .s (st []), .s (st []), .s (st []), .s (i6 0), .s (i6 0), .s (bo false), .s (SC.nilsl), .s (st []), .s (SC.nilsl), .s (st [])])] trivial ?_
            refine gC (s = []) (fun hc13 => ?_) fun hc13 => ?_
            ·
             refine gS [] [] 150 [(6, vp 6 0), (7, vc (i6 4))] [(6, AObj.row [.s (u8 a.op), .s (st (if c = 116 then s else a.token)), .s (st (if c = 112 then s else a.path)), .s (st (if c = 109 ∨ c = 113 then s else a.other)), .s (i6 (if c = 110 then scanN s else a.n)), .s (i6 (if c = 99 then -1 else a.cas)), .s (bo a.flag), .s (nsX SC.nilsl c s), .s (st a.data), .s (Policy.slP ((Policy.parseP s).1)), .s (st a.key)])] trivial ?_
             exact gT (AV.tup [TV.agg [.s (u8 a.op), .s (st (if c = 116 then s else a.token)), .s (st (if c = 112 then s else a.path)), .s (st (if c = 109 ∨ c = 113 then s else a.other)), .s (i6 (if c = 110 then scanN s else a.n)), .s (i6 (if c = 99 then -1 else a.cas)), .s (bo a.flag), .s (nsX SC.nilsl c s), .s (st a.data), .s (Policy.slP ((Policy.parseP s).1)), .s (st a.key)], tc (i6 4)]) (by rcases hc with rfl | rfl | rfl | rfl | rfl | rfl | rfl | rfl | rfl | rfl | rfl <;> first | (exfalso; omega) | rfl | (rw [with_f] <;> rfl) | (rw [read_k] <;> rfl) | (by_cases hz : s = [45] <;> (by_cases hy : s = [] <;> first | (exfalso; simp_all; done) | (subst hz; rfl) | (subst hz; rw [with_r2 (h114 rfl)] <;> rfl) | (subst hy; rw [with_r0 (h114 rfl)] <;> rfl) | (subst hy; rfl) | (rw [with_c hz] <;> rfl) | (rw [read_d hz] <;> rfl) | (rw [read_r hz hy] <;> rfl) | (rw [with_l hz, nsx_l hz, nsl_y hz] <;> rfl))))
            ·
             refine AMx.skip ?_
             refine gS [] [] 150 [(6, vp 6 0), (7, vc (i6 ((Policy.parseP s).2)))] [(6, AObj.row [.s (u8 a.op), .s (st (if c = 116 then s else a.token)), .s (st (if c = 112 then s else a.path)), .s (st (if c = 109 ∨ c = 113 then s else a.other)), .s (i6 (if c = 110 then scanN s else a.n)), .s (i6 (if c = 99 then -1 else a.cas)), .s (bo a.flag), .s (nsX SC.nilsl c s), .s (st a.data), .s (Policy.slP ((Policy.parseP s).1)), .s (st a.key)])] trivial ?_
             exact gT (AV.tup [TV.agg [.s (u8 a.op), .s (st (if c = 116 then s else a.token)), .s (st (if c = 112 then s else a.path)), .s (st (if c = 109 ∨ c = 113 then s else a.other)), .s (i6 (if c = 110 then scanN s else a.n)), .s (i6 (if c = 99 then -1 else a.cas)), .s (bo a.flag), .s (nsX SC.nilsl c s), .s (st a.data), .s (Policy.slP ((Policy.parseP s).1)), .s (st a.key)], tc (i6 ((Policy.parseP s).2))]) (by rcases hc with rfl | rfl | rfl | rfl | rfl | rfl | rfl | rfl | rfl | rfl | rfl <;> first | (exfalso; omega) | rfl | (rw [with_f] <;> rfl) | (rw [read_k] <;> rfl) | (by_cases hz : s = [45] <;> (by_cases hy : s = [] <;> first | (exfalso; simp_all; done) | (subst hz; rfl) | (subst hz; rw [with_r2 (h114 rfl)] <;> rfl) | (subst hy; rw [with_r0 (h114 rfl)] <;> rfl) | (subst hy; rfl) | (rw [with_c hz] <;> rfl) | (rw [read_d hz] <;> rfl) | (rw [read_r hz hy] <;> rfl) | (rw [with_l hz, nsx_l hz, nsl_y hz] <;> rfl))))
           ·
            try simp only [xT, xF, xA, xB, xN, xM] at hc12
            refine AMx.skip ?_
            refine gY [(3, CE.call [] [] (vc (i6 (fieldS (⟨a.op, (if c = 116 then s else a.token), (if c = 112 then s else a.path), (if c = 109 ∨ c = 113 then s else a.other), (if c = 110 then scanN s else a.n), (if c = 99 then -1 else a.cas), a.flag, nsL a.ns c s, a.data, a.rules, a.key⟩ : AskV) c))) [])] [(0, [3]), (1, [3]), (4, [6])] [Spec Tryz.prog 27 [TV.agg [.s (u8 a.op), .s (st (if c = 116 then s else a.token)), .s (st (if c = 112 then s else a.path)), .s (st (if c = 109 ∨ c = 113 then s else a.other)), .s (i6 (if c = 110 then scanN s else a.n)), .s (i6 (if c = 99 then -1 else a.cas)), .s (bo a.flag), .s (nsX SC.nilsl c s), .s (st a.data), .s (Policy.slP a.rules), .s (st a.key)], tc (u8 c)] (ofH []) (vc (i6 (fieldS (⟨a.op, (if c = 116 then s else a.token), (if c = 112 then s else a.path), (if c = 109 ∨ c = 113 then s else a.other), (if c = 110 then scanN s else a.n), (if c = 99 then -1 else a.cas), a.flag, nsL a.ns c s, a.data, a.rules, a.key⟩ : AskV) c))) (ofH [])] 150 [(6, vp 6 0), (7, vc (i6 (fieldS (⟨a.op, (if c = 116 then s else a.token), (if c = 112 then s else a.path), (if c = 109 ∨ c = 113 then s else a.other), (if c = 110 then scanN s else a.n), (if c = 99 then -1 else a.cas), a.flag, nsL a.ns c s, a.data, a.rules, a.key⟩ : AskV) c)))] [(6, AObj.row [.s (u8 a.op), .s (st (if c = 116 then s else a.token)), .s (st (if c = 112 then s else a.path)), .s (st (if c = 109 ∨ c = 113 then s else a.other)), .s (i6 (if c = 110 then scanN s else a.n)), .s (i6 (if c = 99 then -1 else a.cas)), .s (bo a.flag), .s (nsX SC.nilsl c s), .s (st a.data), .s (Policy.slP a.rules), .s (st a.key)])] mixed (Spec.weak (args' := [TV.agg [.s (u8 a.op), .s (st (if c = 116 then s else a.token)), .s (st (if c = 112 then s else a.path)), .s (st (if c = 109 ∨ c = 113 then s else a.other)), .s (i6 (if c = 110 then scanN s else a.n)), .s (i6 (if c = 99 then -1 else a.cas)), .s (bo a.flag), .s (AL.Fnv.slI (nsL a.ns c s)), .s (st a.data), .s (Policy.slP a.rules), .s (st a.key)], tc (u8 c)]) ⟨(TV.le_agg (l := [.s (u8 a.op), .s (st (if c = 116 then s else a.token)), .s (st (if c = 112 then s else a.path)), .s (st (if c = 109 ∨ c = 113 then s else a.other)), .s (i6 (if c = 110 then scanN s else a.n)), .s (i6 (if c = 99 then -1 else a.cas)), .s (bo a.flag), .s (nsX SC.nilsl c s), .s (st a.data), .s (Policy.slP a.rules), .s (st a.key)]) (m := [.s (u8 ((⟨a.op, (if c = 116 then s else a.token), (if c = 112 then s else a.path), (if c = 109 ∨ c = 113 then s else a.other), (if c = 110 then scanN s else a.n), (if c = 99 then -1 else a.cas), a.flag, nsL a.ns c s, a.data, a.rules, a.key⟩ : AskV).op)), .s (st ((⟨a.op, (if c = 116 then s else a.token), (if c = 112 then s else a.path), (if c = 109 ∨ c = 113 then s else a.other), (if c = 110 then scanN s else a.n), (if c = 99 then -1 else a.cas), a.flag, nsL a.ns c s, a.data, a.rules, a.key⟩ : AskV).token)), .s (st ((⟨a.op, (if c = 116 then s else a.token), (if c = 112 then s else a.path), (if c = 109 ∨ c = 113 then s else a.other), (if c = 110 then scanN s else a.n), (if c = 99 then -1 else a.cas), a.flag, nsL a.ns c s, a.data, a.rules, a.key⟩ : AskV).path)), .s (st ((⟨a.op, (if c = 116 then s else a.token), (if c = 112 then s else a.path), (if c = 109 ∨ c = 113 then s else a.other), (if c = 110 then scanN s else a.n), (if c = 99 then -1 else a.cas), a.flag, nsL a.ns c s, a.data, a.rules, a.key⟩ : AskV).other)), .s (i6 ((⟨a.op, (if c = 116 then s else a.token), (if c = 112 then s else a.path), (if c = 109 ∨ c = 113 then s else a.other), (if c = 110 then scanN s else a.n), (if c = 99 then -1 else a.cas), a.flag, nsL a.ns c s, a.data, a.rules, a.key⟩ : AskV).n)), .s (i6 ((⟨a.op, (if c = 116 then s else a.token), (if c = 112 then s else a.path), (if c = 109 ∨ c = 113 then s else a.other), (if c = 110 then scanN s else a.n), (if c = 99 then -1 else a.cas), a.flag, nsL a.ns c s, a.data, a.rules, a.key⟩ : AskV).cas)), .s (bo ((⟨a.op, (if c = 116 then s else a.token), (if c = 112 then s else a.path), (if c = 109 ∨ c = 113 then s else a.other), (if c = 110 then scanN s else a.n), (if c = 99 then -1 else a.cas), a.flag, nsL a.ns c s, a.data, a.rules, a.key⟩ : AskV).flag)), .s (AL.Fnv.slI ((⟨a.op, (if c = 116 then s else a.token), (if c = 112 then s else a.path), (if c = 109 ∨ c = 113 then s else a.other), (if c = 110 then scanN s else a.n), (if c = 99 then -1 else a.cas), a.flag, nsL a.ns c s, a.data, a.rules, a.key⟩ : AskV).ns)), .s (st ((⟨a.op, (if c = 116 then s else a.token), (if c = 112 then s else a.path), (if c = 109 ∨ c = 113 then s else a.other), (if c = 110 then scanN s else a.n), (if c = 99 then -1 else a.cas), a.flag, nsL a.ns c s, a.data, a.rules, a.key⟩ : AskV).data)), .s (Policy.slP ((⟨a.op, (if c = 116 then s else a.token), (if c = 112 then s else a.path), (if c = 109 ∨ c = 113 then s else a.other), (if c = 110 then scanN s else a.n), (if c = 99 then -1 else a.cas), a.flag, nsL a.ns c s, a.data, a.rules, a.key⟩ : AskV).rules)), .s (st ((⟨a.op, (if c = 116 then s else a.token), (if c = 112 then s else a.path), (if c = 109 ∨ c = 113 then s else a.other), (if c = 110 then scanN s else a.n), (if c = 99 then -1 else a.cas), a.flag, nsL a.ns c s, a.data, a.rules, a.key⟩ : AskV).key))]) ⟨AC.le_rfl, AC.le_rfl, AC.le_rfl, AC.le_rfl, AC.le_rfl, AC.le_rfl, AC.le_rfl, (nsx_le2 hn), AC.le_rfl, AC.le_rfl, AC.le_rfl, trivial⟩), TV.le_rfl, trivial⟩ (Rfield_c (⟨a.op, (if c = 116 then s else a.token), (if c = 112 then s else a.path), (if c = 109 ∨ c = 113 then s else a.other), (if c = 110 then scanN s else a.n), (if c = 99 then -1 else a.cas), a.flag, nsL a.ns c s, a.data, a.rules, a.key⟩ : AskV) c)) ?_
            exact gT (AV.tup [TV.agg [.s (u8 a.op), .s (st (if c = 116 then s else a.token)), .s (st (if c = 112 then s else a.path)), .s (st (if c = 109 ∨ c = 113 then s else a.other)), .s (i6 (if c = 110 then scanN s else a.n)), .s (i6 (if c = 99 then -1 else a.cas)), .s (bo a.flag), .s (nsX SC.nilsl c s), .s (st a.data), .s (Policy.slP a.rules), .s (st a.key)], tc (i6 (fieldS (⟨a.op, (if c = 116 then s else a.token), (if c = 112 then s else a.path), (if c = 109 ∨ c = 113 then s else a.other), (if c = 110 then scanN s else a.n), (if c = 99 then -1 else a.cas), a.flag, nsL a.ns c s, a.data, a.rules, a.key⟩ : AskV) c))]) (by rcases hc with rfl | rfl | rfl | rfl | rfl | rfl | rfl | rfl | rfl | rfl | rfl <;> first | (exfalso; omega) | rfl | (rw [with_f] <;> rfl) | (rw [read_k] <;> rfl) | (by_cases hz : s = [45] <;> (by_cases hy : s = [] <;> first | (exfalso; simp_all; done) | (subst hz; rfl) | (subst hz; rw [with_r2 (h114 rfl)] <;> rfl) | (subst hy; rw [with_r0 (h114 rfl)] <;> rfl) | (subst hy; rfl) | (rw [with_c hz] <;> rfl) | (rw [read_d hz] <;> rfl) | (rw [read_r hz hy] <;> rfl) | (rw [with_l hz, nsx_l hz, nsl_y hz] <;> rfl))))
set_option maxRecDepth 100000 in
set_option maxHeartbeats 8000000 in
theorem RwithS_c (a : AskV) (c : Int) (s : Bytes) (hc : LetI c) (h108 : ¬ c = 108) (h114 : c = 114 → a.rules = []) (hb : s.length ≤ 100000) : Pure Tryz.prog 38 [TV.agg (rwA a), tc (u8 c), tc (st s)] (AV.tup [TV.agg (rwA ((readA a c s).1)), tc (i6 ((readA a c s).2))]) := by
 refine Pure.of_body Tryz.func38 f38_body (by kernel_rfl) Tryz.ntmps38 (by kernel_rfl) (by kernel_rfl) ?_
 unfold LetI at hc
 refine gS [] [] 150 [(1, vc (u8 c)), (2, vc (st s)), (3, vp 3 0), (6, vp 6 0)] [(3, AObj.row (rwA a)), (6, AObj.row [.s (u8 0), .s (st []), .s (st []), .s (st []), .s (i6 0), .s (i6 0), .s (bo false), .s (SC.nilsl), .s (st []), .s (SC.nilsl), .s (st [])])] trivial ?_
 refine gQ ?_
 refine gS [] [] 150 [(1, vc (u8 c)), (2, vc (st s)), (3, vp 3 0), (6, vp 6 0), (17, vc (bo (decide (c = 116))))] [(3, AObj.row (rwA a)), (6, AObj.row [.s (u8 0), .s (st []), .s (st []), .s (st []), .s (i6 0), .s (i6 0), .s (bo false), .s (SC.nilsl), .s (st []), .s (SC.nilsl), .s (st [])])] trivial ?_
 refine gJ 150 [(1, vc (u8 c)), (2, vc (st s)), (3, vp 3 0), (6, vp 6 0)] [(3, AObj.row [.s (u8 a.op), .s (st (if c = 116 then s else a.token)), .s (st a.path), .s (st a.other), .s (i6 a.n), .s (i6 a.cas), .s (bo a.flag), .s (AL.Fnv.slI a.ns), .s (st a.data), .s (Policy.slP a.rules), .s (st a.key)]), (6, AObj.row [.s (u8 0), .s (st []), .s (st []), .s (st []), .s (i6 0), .s (i6 0), .s (bo false), .s (SC.nilsl), .s (st []), .s (SC.nilsl), .s (st [])])] ?_ ?_
 ·
  refine gC (c = 116) (fun hc1 => ?_) fun hc1 => ?_
  ·
   refine gR [] [] 150 [(1, vc (u8 c)), (2, vc (st s)), (3, vp 3 0), (6, vp 6 0)] [(3, AObj.row [.s (u8 a.op), .s (st s), .s (st a.path), .s (st a.other), .s (i6 a.n), .s (i6 a.cas), .s (bo a.flag), .s (AL.Fnv.slI a.ns), .s (st a.data), .s (Policy.slP a.rules), .s (st a.key)]), (6, AObj.row [.s (u8 0), .s (st []), .s (st []), .s (st []), .s (i6 0), .s (i6 0), .s (bo false), .s (SC.nilsl), .s (st []), .s (SC.nilsl), .s (st [])])] trivial ?_
   refine gE ?_
   refine AS.ent_trans (s1 := AS.lst 150 [(1, vc (u8 c)), (2, vc (st s)), (3, vp 3 0), (6, vp 6 0)] [(3, AObj.row [.s (u8 a.op), .s (st s), .s (st a.path), .s (st a.other), .s (i6 a.n), .s (i6 a.cas), .s (bo a.flag), .s (AL.Fnv.slI a.ns), .s (st a.data), .s (Policy.slP a.rules), .s (st a.key)]), (6, AObj.row [.s (u8 0), .s (st []), .s (st []), .s (st []), .s (i6 0), .s (i6 0), .s (bo false), .s (SC.nilsl), .s (st []), .s (SC.nilsl), .s (st [])])]) (ent_proj [1, 2, 3, 6] [3, 6]) ?_
   rw [if_pos hc1]
   exact AS.ent_refl _
  ·
   refine AMx.skip ?_
   refine gE ?_
   refine AS.ent_trans (s1 := AS.lst 150 [(1, vc (u8 c)), (2, vc (st s)), (3, vp 3 0), (6, vp 6 0)] [(3, AObj.row (rwA a)), (6, AObj.row [.s (u8 0), .s (st []), .s (st []), .s (st []), .s (i6 0), .s (i6 0), .s (bo false), .s (SC.nilsl), .s (st []), .s (SC.nilsl), .s (st [])])]) (ent_proj [1, 2, 3, 6] [3, 6]) ?_
   rw [if_neg hc1]
   exact AS.ent_refl _
 ·
  refine gQ ?_
  refine gS [] [] 150 [(1, vc (u8 c)), (2, vc (st s)), (3, vp 3 0), (6, vp 6 0), (21, vc (bo (decide (c = 112))))] [(3, AObj.row [.s (u8 a.op), .s (st (if c = 116 then s else a.token)), .s (st a.path), .s (st a.other), .s (i6 a.n), .s (i6 a.cas), .s (bo a.flag), .s (AL.Fnv.slI a.ns), .s (st a.data), .s (Policy.slP a.rules), .s (st a.key)]), (6, AObj.row [.s (u8 0), .s (st []), .s (st []), .s (st []), .s (i6 0), .s (i6 0), .s (bo false), .s (SC.nilsl), .s (st []), .s (SC.nilsl), .s (st [])])] trivial ?_
  refine gJ 150 [(1, vc (u8 c)), (2, vc (st s)), (3, vp 3 0), (6, vp 6 0)] [(3, AObj.row [.s (u8 a.op), .s (st (if c = 116 then s else a.token)), .s (st (if c = 112 then s else a.path)), .s (st a.other), .s (i6 a.n), .s (i6 a.cas), .s (bo a.flag), .s (AL.Fnv.slI a.ns), .s (st a.data), .s (Policy.slP a.rules), .s (st a.key)]), (6, AObj.row [.s (u8 0), .s (st []), .s (st []), .s (st []), .s (i6 0), .s (i6 0), .s (bo false), .s (SC.nilsl), .s (st []), .s (SC.nilsl), .s (st [])])] ?_ ?_
  ·
   refine gC (c = 112) (fun hc2 => ?_) fun hc2 => ?_
   ·
    refine gR [] [] 150 [(1, vc (u8 c)), (2, vc (st s)), (3, vp 3 0), (6, vp 6 0)] [(3, AObj.row [.s (u8 a.op), .s (st (if c = 116 then s else a.token)), .s (st s), .s (st a.other), .s (i6 a.n), .s (i6 a.cas), .s (bo a.flag), .s (AL.Fnv.slI a.ns), .s (st a.data), .s (Policy.slP a.rules), .s (st a.key)]), (6, AObj.row [.s (u8 0), .s (st []), .s (st []), .s (st []), .s (i6 0), .s (i6 0), .s (bo false), .s (SC.nilsl), .s (st []), .s (SC.nilsl), .s (st [])])] trivial ?_
    refine gE ?_
    refine AS.ent_trans (s1 := AS.lst 150 [(1, vc (u8 c)), (2, vc (st s)), (3, vp 3 0), (6, vp 6 0)] [(3, AObj.row [.s (u8 a.op), .s (st (if c = 116 then s else a.token)), .s (st s), .s (st a.other), .s (i6 a.n), .s (i6 a.cas), .s (bo a.flag), .s (AL.Fnv.slI a.ns), .s (st a.data), .s (Policy.slP a.rules), .s (st a.key)]), (6, AObj.row [.s (u8 0), .s (st []), .s (st []), .s (st []), .s (i6 0), .s (i6 0), .s (bo false), .s (SC.nilsl), .s (st []), .s (SC.nilsl), .s (st [])])]) (ent_proj [1, 2, 3, 6] [3, 6]) ?_
    rw [if_pos hc2]
    exact AS.ent_refl _
   ·
    refine AMx.skip ?_
    refine gE ?_
    refine AS.ent_trans (s1 := AS.lst 150 [(1, vc (u8 c)), (2, vc (st s)), (3, vp 3 0), (6, vp 6 0)] [(3, AObj.row [.s (u8 a.op), .s (st (if c = 116 then s else a.token)), .s (st a.path), .s (st a.other), .s (i6 a.n), .s (i6 a.cas), .s (bo a.flag), .s (AL.Fnv.slI a.ns), .s (st a.data), .s (Policy.slP a.rules), .s (st a.key)]), (6, AObj.row [.s (u8 0), .s (st []), .s (st []), .s (st []), .s (i6 0), .s (i6 0), .s (bo false), .s (SC.nilsl), .s (st []), .s (SC.nilsl), .s (st [])])]) (ent_proj [1, 2, 3, 6] [3, 6]) ?_
    rw [if_neg hc2]
    exact AS.ent_refl _
  ·
   refine gQ ?_
   refine gS [] [((decide (c = 109)) = false) → allP [], ((decide (c = 109)) = false) → allP [(decide (c = 109)) = false], (decide (c = 109)) = false → allP [(decide (c = 109)) = false]] 150 [(1, vc (u8 c)), (2, vc (st s)), (3, vp 3 0), (6, vp 6 0), (29, vc (bo ((decide (c = 109)) || (decide (c = 113)))))] [(3, AObj.row [.s (u8 a.op), .s (st (if c = 116 then s else a.token)), .s (st (if c = 112 then s else a.path)), .s (st a.other), .s (i6 a.n), .s (i6 a.cas), .s (bo a.flag), .s (AL.Fnv.slI a.ns), .s (st a.data), .s (Policy.slP a.rules), .s (st a.key)]), (6, AObj.row [.s (u8 0), .s (st []), .s (st []), .s (st []), .s (i6 0), .s (i6 0), .s (bo false), .s (SC.nilsl), .s (st []), .s (SC.nilsl), .s (st [])])] ⟨(fun _ => trivial), (fun hp => hp), (fun hp2 => (by first | exact hp2 | exact ⟨hp, hp2⟩))⟩ ?_
   refine gJ 150 [(1, vc (u8 c)), (2, vc (st s)), (3, vp 3 0), (6, vp 6 0)] [(3, AObj.row [.s (u8 a.op), .s (st (if c = 116 then s else a.token)), .s (st (if c = 112 then s else a.path)), .s (st (if c = 109 ∨ c = 113 then s else a.other)), .s (i6 a.n), .s (i6 a.cas), .s (bo a.flag), .s (AL.Fnv.slI a.ns), .s (st a.data), .s (Policy.slP a.rules), .s (st a.key)]), (6, AObj.row [.s (u8 0), .s (st []), .s (st []), .s (st []), .s (i6 0), .s (i6 0), .s (bo false), .s (SC.nilsl), .s (st []), .s (SC.nilsl), .s (st [])])] ?_ ?_
   ·
    refine gB (((decide (c = 109)) || (decide (c = 113)))) (fun hc3 => ?_) fun hc3 => ?_
    ·
     try simp only [xT, xF, xO, xP] at hc3
     refine gR [] [] 150 [(1, vc (u8 c)), (2, vc (st s)), (3, vp 3 0), (6, vp 6 0)] [(3, AObj.row [.s (u8 a.op), .s (st (if c = 116 then s else a.token)), .s (st (if c = 112 then s else a.path)), .s (st s), .s (i6 a.n), .s (i6 a.cas), .s (bo a.flag), .s (AL.Fnv.slI a.ns), .s (st a.data), .s (Policy.slP a.rules), .s (st a.key)]), (6, AObj.row [.s (u8 0), .s (st []), .s (st []), .s (st []), .s (i6 0), .s (i6 0), .s (bo false), .s (SC.nilsl), .s (st []), .s (SC.nilsl), .s (st [])])] trivial ?_
     refine gE ?_
     refine AS.ent_trans (s1 := AS.lst 150 [(1, vc (u8 c)), (2, vc (st s)), (3, vp 3 0), (6, vp 6 0)] [(3, AObj.row [.s (u8 a.op), .s (st (if c = 116 then s else a.token)), .s (st (if c = 112 then s else a.path)), .s (st s), .s (i6 a.n), .s (i6 a.cas), .s (bo a.flag), .s (AL.Fnv.slI a.ns), .s (st a.data), .s (Policy.slP a.rules), .s (st a.key)]), (6, AObj.row [.s (u8 0), .s (st []), .s (st []), .s (st []), .s (i6 0), .s (i6 0), .s (bo false), .s (SC.nilsl), .s (st []), .s (SC.nilsl), .s (st [])])]) (ent_proj [1, 2, 3, 6] [3, 6]) ?_
     rw [if_pos hc3]
     exact AS.ent_refl _
    ·
     try simp only [xT, xF, xO, xP] at hc3
     refine AMx.skip ?_
     refine gE ?_
     refine AS.ent_trans (s1 := AS.lst 150 [(1, vc (u8 c)), (2, vc (st s)), (3, vp 3 0), (6, vp 6 0)] [(3, AObj.row [.s (u8 a.op), .s (st (if c = 116 then s else a.token)), .s (st (if c = 112 then s else a.path)), .s (st a.other), .s (i6 a.n), .s (i6 a.cas), .s (bo a.flag), .s (AL.Fnv.slI a.ns), .s (st a.data), .s (Policy.slP a.rules), .s (st a.key)]), (6, AObj.row [.s (u8 0), .s (st []), .s (st []), .s (st []), .s (i6 0), .s (i6 0), .s (bo false), .s (SC.nilsl), .s (st []), .s (SC.nilsl), .s (st [])])]) (ent_proj [1, 2, 3, 6] [3, 6]) ?_
     rw [if_neg (show ¬ (c = 109 ∨ c = 113) from by omega)]
     exact AS.ent_refl _
   ·
    refine gQ ?_
    refine gS [] [] 150 [(1, vc (u8 c)), (2, vc (st s)), (3, vp 3 0), (6, vp 6 0), (33, vc (bo (decide (c = 110))))] [(3, AObj.row [.s (u8 a.op), .s (st (if c = 116 then s else a.token)), .s (st (if c = 112 then s else a.path)), .s (st (if c = 109 ∨ c = 113 then s else a.other)), .s (i6 a.n), .s (i6 a.cas), .s (bo a.flag), .s (AL.Fnv.slI a.ns), .s (st a.data), .s (Policy.slP a.rules), .s (st a.key)]), (6, AObj.row [.s (u8 0), .s (st []), .s (st []), .s (st []), .s (i6 0), .s (i6 0), .s (bo false), .s (SC.nilsl), .s (st []), .s (SC.nilsl), .s (st [])])] trivial ?_
    refine gJ 150 [(1, vc (u8 c)), (2, vc (st s)), (3, vp 3 0), (6, vp 6 0)] [(3, AObj.row [.s (u8 a.op), .s (st (if c = 116 then s else a.token)), .s (st (if c = 112 then s else a.path)), .s (st (if c = 109 ∨ c = 113 then s else a.other)), .s (i6 (if c = 110 then scanN s else a.n)), .s (i6 a.cas), .s (bo a.flag), .s (AL.Fnv.slI a.ns), .s (st a.data), .s (Policy.slP a.rules), .s (st a.key)]), (6, AObj.row [.s (u8 0), .s (st []), .s (st []), .s (st []), .s (i6 0), .s (i6 0), .s (bo false), .s (SC.nilsl), .s (st []), .s (SC.nilsl), .s (st [])])] ?_ ?_
    ·
     refine gC (c = 110) (fun hc4 => ?_) fun hc4 => ?_
     ·
      refine gR [(1, CE.call [] [] (vc (i6 (scanN s))) [])] [Spec Tryz.prog 61 [tc (st s)] (ofH []) (vc (i6 (scanN s))) (ofH [])] 150 [(1, vc (u8 c)), (2, vc (st s)), (3, vp 3 0), (6, vp 6 0)] [(3, AObj.row [.s (u8 a.op), .s (st (if c = 116 then s else a.token)), .s (st (if c = 112 then s else a.path)), .s (st (if c = 109 ∨ c = 113 then s else a.other)), .s (i6 (scanN s)), .s (i6 a.cas), .s (bo a.flag), .s (AL.Fnv.slI a.ns), .s (st a.data), .s (Policy.slP a.rules), .s (st a.key)]), (6, AObj.row [.s (u8 0), .s (st []), .s (st []), .s (st []), .s (i6 0), .s (i6 0), .s (bo false), .s (SC.nilsl), .s (st []), .s (SC.nilsl), .s (st [])])] (Rscan_c s) ?_
      refine gE ?_
      refine AS.ent_trans (s1 := AS.lst 150 [(1, vc (u8 c)), (2, vc (st s)), (3, vp 3 0), (6, vp 6 0)] [(3, AObj.row [.s (u8 a.op), .s (st (if c = 116 then s else a.token)), .s (st (if c = 112 then s else a.path)), .s (st (if c = 109 ∨ c = 113 then s else a.other)), .s (i6 (scanN s)), .s (i6 a.cas), .s (bo a.flag), .s (AL.Fnv.slI a.ns), .s (st a.data), .s (Policy.slP a.rules), .s (st a.key)]), (6, AObj.row [.s (u8 0), .s (st []), .s (st []), .s (st []), .s (i6 0), .s (i6 0), .s (bo false), .s (SC.nilsl), .s (st []), .s (SC.nilsl), .s (st [])])]) (ent_proj [1, 2, 3, 6] [3, 6]) ?_
      rw [if_pos hc4]
      exact AS.ent_refl _
     ·
      refine AMx.skip ?_
      refine gE ?_
      refine AS.ent_trans (s1 := AS.lst 150 [(1, vc (u8 c)), (2, vc (st s)), (3, vp 3 0), (6, vp 6 0)] [(3, AObj.row [.s (u8 a.op), .s (st (if c = 116 then s else a.token)), .s (st (if c = 112 then s else a.path)), .s (st (if c = 109 ∨ c = 113 then s else a.other)), .s (i6 a.n), .s (i6 a.cas), .s (bo a.flag), .s (AL.Fnv.slI a.ns), .s (st a.data), .s (Policy.slP a.rules), .s (st a.key)]), (6, AObj.row [.s (u8 0), .s (st []), .s (st []), .s (st []), .s (i6 0), .s (i6 0), .s (bo false), .s (SC.nilsl), .s (st []), .s (SC.nilsl), .s (st [])])]) (ent_proj [1, 2, 3, 6] [3, 6]) ?_
      rw [if_neg hc4]
      exact AS.ent_refl _
    ·
     refine gQ ?_
     refine gS [] [] 150 [(1, vc (u8 c)), (2, vc (st s)), (3, vp 3 0), (6, vp 6 0), (38, vc (bo (decide (c = 102))))] [(3, AObj.row [.s (u8 a.op), .s (st (if c = 116 then s else a.token)), .s (st (if c = 112 then s else a.path)), .s (st (if c = 109 ∨ c = 113 then s else a.other)), .s (i6 (if c = 110 then scanN s else a.n)), .s (i6 a.cas), .s (bo a.flag), .s (AL.Fnv.slI a.ns), .s (st a.data), .s (Policy.slP a.rules), .s (st a.key)]), (6, AObj.row [.s (u8 0), .s (st []), .s (st []), .s (st []), .s (i6 0), .s (i6 0), .s (bo false), .s (SC.nilsl), .s (st []), .s (SC.nilsl), .s (st [])])] trivial ?_
     refine gC (c = 102) (fun hc5 => ?_) fun hc5 => ?_
     ·
      refine gS [] [] 150 [(2, vc (st s)), (3, vp 3 0), (6, vp 6 0)] [(3, AObj.row [.s (u8 a.op), .s (st (if c = 116 then s else a.token)), .s (st (if c = 112 then s else a.path)), .s (st (if c = 109 ∨ c = 113 then s else a.other)), .s (i6 (if c = 110 then scanN s else a.n)), .s (i6 a.cas), .s (bo (decide (s = [49]))), .s (AL.Fnv.slI a.ns), .s (st a.data), .s (Policy.slP a.rules), .s (st a.key)]), (6, AObj.row [.s (u8 0), .s (st []), .s (st []), .s (st []), .s (i6 0), .s (i6 0), .s (bo false), .s (SC.nilsl), .s (st []), .s (SC.nilsl), .s (st [])])] trivial ?_
      refine gY [(7, CE.call [] [] (vc (i6 (fineS ((decide (s = [48])) || (decide (s = [49])))))) [])] [(0, [3]), (8, [6])] [((decide (s = [48])) = false) → allP [], ((decide (s = [48])) = false) → allP [(decide (s = [48])) = false], (decide (s = [48])) = false → allP [(decide (s = [48])) = false], Spec Tryz.prog 49 [tc (bo ((decide (s = [48])) || (decide (s = [49]))))] (ofH []) (vc (i6 (fineS ((decide (s = [48])) || (decide (s = [49])))))) (ofH [])] 150 [(6, vp 6 0), (7, vc (i6 (fineS ((decide (s = [48])) || (decide (s = [49]))))))] [(6, AObj.row [.s (u8 a.op), .s (st (if c = 116 then s else a.token)), .s (st (if c = 112 then s else a.path)), .s (st (if c = 109 ∨ c = 113 then s else a.other)), .s (i6 (if c = 110 then scanN s else a.n)), .s (i6 a.cas), .s (bo (decide (s = [49]))), .s (AL.Fnv.slI a.ns), .s (st a.data), .s (Policy.slP a.rules), .s (st a.key)])] mixed ⟨(fun _ => trivial), (fun hp => hp), (fun hp2 => (by first | exact hp2 | exact ⟨hp, hp2⟩)), (Rfine_c ((decide (s = [48])) || (decide (s = [49]))))⟩ ?_
      exact gT (AV.tup [TV.agg [.s (u8 a.op), .s (st (if c = 116 then s else a.token)), .s (st (if c = 112 then s else a.path)), .s (st (if c = 109 ∨ c = 113 then s else a.other)), .s (i6 (if c = 110 then scanN s else a.n)), .s (i6 a.cas), .s (bo (decide (s = [49]))), .s (AL.Fnv.slI a.ns), .s (st a.data), .s (Policy.slP a.rules), .s (st a.key)], tc (i6 (fineS ((decide (s = [48])) || (decide (s = [49])))))]) (by rcases hc with rfl | rfl | rfl | rfl | rfl | rfl | rfl | rfl | rfl | rfl | rfl <;> first | (exfalso; omega) | rfl | (rw [with_f] <;> rfl) | (rw [read_k] <;> rfl) | (by_cases hz : s = [45] <;> (by_cases hy : s = [] <;> first | (exfalso; simp_all; done) | (subst hz; rfl) | (subst hz; rw [with_r2 (h114 rfl)] <;> rfl) | (subst hy; rw [with_r0 (h114 rfl)] <;> rfl) | (subst hy; rfl) | (rw [with_c hz] <;> rfl) | (rw [read_d hz] <;> rfl) | (rw [read_r hz hy] <;> rfl) | (rw [with_l hz, nsx_l hz, nsl_y hz] <;> rfl))))
     ·
      refine AMx.skip ?_
      refine gQ ?_
      refine gS [] [((decide (c = 99)) = true) → allP [], ((decide (c = 99)) = true) → allP [(decide (c = 99)) = true], (decide (c = 99)) = true → allP [(decide (c = 99)) = true]] 150 [(1, vc (u8 c)), (2, vc (st s)), (3, vp 3 0), (6, vp 6 0), (55, vc (bo ((decide (c = 99)) && (!decide (s = [45])))))] [(3, AObj.row [.s (u8 a.op), .s (st (if c = 116 then s else a.token)), .s (st (if c = 112 then s else a.path)), .s (st (if c = 109 ∨ c = 113 then s else a.other)), .s (i6 (if c = 110 then scanN s else a.n)), .s (i6 a.cas), .s (bo a.flag), .s (AL.Fnv.slI a.ns), .s (st a.data), .s (Policy.slP a.rules), .s (st a.key)]), (6, AObj.row [.s (u8 0), .s (st []), .s (st []), .s (st []), .s (i6 0), .s (i6 0), .s (bo false), .s (SC.nilsl), .s (st []), .s (SC.nilsl), .s (st [])])] ⟨(fun _ => trivial), (fun hp => hp), (fun hp2 => (by first | exact hp2 | exact ⟨hp, hp2⟩))⟩ ?_
      refine gB (((decide (c = 99)) && (!decide (s = [45])))) (fun hc6 => ?_) fun hc6 => ?_
      ·
       try simp only [xT, xF, xA, xB, xN, xM] at hc6
       refine gS [(1, CE.call [] [] (vc (i6 (scanN s))) [])] [Spec Tryz.prog 61 [tc (st s)] (ofH []) (vc (i6 (scanN s))) (ofH [])] 150 [(3, vp 3 0), (6, vp 6 0)] [(3, AObj.row [.s (u8 a.op), .s (st (if c = 116 then s else a.token)), .s (st (if c = 112 then s else a.path)), .s (st (if c = 109 ∨ c = 113 then s else a.other)), .s (i6 (if c = 110 then scanN s else a.n)), .s (i6 (scanN s)), .s (bo a.flag), .s (AL.Fnv.slI a.ns), .s (st a.data), .s (Policy.slP a.rules), .s (st a.key)]), (6, AObj.row [.s (u8 0), .s (st []), .s (st []), .s (st []), .s (i6 0), .s (i6 0), .s (bo false), .s (SC.nilsl), .s (st []), .s (SC.nilsl), .s (st [])])] (Rscan_c s) ?_
       refine gY [(4, CE.call [] [] (vc (i6 (fineS (decide (0 ≤ scanN s))))) [])] [(0, [3]), (2, [3]), (5, [6])] [Spec Tryz.prog 49 [tc (bo (decide (0 ≤ scanN s)))] (ofH []) (vc (i6 (fineS (decide (0 ≤ scanN s))))) (ofH [])] 150 [(6, vp 6 0), (7, vc (i6 (fineS (decide (0 ≤ scanN s)))))] [(6, AObj.row [.s (u8 a.op), .s (st (if c = 116 then s else a.token)), .s (st (if c = 112 then s else a.path)), .s (st (if c = 109 ∨ c = 113 then s else a.other)), .s (i6 (if c = 110 then scanN s else a.n)), .s (i6 (scanN s)), .s (bo a.flag), .s (AL.Fnv.slI a.ns), .s (st a.data), .s (Policy.slP a.rules), .s (st a.key)])] mixed (Rfine_c (decide (0 ≤ scanN s))) ?_
       exact gT (AV.tup [TV.agg [.s (u8 a.op), .s (st (if c = 116 then s else a.token)), .s (st (if c = 112 then s else a.path)), .s (st (if c = 109 ∨ c = 113 then s else a.other)), .s (i6 (if c = 110 then scanN s else a.n)), .s (i6 (scanN s)), .s (bo a.flag), .s (AL.Fnv.slI a.ns), .s (st a.data), .s (Policy.slP a.rules), .s (st a.key)], tc (i6 (fineS (decide (0 ≤ scanN s))))]) (by rcases hc with rfl | rfl | rfl | rfl | rfl | rfl | rfl | rfl | rfl | rfl | rfl <;> first | (exfalso; omega) | rfl | (rw [with_f] <;> rfl) | (rw [read_k] <;> rfl) | (by_cases hz : s = [45] <;> (by_cases hy : s = [] <;> first | (exfalso; simp_all; done) | (subst hz; rfl) | (subst hz; rw [with_r2 (h114 rfl)] <;> rfl) | (subst hy; rw [with_r0 (h114 rfl)] <;> rfl) | (subst hy; rfl) | (rw [with_c hz] <;> rfl) | (rw [read_d hz] <;> rfl) | (rw [read_r hz hy] <;> rfl) | (rw [with_l hz, nsx_l hz, nsl_y hz] <;> rfl))))
      ·
       try simp only [xT, xF, xA, xB, xN, xM] at hc6
       refine AMx.skip ?_
       refine gQ ?_
       refine gS [] [] 150 [(1, vc (u8 c)), (2, vc (st s)), (3, vp 3 0), (6, vp 6 0), (65, vc (bo (decide (c = 99))))] [(3, AObj.row [.s (u8 a.op), .s (st (if c = 116 then s else a.token)), .s (st (if c = 112 then s else a.path)), .s (st (if c = 109 ∨ c = 113 then s else a.other)), .s (i6 (if c = 110 then scanN s else a.n)), .s (i6 a.cas), .s (bo a.flag), .s (AL.Fnv.slI a.ns), .s (st a.data), .s (Policy.slP a.rules), .s (st a.key)]), (6, AObj.row [.s (u8 0), .s (st []), .s (st []), .s (st []), .s (i6 0), .s (i6 0), .s (bo false), .s (SC.nilsl), .s (st []), .s (SC.nilsl), .s (st [])])] trivial ?_
       refine gJ 150 [(1, vc (u8 c)), (2, vc (st s)), (3, vp 3 0), (6, vp 6 0)] [(3, AObj.row [.s (u8 a.op), .s (st (if c = 116 then s else a.token)), .s (st (if c = 112 then s else a.path)), .s (st (if c = 109 ∨ c = 113 then s else a.other)), .s (i6 (if c = 110 then scanN s else a.n)), .s (i6 (if c = 99 then -1 else a.cas)), .s (bo a.flag), .s (AL.Fnv.slI a.ns), .s (st a.data), .s (Policy.slP a.rules), .s (st a.key)]), (6, AObj.row [.s (u8 0), .s (st []), .s (st []), .s (st []), .s (i6 0), .s (i6 0), .s (bo false), .s (SC.nilsl), .s (st []), .s (SC.nilsl), .s (st [])])] ?_ ?_
       ·
        refine gC (c = 99) (fun hc7 => ?_) fun hc7 => ?_
        ·
         refine gR [] [] 150 [(1, vc (u8 c)), (2, vc (st s)), (3, vp 3 0), (6, vp 6 0)] [(3, AObj.row [.s (u8 a.op), .s (st (if c = 116 then s else a.token)), .s (st (if c = 112 then s else a.path)), .s (st (if c = 109 ∨ c = 113 then s else a.other)), .s (i6 (if c = 110 then scanN s else a.n)), .s (i6 (-1)), .s (bo a.flag), .s (AL.Fnv.slI a.ns), .s (st a.data), .s (Policy.slP a.rules), .s (st a.key)]), (6, AObj.row [.s (u8 0), .s (st []), .s (st []), .s (st []), .s (i6 0), .s (i6 0), .s (bo false), .s (SC.nilsl), .s (st []), .s (SC.nilsl), .s (st [])])] trivial ?_
         refine gE ?_
         refine AS.ent_trans (s1 := AS.lst 150 [(1, vc (u8 c)), (2, vc (st s)), (3, vp 3 0), (6, vp 6 0)] [(3, AObj.row [.s (u8 a.op), .s (st (if c = 116 then s else a.token)), .s (st (if c = 112 then s else a.path)), .s (st (if c = 109 ∨ c = 113 then s else a.other)), .s (i6 (if c = 110 then scanN s else a.n)), .s (i6 (-1)), .s (bo a.flag), .s (AL.Fnv.slI a.ns), .s (st a.data), .s (Policy.slP a.rules), .s (st a.key)]), (6, AObj.row [.s (u8 0), .s (st []), .s (st []), .s (st []), .s (i6 0), .s (i6 0), .s (bo false), .s (SC.nilsl), .s (st []), .s (SC.nilsl), .s (st [])])]) (ent_proj [1, 2, 3, 6] [3, 6]) ?_
         rw [if_pos hc7]
         exact AS.ent_refl _
        ·
         refine AMx.skip ?_
         refine gE ?_
         refine AS.ent_trans (s1 := AS.lst 150 [(1, vc (u8 c)), (2, vc (st s)), (3, vp 3 0), (6, vp 6 0)] [(3, AObj.row [.s (u8 a.op), .s (st (if c = 116 then s else a.token)), .s (st (if c = 112 then s else a.path)), .s (st (if c = 109 ∨ c = 113 then s else a.other)), .s (i6 (if c = 110 then scanN s else a.n)), .s (i6 a.cas), .s (bo a.flag), .s (AL.Fnv.slI a.ns), .s (st a.data), .s (Policy.slP a.rules), .s (st a.key)]), (6, AObj.row [.s (u8 0), .s (st []), .s (st []), .s (st []), .s (i6 0), .s (i6 0), .s (bo false), .s (SC.nilsl), .s (st []), .s (SC.nilsl), .s (st [])])]) (ent_proj [1, 2, 3, 6] [3, 6]) ?_
         rw [if_neg hc7]
         exact AS.ent_refl _
       ·
        refine gQ ?_
        refine gS [] [((decide (c = 108)) = true) → allP [], ((decide (c = 108)) = true) → allP [(decide (c = 108)) = true], (decide (c = 108)) = true → allP [(decide (c = 108)) = true]] 150 [(1, vc (u8 c)), (2, vc (st s)), (3, vp 3 0), (6, vp 6 0), (72, vc (bo ((decide (c = 108)) && (!decide (s = [45])))))] [(3, AObj.row [.s (u8 a.op), .s (st (if c = 116 then s else a.token)), .s (st (if c = 112 then s else a.path)), .s (st (if c = 109 ∨ c = 113 then s else a.other)), .s (i6 (if c = 110 then scanN s else a.n)), .s (i6 (if c = 99 then -1 else a.cas)), .s (bo a.flag), .s (AL.Fnv.slI a.ns), .s (st a.data), .s (Policy.slP a.rules), .s (st a.key)]), (6, AObj.row [.s (u8 0), .s (st []), .s (st []), .s (st []), .s (i6 0), .s (i6 0), .s (bo false), .s (SC.nilsl), .s (st []), .s (SC.nilsl), .s (st [])])] ⟨(fun _ => trivial), (fun hp => hp), (fun hp2 => (by first | exact hp2 | exact ⟨hp, hp2⟩))⟩ ?_
        refine gB (((decide (c = 108)) && (!decide (s = [45])))) (fun hc8 => ?_) fun hc8 => ?_
        ·
         try simp only [xT, xF, xA, xB, xN, xM] at hc8
         exfalso; first | omega | (have hsl := Policy.split_le 44 s; first | omega | (simp only [List.length_append, List.length_cons, List.length_nil, List.length_map, List.length_take]; omega))
        ·
         try simp only [xT, xF, xA, xB, xN, xM] at hc8
         refine AMx.skip ?_
         refine gQ ?_
         refine gS [] [((decide (c = 100)) = true) → allP [], ((decide (c = 100)) = true) → allP [(decide (c = 100)) = true], (decide (c = 100)) = true → allP [(decide (c = 100)) = true]] 150 [(1, vc (u8 c)), (2, vc (st s)), (3, vp 3 0), (6, vp 6 0), (96, vc (bo ((decide (c = 100)) && (!decide (s = [45])))))] [(3, AObj.row [.s (u8 a.op), .s (st (if c = 116 then s else a.token)), .s (st (if c = 112 then s else a.path)), .s (st (if c = 109 ∨ c = 113 then s else a.other)), .s (i6 (if c = 110 then scanN s else a.n)), .s (i6 (if c = 99 then -1 else a.cas)), .s (bo a.flag), .s (AL.Fnv.slI a.ns), .s (st a.data), .s (Policy.slP a.rules), .s (st a.key)]), (6, AObj.row [.s (u8 0), .s (st []), .s (st []), .s (st []), .s (i6 0), .s (i6 0), .s (bo false), .s (SC.nilsl), .s (st []), .s (SC.nilsl), .s (st [])])] ⟨(fun _ => trivial), (fun hp => hp), (fun hp2 => (by first | exact hp2 | exact ⟨hp, hp2⟩))⟩ ?_
         refine gB (((decide (c = 100)) && (!decide (s = [45])))) (fun hc9 => ?_) fun hc9 => ?_
         ·
          try simp only [xT, xF, xA, xB, xN, xM] at hc9
          refine gS [(1, CE.call [] [] (AV.tup [tc (st ((unhexS s).1)), tc (bo ((unhexS s).2))]) [])] [Spec Tryz.prog 62 [tc (st s)] (ofH []) (AV.tup [tc (st ((unhexS s).1)), tc (bo ((unhexS s).2))]) (ofH [])] 150 [(2, vc (st s)), (3, vp 3 0), (6, vp 6 0), (10, vc (st ((unhexS s).1))), (11, vc (bo ((unhexS s).2)))] [(3, AObj.row [.s (u8 a.op), .s (st (if c = 116 then s else a.token)), .s (st (if c = 112 then s else a.path)), .s (st (if c = 109 ∨ c = 113 then s else a.other)), .s (i6 (if c = 110 then scanN s else a.n)), .s (i6 (if c = 99 then -1 else a.cas)), .s (bo a.flag), .s (AL.Fnv.slI a.ns), .s (st a.data), .s (Policy.slP a.rules), .s (st a.key)]), (6, AObj.row [.s (u8 0), .s (st []), .s (st []), .s (st []), .s (i6 0), .s (i6 0), .s (bo false), .s (SC.nilsl), .s (st []), .s (SC.nilsl), .s (st [])])] (RUnhex_c s (by omega)) ?_
          refine gS [] [] 150 [(2, vc (st s)), (3, vp 3 0), (6, vp 6 0), (11, vc (bo ((unhexS s).2)))] [(3, AObj.row [.s (u8 a.op), .s (st (if c = 116 then s else a.token)), .s (st (if c = 112 then s else a.path)), .s (st (if c = 109 ∨ c = 113 then s else a.other)), .s (i6 (if c = 110 then scanN s else a.n)), .s (i6 (if c = 99 then -1 else a.cas)), .s (bo a.flag), .s (AL.Fnv.slI a.ns), .s (st ((unhexS s).1)), .s (Policy.slP a.rules), .s (st a.key)]), (6, AObj.row [.s (u8 0), .s (st []), .s (st []), .s (st []), .s (i6 0), .s (i6 0), .s (bo false), .s (SC.nilsl), .s (st []), .s (SC.nilsl), .s (st [])])] trivial ?_
          refine gY [(6, CE.call [] [] (vc (i6 (fineS (((unhexS s).2) && (!decide (s = [])))))) [])] [(0, [3]), (7, [6])] [(((unhexS s).2) = true) → allP [], (((unhexS s).2) = true) → allP [((unhexS s).2) = true], ((unhexS s).2) = true → allP [((unhexS s).2) = true], Spec Tryz.prog 49 [tc (bo (((unhexS s).2) && (!decide (s = []))))] (ofH []) (vc (i6 (fineS (((unhexS s).2) && (!decide (s = [])))))) (ofH [])] 150 [(6, vp 6 0), (7, vc (i6 (fineS (((unhexS s).2) && (!decide (s = []))))))] [(6, AObj.row [.s (u8 a.op), .s (st (if c = 116 then s else a.token)), .s (st (if c = 112 then s else a.path)), .s (st (if c = 109 ∨ c = 113 then s else a.other)), .s (i6 (if c = 110 then scanN s else a.n)), .s (i6 (if c = 99 then -1 else a.cas)), .s (bo a.flag), .s (AL.Fnv.slI a.ns), .s (st ((unhexS s).1)), .s (Policy.slP a.rules), .s (st a.key)])] mixed ⟨(fun _ => trivial), (fun hp => hp), (fun hp2 => (by first | exact hp2 | exact ⟨hp, hp2⟩)), (Rfine_c (((unhexS s).2) && (!decide (s = []))))⟩ ?_
          exact gT (AV.tup [TV.agg [.s (u8 a.op), .s (st (if c = 116 then s else a.token)), .s (st (if c = 112 then s else a.path)), .s (st (if c = 109 ∨ c = 113 then s else a.other)), .s (i6 (if c = 110 then scanN s else a.n)), .s (i6 (if c = 99 then -1 else a.cas)), .s (bo a.flag), .s (AL.Fnv.slI a.ns), .s (st ((unhexS s).1)), .s (Policy.slP a.rules), .s (st a.key)], tc (i6 (fineS (((unhexS s).2) && (!decide (s = [])))))]) (by rcases hc with rfl | rfl | rfl | rfl | rfl | rfl | rfl | rfl | rfl | rfl | rfl <;> first | (exfalso; omega) | rfl | (rw [with_f] <;> rfl) | (rw [read_k] <;> rfl) | (by_cases hz : s = [45] <;> (by_cases hy : s = [] <;> first | (exfalso; simp_all; done) | (subst hz; rfl) | (subst hz; rw [with_r2 (h114 rfl)] <;> rfl) | (subst hy; rw [with_r0 (h114 rfl)] <;> rfl) | (subst hy; rfl) | (rw [with_c hz] <;> rfl) | (rw [read_d hz] <;> rfl) | (rw [read_r hz hy] <;> rfl) | (rw [with_l hz, nsx_l hz, nsl_y hz] <;> rfl))))
         ·
          try simp only [xT, xF, xA, xB, xN, xM] at hc9
          refine AMx.skip ?_
          refine gQ ?_
          refine gS [] [] 150 [(1, vc (u8 c)), (2, vc (st s)), (3, vp 3 0), (6, vp 6 0), (112, vc (bo (decide (c = 107))))] [(3, AObj.row [.s (u8 a.op), .s (st (if c = 116 then s else a.token)), .s (st (if c = 112 then s else a.path)), .s (st (if c = 109 ∨ c = 113 then s else a.other)), .s (i6 (if c = 110 then scanN s else a.n)), .s (i6 (if c = 99 then -1 else a.cas)), .s (bo a.flag), .s (AL.Fnv.slI a.ns), .s (st a.data), .s (Policy.slP a.rules), .s (st a.key)]), (6, AObj.row [.s (u8 0), .s (st []), .s (st []), .s (st []), .s (i6 0), .s (i6 0), .s (bo false), .s (SC.nilsl), .s (st []), .s (SC.nilsl), .s (st [])])] trivial ?_
          refine gC (c = 107) (fun hc10 => ?_) fun hc10 => ?_
          ·
           refine gS [(1, CE.call [] [] (AV.tup [tc (st ((unhexS s).1)), tc (bo ((unhexS s).2))]) [])] [Spec Tryz.prog 62 [tc (st s)] (ofH []) (AV.tup [tc (st ((unhexS s).1)), tc (bo ((unhexS s).2))]) (ofH [])] 150 [(3, vp 3 0), (6, vp 6 0), (12, vc (st ((unhexS s).1))), (13, vc (bo ((unhexS s).2)))] [(3, AObj.row [.s (u8 a.op), .s (st (if c = 116 then s else a.token)), .s (st (if c = 112 then s else a.path)), .s (st (if c = 109 ∨ c = 113 then s else a.other)), .s (i6 (if c = 110 then scanN s else a.n)), .s (i6 (if c = 99 then -1 else a.cas)), .s (bo a.flag), .s (AL.Fnv.slI a.ns), .s (st a.data), .s (Policy.slP a.rules), .s (st a.key)]), (6, AObj.row [.s (u8 0), .s (st []), .s (st []), .s (st []), .s (i6 0), .s (i6 0), .s (bo false), .s (SC.nilsl), .s (st []), .s (SC.nilsl), .s (st [])])] (RUnhex_c s (by omega)) ?_
           refine gS [] [] 150 [(3, vp 3 0), (6, vp 6 0), (12, vc (st ((unhexS s).1))), (13, vc (bo ((unhexS s).2)))] [(3, AObj.row [.s (u8 a.op), .s (st (if c = 116 then s else a.token)), .s (st (if c = 112 then s else a.path)), .s (st (if c = 109 ∨ c = 113 then s else a.other)), .s (i6 (if c = 110 then scanN s else a.n)), .s (i6 (if c = 99 then -1 else a.cas)), .s (bo a.flag), .s (AL.Fnv.slI a.ns), .s (st a.data), .s (Policy.slP a.rules), .s (st ((unhexS s).1))]), (6, AObj.row [.s (u8 0), .s (st []), .s (st []), .s (st []), .s (i6 0), .s (i6 0), .s (bo false), .s (SC.nilsl), .s (st []), .s (SC.nilsl), .s (st [])])] trivial ?_
           refine gY [(7, CE.call [] [] (vc (i6 (fineS (((unhexS s).2) && (decide ((List.length ((unhexS s).1 : List UInt8) : Int) = 16)))))) [])] [(0, [3]), (8, [6])] [(((unhexS s).2) = true) → allP [], (((unhexS s).2) = true) → allP [((unhexS s).2) = true], (((unhexS s).2) = true) → allP [((unhexS s).2) = true], ((unhexS s).2) = true → allP [((unhexS s).2) = true], Spec Tryz.prog 49 [tc (bo (((unhexS s).2) && (decide ((List.length ((unhexS s).1 : List UInt8) : Int) = 16))))] (ofH []) (vc (i6 (fineS (((unhexS s).2) && (decide ((List.length ((unhexS s).1 : List UInt8) : Int) = 16)))))) (ofH [])] 150 [(6, vp 6 0), (7, vc (i6 (fineS (((unhexS s).2) && (decide ((List.length ((unhexS s).1 : List UInt8) : Int) = 16))))))] [(6, AObj.row [.s (u8 a.op), .s (st (if c = 116 then s else a.token)), .s (st (if c = 112 then s else a.path)), .s (st (if c = 109 ∨ c = 113 then s else a.other)), .s (i6 (if c = 110 then scanN s else a.n)), .s (i6 (if c = 99 then -1 else a.cas)), .s (bo a.flag), .s (AL.Fnv.slI a.ns), .s (st a.data), .s (Policy.slP a.rules), .s (st ((unhexS s).1))])] mixed ⟨(fun _ => trivial), (fun hp => hp), (fun hp => hp), (fun hp2 => (by first | exact hp2 | exact ⟨hp, hp2⟩)), (Rfine_c (((unhexS s).2) && (decide ((List.length ((unhexS s).1 : List UInt8) : Int) = 16))))⟩ ?_
           exact gT (AV.tup [TV.agg [.s (u8 a.op), .s (st (if c = 116 then s else a.token)), .s (st (if c = 112 then s else a.path)), .s (st (if c = 109 ∨ c = 113 then s else a.other)), .s (i6 (if c = 110 then scanN s else a.n)), .s (i6 (if c = 99 then -1 else a.cas)), .s (bo a.flag), .s (AL.Fnv.slI a.ns), .s (st a.data), .s (Policy.slP a.rules), .s (st ((unhexS s).1))], tc (i6 (fineS (((unhexS s).2) && (decide ((List.length ((unhexS s).1 : List UInt8) : Int) = 16)))))]) (by rcases hc with rfl | rfl | rfl | rfl | rfl | rfl | rfl | rfl | rfl | rfl | rfl <;> first | (exfalso; omega) | rfl | (rw [with_f] <;> rfl) | (rw [read_k] <;> rfl) | (by_cases hz : s = [45] <;> (by_cases hy : s = [] <;> first | (exfalso; simp_all; done) | (subst hz; rfl) | (subst hz; rw [with_r2 (h114 rfl)] <;> rfl) | (subst hy; rw [with_r0 (h114 rfl)] <;> rfl) | (subst hy; rfl) | (rw [with_c hz] <;> rfl) | (rw [read_d hz] <;> rfl) | (rw [read_r hz hy] <;> rfl) | (rw [with_l hz, nsx_l hz, nsl_y hz] <;> rfl))))
          ·
           refine AMx.skip ?_
           refine gQ ?_
           refine gS [] [((decide (c = 114)) = true) → allP [], ((decide (c = 114)) = true) → allP [(decide (c = 114)) = true], (decide (c = 114)) = true → allP [(decide (c = 114)) = true]] 150 [(1, vc (u8 c)), (2, vc (st s)), (3, vp 3 0), (6, vp 6 0), (133, vc (bo ((decide (c = 114)) && (!decide (s = [45])))))] [(3, AObj.row [.s (u8 a.op), .s (st (if c = 116 then s else a.token)), .s (st (if c = 112 then s else a.path)), .s (st (if c = 109 ∨ c = 113 then s else a.other)), .s (i6 (if c = 110 then scanN s else a.n)), .s (i6 (if c = 99 then -1 else a.cas)), .s (bo a.flag), .s (AL.Fnv.slI a.ns), .s (st a.data), .s (Policy.slP a.rules), .s (st a.key)]), (6, AObj.row [.s (u8 0), .s (st []), .s (st []), .s (st []), .s (i6 0), .s (i6 0), .s (bo false), .s (SC.nilsl), .s (st []), .s (SC.nilsl), .s (st [])])] ⟨(fun _ => trivial), (fun hp => hp), (fun hp2 => (by first | exact hp2 | exact ⟨hp, hp2⟩))⟩ ?_
           refine gB (((decide (c = 114)) && (!decide (s = [45])))) (fun hc11 => ?_) fun hc11 => ?_
           ·
            try simp only [xT, xF, xA, xB, xN, xM] at hc11
            refine gS [(1, CE.call [] [] (AV.tup [tc (Policy.slP ((Policy.parseP s).1)), tc (i6 ((Policy.parseP s).2))]) [])] [Spec Tryz.prog 63 [tc (st s)] (ofH []) (AV.tup [tc (Policy.slP ((Policy.parseP s).1)), tc (i6 ((Policy.parseP s).2))]) (ofH [])] 150 [(2, vc (st s)), (3, vp 3 0), (6, vp 6 0), (14, vc (Policy.slP ((Policy.parseP s).1))), (15, vc (i6 ((Policy.parseP s).2)))] [(3, AObj.row [.s (u8 a.op), .s (st (if c = 116 then s else a.token)), .s (st (if c = 112 then s else a.path)), .s (st (if c = 109 ∨ c = 113 then s else a.other)), .s (i6 (if c = 110 then scanN s else a.n)), .s (i6 (if c = 99 then -1 else a.cas)), .s (bo a.flag), .s (AL.Fnv.slI a.ns), .s (st a.data), .s (Policy.slP a.rules), .s (st a.key)]), (6, AObj.row [.s (u8 0), .s (st []), .s (st []), .s (st []), .s (i6 0), .s (i6 0), .s (bo false), .s (SC.nilsl), .s (st []), .s (SC.nilsl), .s (st [])])] (Policy.RParse_c s (by omega)) ?_
            refine gS [] [] 150 [(2, vc (st s)), (3, vp 3 0), (6, vp 6 0), (15, vc (i6 ((Policy.parseP s).2)))] [(3, AObj.row [.s (u8 a.op), .s (st (if c = 116 then s else a.token)), .s (st (if c = 112 then s else a.path)), .s (st (if c = 109 ∨ c = 113 then s else a.other)), .s (i6 (if c = 110 then scanN s else a.n)), .s (i6 (if c = 99 then -1 else a.cas)), .s (bo a.flag), .s (AL.Fnv.slI a.ns), .s (st a.data), .s (Policy.slP ((Policy.parseP s).1)), .s (st a.key)]), (6, AObj.row [.s (u8 0), .s (st []), .s (st []), .s (st []), .s (i6 0), .s (i6 0), .s (bo false), .s (SC.nilsl), .s (st []), .s (SC.nilsl), .s (st [])])] trivial ?_
            refine gQ ?_
            refine gS [] [] 150 [(3, vp 3 0), (6, vp 6 0), (15, vc (i6 ((Policy.parseP s).2))), (142, vc (bo (decide (s = []))))] [(3, AObj.row [.s (u8 a.op), .s (st (if c = 116 then s else a.token)), .s (st (if c = 112 then s else a.path)), .s (st (if c = 109 ∨ c = 113 then s else a.other)), .s (i6 (if c = 110 then scanN s else a.n)), .s (i6 (if c = 99 then -1 else a.cas)), .s (bo a.flag), .s (AL.Fnv.slI a.ns), .s (st a.data), .s (Policy.slP ((Policy.parseP s).1)), .s (st a.key)]), (6, AObj.row [.s (u8 0), .s (st []), .s (st []), .s (st []), .s (i6 0), .s (i6 0), .s (bo false), .s (SC.nilsl), .s (st []), .s (SC.nilsl), .s (st [])])] trivial ?_
            refine gC (s = []) (fun hc12 => ?_) fun hc12 => ?_
            ·
             refine gS [] [] 150 [(6, vp 6 0), (7, vc (i6 4))] [(6, AObj.row [.s (u8 a.op), .s (st (if c = 116 then s else a.token)), .s (st (if c = 112 then s else a.path)), .s (st (if c = 109 ∨ c = 113 then s else a.other)), .s (i6 (if c = 110 then scanN s else a.n)), .s (i6 (if c = 99 then -1 else a.cas)), .s (bo a.flag), .s (AL.Fnv.slI a.ns), .s (st a.data), .s (Policy.slP ((Policy.parseP s).1)), .s (st a.key)])] trivial ?_
             exact gT (AV.tup [TV.agg [.s (u8 a.op), .s (st (if c = 116 then s else a.token)), .s (st (if c = 112 then s else a.path)), .s (st (if c = 109 ∨ c = 113 then s else a.other)), .s (i6 (if c = 110 then scanN s else a.n)), .s (i6 (if c = 99 then -1 else a.cas)), .s (bo a.flag), .s (AL.Fnv.slI a.ns), .s (st a.data), .s (Policy.slP ((Policy.parseP s).1)), .s (st a.key)], tc (i6 4)]) (by rcases hc with rfl | rfl | rfl | rfl | rfl | rfl | rfl | rfl | rfl | rfl | rfl <;> first | (exfalso; omega) | rfl | (rw [with_f] <;> rfl) | (rw [read_k] <;> rfl) | (by_cases hz : s = [45] <;> (by_cases hy : s = [] <;> first | (exfalso; simp_all; done) | (subst hz; rfl) | (subst hz; rw [with_r2 (h114 rfl)] <;> rfl) | (subst hy; rw [with_r0 (h114 rfl)] <;> rfl) | (subst hy; rfl) | (rw [with_c hz] <;> rfl) | (rw [read_d hz] <;> rfl) | (rw [read_r hz hy] <;> rfl) | (rw [with_l hz, nsx_l hz, nsl_y hz] <;> rfl))))
            ·
             refine AMx.skip ?_
             refine gS [] [] 150 [(6, vp 6 0), (7, vc (i6 ((Policy.parseP s).2)))] [(6, AObj.row [.s (u8 a.op), .s (st (if c = 116 then s else a.token)), .s (st (if c = 112 then s else a.path)), .s (st (if c = 109 ∨ c = 113 then s else a.other)), .s (i6 (if c = 110 then scanN s else a.n)), .s (i6 (if c = 99 then -1 else a.cas)), .s (bo a.flag), .s (AL.Fnv.slI a.ns), .s (st a.data), .s (Policy.slP ((Policy.parseP s).1)), .s (st a.key)])] trivial ?_
             exact gT (AV.tup [TV.agg [.s (u8 a.op), .s (st (if c = 116 then s else a.token)), .s (st (if c = 112 then s else a.path)), .s (st (if c = 109 ∨ c = 113 then s else a.other)), .s (i6 (if c = 110 then scanN s else a.n)), .s (i6 (if c = 99 then -1 else a.cas)), .s (bo a.flag), .s (AL.Fnv.slI a.ns), .s (st a.data), .s (Policy.slP ((Policy.parseP s).1)), .s (st a.key)], tc (i6 ((Policy.parseP s).2))]) (by rcases hc with rfl | rfl | rfl | rfl | rfl | rfl | rfl | rfl | rfl | rfl | rfl <;> first | (exfalso; omega) | rfl | (rw [with_f] <;> rfl) | (rw [read_k] <;> rfl) | (by_cases hz : s = [45] <;> (by_cases hy : s = [] <;> first | (exfalso; simp_all; done) | (subst hz; rfl) | (subst hz; rw [with_r2 (h114 rfl)] <;> rfl) | (subst hy; rw [with_r0 (h114 rfl)] <;> rfl) | (subst hy; rfl) | (rw [with_c hz] <;> rfl) | (rw [read_d hz] <;> rfl) | (rw [read_r hz hy] <;> rfl) | (rw [with_l hz, nsx_l hz, nsl_y hz] <;> rfl))))
           ·
            try simp only [xT, xF, xA, xB, xN, xM] at hc11
            refine AMx.skip ?_
            refine gY [(3, CE.call [] [] (vc (i6 (fieldS (⟨a.op, (if c = 116 then s else a.token), (if c = 112 then s else a.path), (if c = 109 ∨ c = 113 then s else a.other), (if c = 110 then scanN s else a.n), (if c = 99 then -1 else a.cas), a.flag, a.ns, a.data, a.rules, a.key⟩ : AskV) c))) [])] [(0, [3]), (1, [3]), (4, [6])] [Spec Tryz.prog 27 [TV.agg [.s (u8 a.op), .s (st (if c = 116 then s else a.token)), .s (st (if c = 112 then s else a.path)), .s (st (if c = 109 ∨ c = 113 then s else a.other)), .s (i6 (if c = 110 then scanN s else a.n)), .s (i6 (if c = 99 then -1 else a.cas)), .s (bo a.flag), .s (AL.Fnv.slI a.ns), .s (st a.data), .s (Policy.slP a.rules), .s (st a.key)], tc (u8 c)] (ofH []) (vc (i6 (fieldS (⟨a.op, (if c = 116 then s else a.token), (if c = 112 then s else a.path), (if c = 109 ∨ c = 113 then s else a.other), (if c = 110 then scanN s else a.n), (if c = 99 then -1 else a.cas), a.flag, a.ns, a.data, a.rules, a.key⟩ : AskV) c))) (ofH [])] 150 [(6, vp 6 0), (7, vc (i6 (fieldS (⟨a.op, (if c = 116 then s else a.token), (if c = 112 then s else a.path), (if c = 109 ∨ c = 113 then s else a.other), (if c = 110 then scanN s else a.n), (if c = 99 then -1 else a.cas), a.flag, a.ns, a.data, a.rules, a.key⟩ : AskV) c)))] [(6, AObj.row [.s (u8 a.op), .s (st (if c = 116 then s else a.token)), .s (st (if c = 112 then s else a.path)), .s (st (if c = 109 ∨ c = 113 then s else a.other)), .s (i6 (if c = 110 then scanN s else a.n)), .s (i6 (if c = 99 then -1 else a.cas)), .s (bo a.flag), .s (AL.Fnv.slI a.ns), .s (st a.data), .s (Policy.slP a.rules), .s (st a.key)])] mixed (Rfield_c (⟨a.op, (if c = 116 then s else a.token), (if c = 112 then s else a.path), (if c = 109 ∨ c = 113 then s else a.other), (if c = 110 then scanN s else a.n), (if c = 99 then -1 else a.cas), a.flag, a.ns, a.data, a.rules, a.key⟩ : AskV) c) ?_
            exact gT (AV.tup [TV.agg [.s (u8 a.op), .s (st (if c = 116 then s else a.token)), .s (st (if c = 112 then s else a.path)), .s (st (if c = 109 ∨ c = 113 then s else a.other)), .s (i6 (if c = 110 then scanN s else a.n)), .s (i6 (if c = 99 then -1 else a.cas)), .s (bo a.flag), .s (AL.Fnv.slI a.ns), .s (st a.data), .s (Policy.slP a.rules), .s (st a.key)], tc (i6 (fieldS (⟨a.op, (if c = 116 then s else a.token), (if c = 112 then s else a.path), (if c = 109 ∨ c = 113 then s else a.other), (if c = 110 then scanN s else a.n), (if c = 99 then -1 else a.cas), a.flag, a.ns, a.data, a.rules, a.key⟩ : AskV) c))]) (by rcases hc with rfl | rfl | rfl | rfl | rfl | rfl | rfl | rfl | rfl | rfl | rfl <;> first | (exfalso; omega) | rfl | (rw [with_f] <;> rfl) | (rw [read_k] <;> rfl) | (by_cases hz : s = [45] <;> (by_cases hy : s = [] <;> first | (exfalso; simp_all; done) | (subst hz; rfl) | (subst hz; rw [with_r2 (h114 rfl)] <;> rfl) | (subst hy; rw [with_r0 (h114 rfl)] <;> rfl) | (subst hy; rfl) | (rw [with_c hz] <;> rfl) | (rw [read_d hz] <;> rfl) | (rw [read_r hz hy] <;> rfl) | (rw [with_l hz, nsx_l hz, nsl_y hz] <;> rfl))))
theorem Rwith_c (a : AskV) (x : SC) (c : Int) (s : Bytes) (hc : LetI c) (hx : NsX x a.ns) (h108 : c = 108 → x = SC.nilsl) (h114 : c = 114 → a.rules = []) (hb : s.length ≤ 100000) :
    Pure Tryz.prog 38 [TV.agg [.s (u8 a.op), .s (st a.token), .s (st a.path), .s (st a.other), .s (i6 a.n), .s (i6 a.cas), .s (bo a.flag), .s (x), .s (st a.data), .s (Policy.slP a.rules), .s (st a.key)], tc (u8 c), tc (st s)] (AV.tup [TV.agg [.s (u8 (((readA a c s).1).op)), .s (st (((readA a c s).1).token)), .s (st (((readA a c s).1).path)), .s (st (((readA a c s).1).other)), .s (i6 (((readA a c s).1).n)), .s (i6 (((readA a c s).1).cas)), .s (bo (((readA a c s).1).flag)), .s ((nsX x c s)), .s (st (((readA a c s).1).data)), .s (Policy.slP (((readA a c s).1).rules)), .s (st (((readA a c s).1).key))], tc (i6 (readA a c s).2)]) := by
  rcases hx with ⟨rfl, hn⟩ | rfl
  · exact RwithN_c a c s hc hn h114 hb
  · have h : ¬ c = 108 := fun e => sl_not (h108 e)
    have e : nsX (Fnv.slI a.ns) c s = Fnv.slI (readA a c s).1.ns := by rw [nsx_o h, read_ns a s hc h]
    rw [e]
    exact RwithS_c a c s hc h h114 hb
end AL.Ask
