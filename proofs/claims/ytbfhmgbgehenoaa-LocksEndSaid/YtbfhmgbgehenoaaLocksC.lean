/- locks: the contracts of its functions, by their walks. No condition. -/
import Derived.Test.YtbfhmgbgehenoaaLocksB
import Derived.Test.YtbfhmgbgehenoaaLocksE
namespace AL.Locks
open Go Go.Proofs AL AL.Fnv AL.Gate
set_option linter.unusedVariables false
set_option linter.unusedSimpArgs false

theorem f36_body : Try.f36.body = some (.seq (.region 0 (rg Try.f36 0) false) (.seq (.region 1 (rg Try.f36 1) false) (.seq (.seq (.region 2 (rg Try.f36 2) false) (.block 0 (.loop (.seq (.seq (.region 3 (rg Try.f36 3) false) (.cond (.tmp 11) (.skip) (.exit 0))) (.seq (.block 1 (.seq (.region 5 (rg Try.f36 5) false) (.cond (.tmp 22) (.region 6 (rg Try.f36 6) false) (.skip)))) (.region 4 (rg Try.f36 4) false)))))) (.seq (.region 7 (rg Try.f36 7) false) (.ret))))) := by kernel_rfl

set_option maxRecDepth 100000 in
set_option maxHeartbeats 8000000 in
theorem RHeld_c (t : Tab) (w : Int) (n : Nat) (hg : GoodT n t) (hn : n ≤ 80000) : Pure Try.prog 36 [TV.agg [.s (slT t)], tc (i6 w)] (vc (slI (heldS t w t.length))) := by
 refine Pure.of_body Try.func36 f36_body (by kernel_rfl) Try.ntmps36 (by kernel_rfl) (by kernel_rfl) ?_
 refine gS [] [] 28 [(1, vc (i6 w)), (2, vp 2 0)] [(2, AObj.row [.s (slT t)])] trivial ?_
 refine gS [] [] 28 [(1, vc (i6 w)), (2, vp 2 0), (5, vc (SC.nilsl))] [(2, AObj.row [.s (slT t)])] trivial ?_
 refine gQ ?_
 refine gS [] [] 28 [(1, vc (i6 w)), (2, vp 2 0), (5, vc (SC.nilsl)), (6, vc (i6 0))] [(2, AObj.row [.s (slT t)])] trivial ?_
 refine AMx.block ?_
 refine AMx.ent (s' := AS.lst 28 [(1, vc (i6 w)), (2, vp 2 0), (5, vo 5), (6, vc (i6 0))] [(5, AObj.grow 3 1 Int 0 rowI []), (2, AObj.row [.s (slT t)])]) (ent_adopt (t := 5) (d := 5) 3 1 Int 0 rowI (by kernel_rfl) (by kernel_rfl) (by kernel_rfl) (by kernel_rfl)) ?_
 refine AMx.ent (s' := AS.lst 28 [(1, vc (i6 w)), (2, vp 2 0), (5, vo 5), (6, vc (i6 0))] [(2, AObj.row [.s (slT t)]), (5, AObj.grow 3 1 Int 0 rowI [])]) (ent_proj [1, 2, 5, 6] [2, 5]) ?_
 refine AMx.loop (fun mm ss => ∃ (k : Nat), (k ≤ t.length) ∧ mm = t.length - k ∧ ss = AS.lst 28 [(1, vc (i6 w)), (2, vp 2 0), (5, vo 5), (6, vc (i6 (k : Int)))] [(2, AObj.row [.s (slT t)]), (5, AObj.grow 3 1 Int 0 rowI (heldS t w k))]) ⟨0, ?_, rfl, ?_⟩ ?_
 · omega
 · rfl
 rintro mm ss ⟨k, hI, rfl, rfl⟩
 refine gQ ?_
 refine gS [] [] 28 [(1, vc (i6 w)), (2, vp 2 0), (5, vo 5), (6, vc (i6 (k : Int))), (11, vc (bo (decide ((k : Int) < (List.length t : Int)))))] [(2, AObj.row [.s (slT t)]), (5, AObj.grow 3 1 Int 0 rowI (heldS t w k))] trivial ?_
 refine gC ((k : Int) < (List.length t : Int)) (fun hc1 => ?_) fun hc1 => ?_
 ·
  refine AMx.skip ?_
  refine gQ ?_
  refine AMx.block ?_
  refine gS [(7, CE.call [] [] (vc (i6 (findS ((List.getD t k ([], [])).1) w))) [])] [(0 : Int) ≤ (k : Int), (k : Int) < List.length t, Spec Try.prog 54 [tc (slO ((List.getD t k ([], [])).1)), tc (i6 w)] (ofH []) (vc (i6 (findS ((List.getD t k ([], [])).1) w))) (ofH [])] 28 [(1, vc (i6 w)), (2, vp 2 0), (5, vo 5), (6, vc (i6 (k : Int))), (22, vc (bo (decide (0 ≤ findS ((List.getD t k ([], [])).1) w))))] [(2, AObj.row [.s (slT t)]), (5, AObj.grow 3 1 Int 0 rowI (heldS t w k))] ⟨(by first | omega | (have hl := hg.1; have hh := held_len t w k; omega)), (by first | omega | (have hl := hg.1; have hh := held_len t w k; omega)), (RFind_c ((List.getD t k ([], [])).1) w)⟩ ?_
  refine gC (0 ≤ findS ((List.getD t k ([], [])).1) w) (fun hc2 => ?_) fun hc2 => ?_
  ·
   refine gR [(2, CE.obj (AObj.grow 3 1 Int 0 rowI [(k : Int)])), (3, CE.obj (AObj.grow 3 1 Int 0 rowI ((heldS t w k) ++ [(k : Int)])))] [flat 1 rowI [(k : Int)] = [.s (i6 (k : Int))], List.length ([(k : Int)] : List Int) = 1, AppC (flat 1 rowI [(k : Int)]) (List.length ([(k : Int)] : List Int)) 8 (AObj.grow 3 1 Int 0 rowI (heldS t w k)) (AObj.grow 3 1 Int 0 rowI ((heldS t w k) ++ [(k : Int)]))] 28 [(1, vc (i6 w)), (2, vp 2 0), (5, vo 26), (6, vc (i6 (k : Int)))] [(2, AObj.row [.s (slT t)]), (26, AObj.grow 3 1 Int 0 rowI ((heldS t w k) ++ [(k : Int)]))] ⟨rfl, rfl, (⟨_, rfl, rfl, rfl, by have hl := hg.1; have hh := held_len t w k; simp only [List.length_cons, List.length_nil]; omega, by have hl := hg.1; have hh := held_len t w k; simp only [maxLen, List.length_cons, List.length_nil]; omega⟩)⟩ ?_
   refine AMx.blk ?_
   refine gR [] [InR .i64 ((k : Int) + 1)] 28 [(1, vc (i6 w)), (2, vp 2 0), (5, vo 26), (6, vc (i6 ((k : Int) + 1)))] [(2, AObj.row [.s (slT t)]), (26, AObj.grow 3 1 Int 0 rowI ((heldS t w k) ++ [(k : Int)]))] (show InR .i64 ((k : Int) + 1) from (inR64 (by first | omega | (have hl := hg.1; have hh := held_len t w k; omega)) (by first | omega | (have hl := hg.1; have hh := held_len t w k; omega)))) ?_
   refine AMx.ent_inv (s' := AS.lst 28 [(1, vc (i6 w)), (2, vp 2 0), (5, vo 5), (6, vc (i6 ((k : Int) + 1)))] [(2, AObj.row [.s (slT t)]), (5, AObj.grow 3 1 Int 0 rowI ((heldS t w k) ++ [(k : Int)]))]) (ent_swap 26 5 (by kernel_rfl) (by kernel_rfl)) ?_
   refine AMx.ent_inv (s' := AS.lst 28 [(1, vc (i6 w)), (2, vp 2 0), (5, vo 5), (6, vc (i6 ((k : Int) + 1)))] [(2, AObj.row [.s (slT t)]), (5, AObj.grow 3 1 Int 0 rowI ((heldS t w k) ++ [(k : Int)]))]) (ent_proj [1, 2, 5, 6] [2, 5]) ?_
   refine AMx.inv ⟨_, ?_, k + 1, ?_, rfl, ?_⟩
   rotate_left
   · omega
   · rw [held_t t w k (fun q => by have := (mode_ne (hg.2 _ (AL.Lib.getD_mem _ _ _ (by omega))).1).1 q; omega)]; rfl
   · omega
  ·
   refine AMx.skip ?_
   refine AMx.blk ?_
   refine gR [] [InR .i64 ((k : Int) + 1)] 28 [(1, vc (i6 w)), (2, vp 2 0), (5, vo 5), (6, vc (i6 ((k : Int) + 1)))] [(2, AObj.row [.s (slT t)]), (5, AObj.grow 3 1 Int 0 rowI (heldS t w k))] (show InR .i64 ((k : Int) + 1) from (inR64 (by first | omega | (have hl := hg.1; have hh := held_len t w k; omega)) (by first | omega | (have hl := hg.1; have hh := held_len t w k; omega)))) ?_
   refine AMx.ent_inv (s' := AS.lst 28 [(1, vc (i6 w)), (2, vp 2 0), (5, vo 5), (6, vc (i6 ((k : Int) + 1)))] [(2, AObj.row [.s (slT t)]), (5, AObj.grow 3 1 Int 0 rowI (heldS t w k))]) (ent_proj [1, 2, 5, 6] [2, 5]) ?_
   refine AMx.inv ⟨_, ?_, k + 1, ?_, rfl, ?_⟩
   rotate_left
   · omega
   · rw [held_f t w k ((mode_ne (hg.2 _ (AL.Lib.getD_mem _ _ _ (by omega))).1).2 (by omega))]; rfl
   · omega
 ·
  refine AMx.exit ?_
  refine AMx.code_exit ?_
  refine AMx.inv_exit ?_
  refine AMx.blk_exit ?_
  refine gS [] [] 28 [(4, vo 5)] [(5, AObj.grow 3 1 Int 0 rowI (heldS t w k))] trivial ?_
  refine AMx.ent (s' := AS.lst 28 [(4, vc (slI (heldS t w k)))] []) (ent_freeze (id := 5) (T := 3) (by kernel_rfl)) ?_
  exact gT (vc (slI (heldS t w k))) (by rw [show k = t.length by omega])

theorem f16_body : Try.f16.body = some (.seq (.region 0 (rg Try.f16 0) false) (.seq (.seq (.region 1 (rg Try.f16 1) false) (.cond (.tmp 23) (.seq (.region 2 (rg Try.f16 2) false) (.ret)) (.skip))) (.seq (.seq (.region 3 (rg Try.f16 3) false) (.cond (.tmp 34) (.seq (.region 4 (rg Try.f16 4) false) (.ret)) (.skip))) (.seq (.region 5 (rg Try.f16 5) false) (.seq (.seq (.region 6 (rg Try.f16 6) false) (.cond (.tmp 57) (.seq (.region 7 (rg Try.f16 7) false) (.ret)) (.skip))) (.seq (.region 8 (rg Try.f16 8) false) (.seq (.region 9 (rg Try.f16 9) false) (.ret)))))))) := by kernel_rfl

set_option maxRecDepth 100000 in
set_option maxHeartbeats 8000000 in
theorem TRAsk_c (t : Tab) (w lock m : Int) (n : Nat) (hg : GoodT n t) (hn : n ≤ 80000) : Pure Try.prog 16 [TV.agg [.s (slT t)], tc (i6 w), tc (i6 lock), tc (u8 m)] (AV.tup [TV.agg [.s (slT ((askT t w lock m).1))], tc (bo ((askT t w lock m).2.1)), tc (i6 ((askT t w lock m).2.2))]) := by
 refine Pure.of_body Try.func16 f16_body (by kernel_rfl) Try.ntmps16 (by kernel_rfl) (by kernel_rfl) ?_
 refine gS [] [] 77 [(1, vc (i6 w)), (2, vc (i6 lock)), (3, vc (u8 m)), (4, vp 4 0), (8, vp 8 0)] [(4, AObj.row [.s (slT t)]), (8, AObj.row [.s (SC.nilsl)])] trivial ?_
 refine gQ ?_
 refine gS [] [((decide (lock < 0)) = false) → allP [(decide (lock < 0)) = false], ((decide (lock < 0)) = false) → allP [(decide (lock < 0)) = false], ((decide (lock < 0)) = false) → allP [(decide (lock < 0)) = false, (decide (lock < 0)) = false], (decide (lock < 0)) = false → allP [(decide (lock < 0)) = false]] 77 [(1, vc (i6 w)), (2, vc (i6 lock)), (3, vc (u8 m)), (4, vp 4 0), (8, vp 8 0), (23, vc (bo ((decide (lock < 0)) || (decide ((List.length t : Int) ≤ lock)))))] [(4, AObj.row [.s (slT t)]), (8, AObj.row [.s (SC.nilsl)])] ⟨(fun hp => hp), (fun hp => hp), (fun hp => ⟨hp, hp⟩), (fun hp2 => (by first | exact hp2 | exact ⟨hp, hp2⟩))⟩ ?_
 refine gB (((decide (lock < 0)) || (decide ((List.length t : Int) ≤ lock)))) (fun hc1 => ?_) fun hc1 => ?_
 ·
  try simp only [xT, xF, xO, xP] at hc1
  refine gS [] [] 77 [(8, vp 8 0), (9, vc (bo false)), (10, vc (i6 8))] [(8, AObj.row [.s (slT t)])] trivial ?_
  exact gT (AV.tup [TV.agg [.s (slT t)], tc (bo false), tc (i6 8)]) (by rw [show askT t w lock m = (t, false, 8) from ask_1 (has_no (by omega))])
 ·
  try simp only [xT, xF, xO, xP] at hc1
  refine AMx.skip ?_
  refine gQ ?_
  refine gS [] [((decide (w < 0)) = false) → allP [(decide (w < 0)) = false], ((decide (w < 0)) = false) → allP [(decide (w < 0)) = false], (((decide (w < 0)) = false) ∧ (!decide (m = 1)) = true) → allP [((decide (w < 0)) = false) ∧ (!decide (m = 1)) = true], ((decide (w < 0)) = false) → allP [(decide (w < 0)) = false, (!decide (m = 1)) = true → allP [((decide (w < 0)) = false) ∧ (!decide (m = 1)) = true]], (decide (w < 0)) = false → allP [(decide (w < 0)) = false]] 77 [(1, vc (i6 w)), (2, vc (i6 lock)), (3, vc (u8 m)), (4, vp 4 0), (8, vp 8 0), (34, vc (bo ((decide (w < 0)) || ((!decide (m = 1)) && (!decide (m = 2))))))] [(4, AObj.row [.s (slT t)]), (8, AObj.row [.s (SC.nilsl)])] ⟨(fun hp => hp), (fun hp => hp), (fun hp => hp), (fun hp => by have hq := hp; (try simp only [xT, xF, xA, xO, xB, xP, xN, xM, Bool.not_eq_true, Bool.not_eq_false] at hq); exact ⟨hp, (fun hp2 => (by first | exact hp2 | exact ⟨hp, hp2⟩))⟩), (fun hp2 => (by first | exact hp2 | exact ⟨hp, hp2⟩))⟩ ?_
  refine gB (((decide (w < 0)) || ((!decide (m = 1)) && (!decide (m = 2))))) (fun hc2 => ?_) fun hc2 => ?_
  ·
   try simp only [xT, xF, xA, xB, xO, xP, xN, xM] at hc2
   refine gS [] [] 77 [(8, vp 8 0), (9, vc (bo false)), (10, vc (i6 2))] [(8, AObj.row [.s (slT t)])] trivial ?_
   exact gT (AV.tup [TV.agg [.s (slT t)], tc (bo false), tc (i6 2)]) (by rw [show askT t w lock m = (t, false, 2) from ask_2 (has_iff.2 (by omega)) (by omega)])
  ·
   try simp only [xT, xF, xA, xB, xO, xP, xN, xM] at hc2
   refine AMx.skip ?_
   refine gS [(2, CE.call [] [] (vc (slI (heldS t w (List.length t)))) [])] [Spec Try.prog 36 [TV.agg [.s (slT t)], tc (i6 w)] (ofH []) (vc (slI (heldS t w (List.length t)))) (ofH [])] 77 [(1, vc (i6 w)), (2, vc (i6 lock)), (3, vc (u8 m)), (4, vp 4 0), (8, vp 8 0), (11, vc (slI (heldS t w (List.length t))))] [(4, AObj.row [.s (slT t)]), (8, AObj.row [.s (SC.nilsl)])] (RHeld_c t w n hg hn) ?_
   refine gQ ?_
   refine gS [(2, CE.call [] [] (vc (i6 (waitIx t w))) [])] [Spec Try.prog 37 [TV.agg [.s (slT t)], tc (i6 w)] (ofH []) (vc (i6 (waitIx t w))) (ofH []), ((decide (0 ≤ waitIx t w)) = false) → allP [(decide (0 ≤ waitIx t w)) = false], ((decide (0 ≤ waitIx t w)) = false) → allP [(decide (0 ≤ waitIx t w)) = false], ((decide (0 ≤ waitIx t w)) = false) → allP [(decide (0 ≤ waitIx t w)) = false], (((decide (0 ≤ waitIx t w)) = false) ∧ (decide (0 < (List.length (heldS t w (List.length t) : List Int) : Int))) = true) → allP [((decide (0 ≤ waitIx t w)) = false) ∧ (decide (0 < (List.length (heldS t w (List.length t) : List Int) : Int))) = true], (((decide (0 ≤ waitIx t w)) = false) ∧ (decide (0 < (List.length (heldS t w (List.length t) : List Int) : Int))) = true) → allP [((decide (0 ≤ waitIx t w)) = false) ∧ (decide (0 < (List.length (heldS t w (List.length t) : List Int) : Int))) = true, InR .i64 ((List.length (heldS t w (List.length t) : List Int) : Int) - 1)], (((decide (0 ≤ waitIx t w)) = false) ∧ (decide (0 < (List.length (heldS t w (List.length t) : List Int) : Int))) = true) → allP [((decide (0 ≤ waitIx t w)) = false) ∧ (decide (0 < (List.length (heldS t w (List.length t) : List Int) : Int))) = true, ((decide (0 ≤ waitIx t w)) = false) ∧ (decide (0 < (List.length (heldS t w (List.length t) : List Int) : Int))) = true, (0 : Int) ≤ (List.length (heldS t w (List.length t) : List Int) : Int) - 1, (List.length (heldS t w (List.length t) : List Int) : Int) - 1 < List.length (heldS t w (List.length t) : List Int)], (((decide (0 ≤ waitIx t w)) = false) ∧ (decide (0 < (List.length (heldS t w (List.length t) : List Int) : Int))) = true) → allP [((decide (0 ≤ waitIx t w)) = false) ∧ (decide (0 < (List.length (heldS t w (List.length t) : List Int) : Int))) = true], (((decide (0 ≤ waitIx t w)) = false) ∧ (decide (0 < (List.length (heldS t w (List.length t) : List Int) : Int))) = true) → allP [((decide (0 ≤ waitIx t w)) = false) ∧ (decide (0 < (List.length (heldS t w (List.length t) : List Int) : Int))) = true, ((decide (0 ≤ waitIx t w)) = false) ∧ (decide (0 < (List.length (heldS t w (List.length t) : List Int) : Int))) = true], ((decide (0 ≤ waitIx t w)) = false) → allP [(decide (0 ≤ waitIx t w)) = false, (decide (0 < (List.length (heldS t w (List.length t) : List Int) : Int))) = true → allP [((decide (0 ≤ waitIx t w)) = false) ∧ (decide (0 < (List.length (heldS t w (List.length t) : List Int) : Int))) = true]], (decide (0 ≤ waitIx t w)) = false → allP [(decide (0 ≤ waitIx t w)) = false]] 77 [(1, vc (i6 w)), (2, vc (i6 lock)), (3, vc (u8 m)), (4, vp 4 0), (8, vp 8 0), (57, vc (bo ((decide (0 ≤ waitIx t w)) || ((decide (0 < (List.length (heldS t w (List.length t) : List Int) : Int))) && (decide (lock ≤ (List.getD (heldS t w (List.length t)) ((List.length (heldS t w (List.length t) : List Int) : Int) - 1).toNat 0)))))))] [(4, AObj.row [.s (slT t)]), (8, AObj.row [.s (SC.nilsl)])] ⟨(RWaits_c t w), (fun hp => hp), (fun hp => hp), (fun hp => hp), (fun hp => hp), (fun hp => by have hq := hp; (try simp only [xT, xF, xA, xO, xB, xP, xN, xM, Bool.not_eq_true, Bool.not_eq_false] at hq); exact ⟨hp, (show InR .i64 ((List.length (heldS t w (List.length t) : List Int) : Int) - 1) from (inR64 (by first | omega | (have hl := hg.1; have hh := held_len t w t.length; omega)) (by first | omega | (have hl := hg.1; have hh := held_len t w t.length; omega))))⟩), (fun hp => by have hq := hp; (try simp only [xT, xF, xA, xO, xB, xP, xN, xM, Bool.not_eq_true, Bool.not_eq_false] at hq); exact ⟨hp, hp, (by first | omega | (have hl := hg.1; have hh := held_len t w t.length; omega)), (show (List.length (heldS t w (List.length t) : List Int) : Int) - 1 < List.length (heldS t w (List.length t) : List Int) from (by first | omega | (have hl := hg.1; have hh := held_len t w t.length; omega)))⟩), (fun hp => hp), (fun hp => ⟨hp, hp⟩), (fun hp => by have hq := hp; (try simp only [xT, xF, xA, xO, xB, xP, xN, xM, Bool.not_eq_true, Bool.not_eq_false] at hq); exact ⟨hp, (fun hp2 => (by first | exact hp2 | exact ⟨hp, hp2⟩))⟩), (fun hp2 => (by first | exact hp2 | exact ⟨hp, hp2⟩))⟩ ?_
   refine gB (((decide (0 ≤ waitIx t w)) || ((decide (0 < (List.length (heldS t w (List.length t) : List Int) : Int))) && (decide (lock ≤ (List.getD (heldS t w (List.length t)) ((List.length (heldS t w (List.length t) : List Int) : Int) - 1).toNat 0)))))) (fun hc3 => ?_) fun hc3 => ?_
   ·
    try simp only [xT, xF, xA, xB, xO, xP] at hc3
    refine gS [] [] 77 [(8, vp 8 0), (9, vc (bo false)), (10, vc (i6 9))] [(8, AObj.row [.s (slT t)])] trivial ?_
    exact gT (AV.tup [TV.agg [.s (slT t)], tc (bo false), tc (i6 9)]) (by rw [show askT t w lock m = (t, false, 9) from ask_3 (has_iff.2 (by omega)) (by omega) ((late_iff t w lock).2 hc3)])
   ·
    try simp only [xT, xF, xA, xB, xO, xP] at hc3
    refine AMx.skip ?_
    refine gS [(7, CE.call [] [] (AV.tup [TV.agg [.s (slO (((askS (List.getD t (lock).toNat ([], [])) w m).1).1)), .s (slO (((askS (List.getD t (lock).toNat ([], [])) w m).1).2))], tc (bo ((askS (List.getD t (lock).toNat ([], [])) w m).2.1)), tc (i6 ((askS (List.getD t (lock).toNat ([], [])) w m).2.2))]) [])] [(0 : Int) ≤ lock, lock < List.length t, Spec Try.prog 38 [TV.agg [.s (slO ((List.getD t (lock).toNat ([], [])).1)), .s (slO ((List.getD t (lock).toNat ([], [])).2))], tc (i6 w), tc (u8 m)] (ofH []) (AV.tup [TV.agg [.s (slO (((askS (List.getD t (lock).toNat ([], [])) w m).1).1)), .s (slO (((askS (List.getD t (lock).toNat ([], [])) w m).1).2))], tc (bo ((askS (List.getD t (lock).toNat ([], [])) w m).2.1)), tc (i6 ((askS (List.getD t (lock).toNat ([], [])) w m).2.2))]) (ofH [])] 77 [(2, vc (i6 lock)), (4, vp 4 0), (8, vp 8 0), (12, vp 12 0), (13, vc (bo ((askS (List.getD t (lock).toNat ([], [])) w m).2.1))), (14, vc (i6 ((askS (List.getD t (lock).toNat ([], [])) w m).2.2)))] [(4, AObj.row [.s (slT t)]), (8, AObj.row [.s (SC.nilsl)]), (12, AObj.row [.s (slO (((askS (List.getD t (lock).toNat ([], [])) w m).1).1)), .s (slO (((askS (List.getD t (lock).toNat ([], [])) w m).1).2))])] ⟨(by first | omega | (have hl := hg.1; have hh := held_len t w t.length; omega)), (by first | omega | (have hl := hg.1; have hh := held_len t w t.length; omega)), (RAsk_c (List.getD t (lock).toNat ([], [])) w m (by exact (good_at hg (by omega)).1) (by have hz := (good_at hg (k := lock) (by omega)).2; unfold sizeS at hz; omega))⟩ ?_
    refine gS [(3, CE.call [] [] (AV.t (TV.agg [.s (slT (withS t lock ((askS (List.getD t (lock).toNat ([], [])) w m).1)))])) [])] [Spec Try.prog 33 [TV.agg [.s (slT t)], tc (i6 lock), TV.agg [.s (slO (((askS (List.getD t (lock).toNat ([], [])) w m).1).1)), .s (slO (((askS (List.getD t (lock).toNat ([], [])) w m).1).2))]] (ofH []) (AV.t (TV.agg [.s (slT (withS t lock ((askS (List.getD t (lock).toNat ([], [])) w m).1)))])) (ofH [])] 77 [(8, vp 8 0), (9, vc (bo ((askS (List.getD t (lock).toNat ([], [])) w m).2.1))), (10, vc (i6 ((askS (List.getD t (lock).toNat ([], [])) w m).2.2)))] [(8, AObj.row [.s (slT (withS t lock ((askS (List.getD t (lock).toNat ([], [])) w m).1)))])] (RWith_c t lock ((askS (List.getD t (lock).toNat ([], [])) w m).1) (by first | omega | (have hl := hg.1; have hh := held_len t w t.length; omega)) (by first | omega | (have hl := hg.1; have hh := held_len t w t.length; omega))) ?_
    exact gT (AV.tup [TV.agg [.s (slT (withS t lock ((askS (List.getD t (lock).toNat ([], [])) w m).1)))], tc (bo ((askS (List.getD t (lock).toNat ([], [])) w m).2.1)), tc (i6 ((askS (List.getD t (lock).toNat ([], [])) w m).2.2))]) (by rw [show askT t w lock m = (withS t lock ((askS (List.getD t (lock).toNat ([], [])) w m).1), (askS (List.getD t (lock).toNat ([], [])) w m).2.1, (askS (List.getD t (lock).toNat ([], [])) w m).2.2) from ask_4 (has_iff.2 (by omega)) (by omega) (late_no (by omega))])

theorem f19_body : Try.f19.body = some (.seq (.region 0 (rg Try.f19 0) false) (.seq (.region 1 (rg Try.f19 1) false) (.seq (.seq (.region 2 (rg Try.f19 2) false) (.block 0 (.loop (.seq (.region 3 (rg Try.f19 3) false) (.seq (.cond (.tmp 10) (.skip) (.exit 0)) (.seq (.block 1 (.seq (.region 4 (rg Try.f19 4) false) (.region 5 (rg Try.f19 5) false))) (.region 6 (rg Try.f19 6) false))))))) (.seq (.region 7 (rg Try.f19 7) false) (.seq (.region 8 (rg Try.f19 8) false) (.ret)))))) := by kernel_rfl

set_option maxRecDepth 100000 in
set_option maxHeartbeats 8000000 in
theorem Blocked_c (t : Tab) (n : Nat) (hg : GoodT n t) (hn : n ≤ 800) : Pure Try.prog 19 [TV.agg [.s (slT t)]] (vc (slI (blockedS t))) := by
 refine Pure.of_body Try.func19 f19_body (by kernel_rfl) Try.ntmps19 (by kernel_rfl) (by kernel_rfl) ?_
 refine gS [] [] 22 [(1, vp 1 0)] [(1, AObj.row [.s (slT t)])] trivial ?_
 refine gS [] [] 22 [(1, vp 1 0), (3, vc (SC.nilsl))] [(1, AObj.row [.s (slT t)])] trivial ?_
 refine gQ ?_
 refine gS [] [] 22 [(3, vc (SC.nilsl)), (7, vc (slT t)), (8, vc (i6 (List.length t : Int))), (9, vc (i6 0))] [] trivial ?_
 refine AMx.block ?_
 refine AMx.ent (s' := AS.lst 22 [(3, vo 3), (7, vc (slT t)), (8, vc (i6 (List.length t : Int))), (9, vc (i6 0))] [(3, AObj.grow 3 1 Int 0 rowI [])]) (ent_adopt (t := 3) (d := 3) 3 1 Int 0 rowI (by kernel_rfl) (by kernel_rfl) (by kernel_rfl) (by kernel_rfl)) ?_
 refine AMx.ent (s' := AS.lst 22 [(3, vo 3), (7, vc (slT t)), (8, vc (i6 (List.length t : Int))), (9, vc (i6 0))] [(3, AObj.grow 3 1 Int 0 rowI [])]) (ent_proj [3, 7, 8, 9] [3]) ?_
 refine AMx.loop (fun mm ss => ∃ (k : Nat), (k ≤ t.length) ∧ mm = t.length - k ∧ ss = AS.lst 22 [(3, vo 3), (7, vc (slT t)), (8, vc (i6 (List.length t : Int))), (9, vc (i6 (k : Int)))] [(3, AObj.grow 3 1 Int 0 rowI (rowsS (List.take k t)))]) ⟨0, ?_, rfl, ?_⟩ ?_
 · omega
 · rfl
 rintro mm ss ⟨k, hI, rfl, rfl⟩
 refine gS [] [] 22 [(3, vo 3), (7, vc (slT t)), (8, vc (i6 (List.length t : Int))), (9, vc (i6 (k : Int))), (10, vc (bo (decide ((k : Int) < (List.length t : Int)))))] [(3, AObj.grow 3 1 Int 0 rowI (rowsS (List.take k t)))] trivial ?_
 refine gQ ?_
 refine gC ((k : Int) < (List.length t : Int)) (fun hc1 => ?_) fun hc1 => ?_
 ·
  refine AMx.skip ?_
  refine gQ ?_
  refine AMx.block ?_
  refine gS [] [(0 : Int) ≤ (k : Int), (k : Int) < List.length t] 22 [(3, vo 3), (5, vp 5 0), (7, vc (slT t)), (8, vc (i6 (List.length t : Int))), (9, vc (i6 (k : Int)))] [(3, AObj.grow 3 1 Int 0 rowI (rowsS (List.take k t))), (5, AObj.row [.s (slO ((List.getD t k ([], [])).1)), .s (slO ((List.getD t k ([], [])).2))])] ⟨(by first | omega | (have hr := rows_len hg k hI; have hl := hg.1; have hm : k * n ≤ 100 * 800 := Nat.mul_le_mul (by omega) hn; first | omega | (rw [risen_len]; omega))), (show (k : Int) < List.length t from (by first | omega | (have hr := rows_len hg k hI; have hl := hg.1; have hm : k * n ≤ 100 * 800 := Nat.mul_le_mul (by omega) hn; first | omega | (rw [risen_len]; omega))))⟩ ?_
  refine gR [(2, CE.call [] [] (vc (slI (namesS (List.getD t k ([], [])).2))) []), (3, CE.obj (AObj.grow 3 1 Int 0 rowI ((rowsS (List.take k t)) ++ (namesS (List.getD t k ([], [])).2))))] [Spec Try.prog 39 [TV.agg [.s (slO ((List.getD t k ([], [])).1)), .s (slO ((List.getD t k ([], [])).2))]] (ofH []) (vc (slI (namesS (List.getD t k ([], [])).2))) (ofH []), AppC (flat 1 rowI (namesS (List.getD t k ([], [])).2)) (List.length (namesS (List.getD t k ([], [])).2 : List Int)) 8 (AObj.grow 3 1 Int 0 rowI (rowsS (List.take k t))) (AObj.grow 3 1 Int 0 rowI ((rowsS (List.take k t)) ++ (namesS (List.getD t k ([], [])).2)))] 22 [(3, vo 16), (7, vc (slT t)), (8, vc (i6 (List.length t : Int))), (9, vc (i6 (k : Int)))] [(16, AObj.grow 3 1 Int 0 rowI ((rowsS (List.take k t)) ++ (namesS (List.getD t k ([], [])).2)))] ⟨(Row_c (List.getD t k ([], [])) (by have hz := (hg.2 _ (AL.Lib.getD_mem ([], []) t k (by omega))).2; unfold sizeS at hz; omega)), (⟨_, rfl, rfl, rfl, by have hr := rows_len hg k hI; have hz := (hg.2 _ (AL.Lib.getD_mem ([], []) t k (by omega))).2; unfold sizeS at hz; have hl := hg.1; have hm : k * n ≤ 100 * 800 := Nat.mul_le_mul (by omega) hn; simp only [names_len]; omega, by have hr := rows_len hg k hI; have hz := (hg.2 _ (AL.Lib.getD_mem ([], []) t k (by omega))).2; unfold sizeS at hz; have hl := hg.1; have hm : k * n ≤ 100 * 800 := Nat.mul_le_mul (by omega) hn; simp only [maxLen, names_len]; omega⟩)⟩ ?_
  refine AMx.blk ?_
  refine gR [] [InR .i64 ((k : Int) + 1)] 22 [(3, vo 16), (7, vc (slT t)), (8, vc (i6 (List.length t : Int))), (9, vc (i6 ((k : Int) + 1)))] [(16, AObj.grow 3 1 Int 0 rowI ((rowsS (List.take k t)) ++ (namesS (List.getD t k ([], [])).2)))] (show InR .i64 ((k : Int) + 1) from (inR64 (by first | omega | (have hr := rows_len hg k hI; have hl := hg.1; have hm : k * n ≤ 100 * 800 := Nat.mul_le_mul (by omega) hn; first | omega | (rw [risen_len]; omega))) (by first | omega | (have hr := rows_len hg k hI; have hl := hg.1; have hm : k * n ≤ 100 * 800 := Nat.mul_le_mul (by omega) hn; first | omega | (rw [risen_len]; omega))))) ?_
  refine AMx.ent_inv (s' := AS.lst 22 [(3, vo 3), (7, vc (slT t)), (8, vc (i6 (List.length t : Int))), (9, vc (i6 ((k : Int) + 1)))] [(3, AObj.grow 3 1 Int 0 rowI ((rowsS (List.take k t)) ++ (namesS (List.getD t k ([], [])).2)))]) (ent_swap 16 3 (by kernel_rfl) (by kernel_rfl)) ?_
  refine AMx.ent_inv (s' := AS.lst 22 [(3, vo 3), (7, vc (slT t)), (8, vc (i6 (List.length t : Int))), (9, vc (i6 ((k : Int) + 1)))] [(3, AObj.grow 3 1 Int 0 rowI ((rowsS (List.take k t)) ++ (namesS (List.getD t k ([], [])).2)))]) (ent_proj [3, 7, 8, 9] [3]) ?_
  refine AMx.inv ⟨_, ?_, k + 1, ?_, rfl, ?_⟩
  rotate_left
  · omega
  · rw [← rows_step t k (by omega)]; rfl
  · omega
 ·
  refine AMx.exit ?_
  refine AMx.code_exit ?_
  refine AMx.inv_exit ?_
  refine AMx.blk_exit ?_
  refine gS [(1, CE.call [] [3] (AV.tup []) [(3, AObj.grow 3 1 Int 0 rowI (risen (rowsS (List.take k t))))])] [Spec Try.prog 40 [TV.c (.own 3)] (ofH [(3, AObj.grow 3 1 Int 0 rowI (rowsS (List.take k t)))]) (AV.tup []) (ofH [(3, AObj.grow 3 1 Int 0 rowI (risen (rowsS (List.take k t))))])] 22 [(3, vo 3)] [(3, AObj.grow 3 1 Int 0 rowI (risen (rowsS (List.take k t))))] (Sort_c (rowsS (List.take k t)) (by first | omega | (have hr := rows_len hg k hI; have hl := hg.1; have hm : k * n ≤ 100 * 800 := Nat.mul_le_mul (by omega) hn; first | omega | (rw [risen_len]; omega))) 3) ?_
  refine gS [(1, CE.call [] [3] (vo 21) [(21, AObj.grow 3 1 Int 0 rowI (Go.Lib.compact (risen (rowsS (List.take k t)))))])] [Spec Try.prog 41 [TV.c (.own 3)] (ofH [(3, AObj.grow 3 1 Int 0 rowI (risen (rowsS (List.take k t))))]) (vo 21) (ofH [(21, AObj.grow 3 1 Int 0 rowI (Go.Lib.compact (risen (rowsS (List.take k t)))))])] 22 [(2, vo 21)] [(21, AObj.grow 3 1 Int 0 rowI (Go.Lib.compact (risen (rowsS (List.take k t)))))] (Compact_c (risen (rowsS (List.take k t))) (by first | omega | (have hr := rows_len hg k hI; have hl := hg.1; have hm : k * n ≤ 100 * 800 := Nat.mul_le_mul (by omega) hn; first | omega | (rw [risen_len]; omega))) 3 21 (by decide)) ?_
  refine AMx.ent (s' := AS.lst 22 [(2, vc (slI (Go.Lib.compact (risen (rowsS (List.take k t))))))] []) (ent_freeze (id := 21) (T := 3) (by kernel_rfl)) ?_
  exact gT (vc (slI (Go.Lib.compact (risen (rowsS (List.take k t)))))) (by rw [compact_risen, List.take_of_length_le (by omega)]; rfl)

end AL.Locks
