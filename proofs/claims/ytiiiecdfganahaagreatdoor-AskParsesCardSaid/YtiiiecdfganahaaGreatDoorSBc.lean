/- The proof library and the contracts that the law reaches: joined by a program. No condition. -/
import Derived.Test.YtiiiecdfganahaaGreatDoorSBb
namespace AL.Rows
open Go Go.Proofs AL
set_option linter.unusedVariables false
set_option linter.unusedSimpArgs false
theorem f87_body : Tryz.f87.body = some (.seq (.region 0 (rg Tryz.f87 0) false) (.seq (.seq (.region 1 (rg Tryz.f87 1) false) (.cond (.tmp 11) (.seq (.region 2 (rg Tryz.f87 2) false) (.ret)) (.skip))) (.seq (.seq (.region 3 (rg Tryz.f87 3) false) (.block 0 (.loop (.seq (.region 4 (rg Tryz.f87 4) false) (.seq (.cond (.tmp 15) (.skip) (.exit 0)) (.block 1 (.seq (.region 5 (rg Tryz.f87 5) false) (.seq (.region 6 (rg Tryz.f87 6) false) (.cond (.tmp 30) (.seq (.region 7 (rg Tryz.f87 7) false) (.ret)) (.skip)))))))))) (.seq (.region 8 (rg Tryz.f87 8) false) (.ret))))) := by kernel_rfl
set_option maxRecDepth 100000 in
set_option maxHeartbeats 8000000 in
theorem named_c (s : Bytes) : Pure Tryz.prog 87 [tc (st s)] (vc (bo (namedS s))) := by
 refine Pure.of_body Tryz.func87 f87_body (by kernel_rfl) Tryz.ntmps87 (by kernel_rfl) (by kernel_rfl) ?_
 refine gS [] [] 31 [(0, vc (st s))] [] trivial ?_
 refine gQ ?_
 refine gS [] [((decide (s = [])) = false) → allP [], ((decide (s = [])) = false) → allP [(decide (s = [])) = false], ((decide (s = [])) = false) → allP [(decide (s = [])) = false], (decide (s = [])) = false → allP [(decide (s = [])) = false]] 31 [(0, vc (st s)), (11, vc (bo ((decide (s = [])) || (decide (8 < (List.length s : Int))))))] [] ⟨(fun _ => trivial), (fun hp => hp), (fun hp => hp), (fun hp2 => (by first | exact hp2 | exact ⟨hp, hp2⟩))⟩ ?_
 refine gB (((decide (s = [])) || (decide (8 < (List.length s : Int))))) (fun hc1 => ?_) fun hc1 => ?_
 ·
  try simp only [xT, xF, xO, xP] at hc1
  refine gS [] [] 31 [(2, vc (bo false))] [] trivial ?_
  exact gT (vc (bo false)) (by first | rw [nm_bad (by omega) (by assumption)] | rw [named_size (by rcases hc1 with h | h; exact .inl h; exact .inr (by omega))])
 ·
  try simp only [xT, xF, xO, xP] at hc1
  refine AMx.skip ?_
  refine gQ ?_
  refine gS [] [] 31 [(13, vp 13 0)] [(13, AObj.iter s 0)] trivial ?_
  refine AMx.block ?_
  refine AMx.ent (s' := AS.lst 31 [(13, vp 13 0)] [(13, AObj.iter s 0)]) (ent_proj [13] [13]) ?_
  refine AMx.loop (fun mm ss => ∃ (pos : Nat), (pos ≤ s.length ∧ LeftNm s pos) ∧ mm = s.length - pos ∧ ss = AS.lst 31 [(13, vp 13 0)] [(13, AObj.iter s pos)]) ⟨0, ?_, rfl, ?_⟩ ?_
  · exact ⟨Nat.zero_le _, nm_0 s⟩
  · rfl
  rintro mm ss ⟨pos, ⟨hI, hN⟩, rfl, rfl⟩
  refine gQ ?_
  rcases Nat.lt_or_ge pos (List.length s) with hn1 | hn1
  ·
   have hd1 := AL.Rune.dec_ok hn1
   refine gR [(0, CE.str [])] [pos < List.length s, ((pos : Nat) : Int) ≤ 9223372036854775807] 31 [(13, vp 13 0), (14, AV.tup [tc (bo true), tc (i6 (pos : Int)), tc (i3 ((decS s pos).1 : Int))]), (15, vc (bo true))] [(13, AObj.iter s (pos + (decS s pos).2))] ⟨(show pos < List.length s from (by omega)), (show ((pos : Nat) : Int) ≤ 9223372036854775807 from (by omega))⟩ ?_
   refine gQ ?_
   refine gBt ?_
   refine AMx.skip ?_
   refine AMx.block ?_
   refine gS [] [] 31 [(4, vc (i3 ((decS s pos).1 : Int))), (13, vp 13 0)] [(13, AObj.iter s (pos + (decS s pos).2))] trivial ?_
   refine gS [] [((decide (((decS s pos).1 : Int) < 97)) = false) → allP [], ((decide (((decS s pos).1 : Int) < 97)) = false) → allP [(decide (((decS s pos).1 : Int) < 97)) = false], (decide (((decS s pos).1 : Int) < 97)) = false → allP [(decide (((decS s pos).1 : Int) < 97)) = false], (((decide (((decS s pos).1 : Int) < 97)) || (decide (122 < ((decS s pos).1 : Int)))) = true) → allP [], (((decide (((decS s pos).1 : Int) < 97)) || (decide (122 < ((decS s pos).1 : Int)))) = true) → allP [((decide (((decS s pos).1 : Int) < 97)) || (decide (122 < ((decS s pos).1 : Int)))) = true], (((decide (((decS s pos).1 : Int) < 97)) || (decide (122 < ((decS s pos).1 : Int)))) = true) → allP [((decide (((decS s pos).1 : Int) < 97)) || (decide (122 < ((decS s pos).1 : Int)))) = true], ((((decide (((decS s pos).1 : Int) < 97)) || (decide (122 < ((decS s pos).1 : Int)))) = true) ∧ (decide (((decS s pos).1 : Int) < 48)) = false) → allP [], ((((decide (((decS s pos).1 : Int) < 97)) || (decide (122 < ((decS s pos).1 : Int)))) = true) ∧ (decide (((decS s pos).1 : Int) < 48)) = false) → allP [(((decide (((decS s pos).1 : Int) < 97)) || (decide (122 < ((decS s pos).1 : Int)))) = true) ∧ (decide (((decS s pos).1 : Int) < 48)) = false], (((decide (((decS s pos).1 : Int) < 97)) || (decide (122 < ((decS s pos).1 : Int)))) = true) → allP [((decide (((decS s pos).1 : Int) < 97)) || (decide (122 < ((decS s pos).1 : Int)))) = true, (decide (((decS s pos).1 : Int) < 48)) = false → allP [(((decide (((decS s pos).1 : Int) < 97)) || (decide (122 < ((decS s pos).1 : Int)))) = true) ∧ (decide (((decS s pos).1 : Int) < 48)) = false]], ((decide (((decS s pos).1 : Int) < 97)) || (decide (122 < ((decS s pos).1 : Int)))) = true → allP [((decide (((decS s pos).1 : Int) < 97)) || (decide (122 < ((decS s pos).1 : Int)))) = true]] 31 [(13, vp 13 0), (30, vc (bo (((decide (((decS s pos).1 : Int) < 97)) || (decide (122 < ((decS s pos).1 : Int)))) && ((decide (((decS s pos).1 : Int) < 48)) || (decide (57 < ((decS s pos).1 : Int)))))))] [(13, AObj.iter s (pos + (decS s pos).2))] ⟨(fun _ => trivial), (fun hp => hp), (fun hp2 => (by first | exact hp2 | exact ⟨hp, hp2⟩)), (fun _ => trivial), (fun hp => hp), (fun hp => hp), (fun _ => trivial), (fun hp => hp), (fun hp => by have hq := hp; (try simp only [decide_eq_true_eq, decide_eq_false_iff_not, Bool.and_eq_true, Bool.or_eq_true, Bool.and_eq_false_iff, Bool.or_eq_false_iff, Bool.not_eq_true', Bool.not_eq_false', Bool.not_eq_true, Bool.not_eq_false] at hq); exact ⟨hp, (fun hp2 => (by first | exact hp2 | exact ⟨hp, hp2⟩))⟩), (fun hp2 => (by first | exact hp2 | exact ⟨hp, hp2⟩))⟩ ?_
   refine gB ((((decide (((decS s pos).1 : Int) < 97)) || (decide (122 < ((decS s pos).1 : Int)))) && ((decide (((decS s pos).1 : Int) < 48)) || (decide (57 < ((decS s pos).1 : Int)))))) (fun hc3 => ?_) fun hc3 => ?_
   ·
    try simp only [xT, xF, xA, xB, xO, xP] at hc3
    refine gS [] [] 31 [(2, vc (bo false))] [] trivial ?_
    exact gT (vc (bo false)) (by first | rw [nm_bad (by omega) (by assumption)] | rw [named_size (by rcases hc1 with h | h; exact .inl h; exact .inr (by omega))])
   ·
    try simp only [xT, xF, xA, xB, xO, xP] at hc3
    refine AMx.skip ?_
    refine AMx.blk ?_
    refine AMx.ent_inv (s' := AS.lst 31 [(13, vp 13 0)] [(13, AObj.iter s (pos + (decS s pos).2))]) (ent_proj [13] [13]) ?_
    refine AMx.inv ⟨_, ?_, pos + (decS s pos).2, ?_, rfl, ?_⟩
    rotate_left
    · exact ⟨by omega, nm_step (by omega) hN (by omega)⟩
    · rfl
    · omega
  ·
   refine gR [] [List.length s ≤ pos] 31 [(13, vp 13 0), (14, AV.tup [tc (bo false)]), (15, vc (bo false))] [(13, AObj.iter s pos)] (show List.length s ≤ pos from (by omega)) ?_
   refine gQ ?_
   refine gBf ?_
   refine AMx.exit ?_
   refine AMx.code_exit ?_
   refine AMx.inv_exit ?_
   refine AMx.blk_exit ?_
   refine gS [] [] 31 [(2, vc (bo true))] [] trivial ?_
   exact gT (vc (bo true)) (by rw [nm_end (by omega) hN hc1.1 (by omega)])
theorem f50_body : Tryz.f50.body = some (.seq (.region 0 (rg Tryz.f50 0) false) (.seq (.seq (.region 1 (rg Tryz.f50 1) false) (.cond (.tmp 11) (.seq (.region 2 (rg Tryz.f50 2) false) (.ret)) (.skip))) (.seq (.seq (.region 3 (rg Tryz.f50 3) false) (.block 0 (.loop (.seq (.seq (.region 4 (rg Tryz.f50 4) false) (.cond (.tmp 15) (.skip) (.exit 0))) (.seq (.block 1 (.seq (.region 6 (rg Tryz.f50 6) false) (.cond (.tmp 39) (.seq (.region 7 (rg Tryz.f50 7) false) (.ret)) (.skip)))) (.region 5 (rg Tryz.f50 5) false)))))) (.seq (.region 8 (rg Tryz.f50 8) false) (.ret))))) := by kernel_rfl
set_option maxRecDepth 100000 in
set_option maxHeartbeats 8000000 in
theorem Name_c (s : Bytes) : Pure Tryz.prog 50 [tc (st s)] (vc (bo (namedS s))) := by
 refine Pure.of_body Tryz.func50 f50_body (by kernel_rfl) Tryz.ntmps50 (by kernel_rfl) (by kernel_rfl) ?_
 refine gS [] [] 40 [(0, vc (st s))] [] trivial ?_
 refine gQ ?_
 refine gS [] [((decide ((List.length s : Int) < 1)) = false) → allP [], ((decide ((List.length s : Int) < 1)) = false) → allP [(decide ((List.length s : Int) < 1)) = false], ((decide ((List.length s : Int) < 1)) = false) → allP [(decide ((List.length s : Int) < 1)) = false], (decide ((List.length s : Int) < 1)) = false → allP [(decide ((List.length s : Int) < 1)) = false]] 40 [(0, vc (st s)), (11, vc (bo ((decide ((List.length s : Int) < 1)) || (decide (8 < (List.length s : Int))))))] [] ⟨(fun _ => trivial), (fun hp => hp), (fun hp => hp), (fun hp2 => (by first | exact hp2 | exact ⟨hp, hp2⟩))⟩ ?_
 refine gB (((decide ((List.length s : Int) < 1)) || (decide (8 < (List.length s : Int))))) (fun hc1 => ?_) fun hc1 => ?_
 ·
  try simp only [xT, xF, xO, xP] at hc1
  refine gS [] [] 40 [(2, vc (bo false))] [] trivial ?_
  exact gT (vc (bo false)) (by first | rw [nm_not (pos := i) (by omega) (by rw [Bool.eq_false_iff, Ne, nameB_iff]; omega)] | rw [named_size (by rcases hc1 with h | h; exact .inl (List.eq_nil_of_length_eq_zero (by omega)); exact .inr (by omega))])
 ·
  try simp only [xT, xF, xO, xP] at hc1
  refine AMx.skip ?_
  refine gQ ?_
  refine gS [] [] 40 [(0, vc (st s)), (3, vc (i6 0))] [] trivial ?_
  refine AMx.block ?_
  refine AMx.ent (s' := AS.lst 40 [(0, vc (st s)), (3, vc (i6 0))] []) (ent_proj [0, 3] []) ?_
  refine AMx.loop (fun mm ss => ∃ (i : Nat), (i ≤ s.length ∧ LeftNm s i) ∧ mm = s.length - i ∧ ss = AS.lst 40 [(0, vc (st s)), (3, vc (i6 (i : Int)))] []) ⟨0, ?_, rfl, ?_⟩ ?_
  · exact ⟨Nat.zero_le _, nm_0 s⟩
  · rfl
  rintro mm ss ⟨i, ⟨hI, hN⟩, rfl, rfl⟩
  refine gQ ?_
  refine gS [] [] 40 [(0, vc (st s)), (3, vc (i6 (i : Int))), (15, vc (bo (decide ((i : Int) < (List.length s : Int)))))] [] trivial ?_
  refine gC ((i : Int) < (List.length s : Int)) (fun hc2 => ?_) fun hc2 => ?_
  ·
   refine AMx.skip ?_
   refine gQ ?_
   refine AMx.block ?_
   refine gS [] [(0 : Int) ≤ (i : Int), (i : Int) < List.length s, ((decide (((List.getD s i 0).toNat : Int) < 97)) = false) → allP [], ((decide (((List.getD s i 0).toNat : Int) < 97)) = false) → allP [], ((decide (((List.getD s i 0).toNat : Int) < 97)) = false) → allP [(decide (((List.getD s i 0).toNat : Int) < 97)) = false, (decide (((List.getD s i 0).toNat : Int) < 97)) = false, (0 : Int) ≤ (i : Int), (i : Int) < List.length s], ((decide (((List.getD s i 0).toNat : Int) < 97)) = false) → allP [(decide (((List.getD s i 0).toNat : Int) < 97)) = false], (decide (((List.getD s i 0).toNat : Int) < 97)) = false → allP [(decide (((List.getD s i 0).toNat : Int) < 97)) = false], (((decide (((List.getD s i 0).toNat : Int) < 97)) || (decide (122 < ((List.getD s i 0).toNat : Int)))) = true) → allP [], (((decide (((List.getD s i 0).toNat : Int) < 97)) || (decide (122 < ((List.getD s i 0).toNat : Int)))) = true) → allP [], (((decide (((List.getD s i 0).toNat : Int) < 97)) || (decide (122 < ((List.getD s i 0).toNat : Int)))) = true) → allP [((decide (((List.getD s i 0).toNat : Int) < 97)) || (decide (122 < ((List.getD s i 0).toNat : Int)))) = true, ((decide (((List.getD s i 0).toNat : Int) < 97)) || (decide (122 < ((List.getD s i 0).toNat : Int)))) = true, (0 : Int) ≤ (i : Int), (i : Int) < List.length s], (((decide (((List.getD s i 0).toNat : Int) < 97)) || (decide (122 < ((List.getD s i 0).toNat : Int)))) = true) → allP [((decide (((List.getD s i 0).toNat : Int) < 97)) || (decide (122 < ((List.getD s i 0).toNat : Int)))) = true], (((decide (((List.getD s i 0).toNat : Int) < 97)) || (decide (122 < ((List.getD s i 0).toNat : Int)))) = true) → allP [((decide (((List.getD s i 0).toNat : Int) < 97)) || (decide (122 < ((List.getD s i 0).toNat : Int)))) = true], ((((decide (((List.getD s i 0).toNat : Int) < 97)) || (decide (122 < ((List.getD s i 0).toNat : Int)))) = true) ∧ (decide (((List.getD s i 0).toNat : Int) < 48)) = false) → allP [], ((((decide (((List.getD s i 0).toNat : Int) < 97)) || (decide (122 < ((List.getD s i 0).toNat : Int)))) = true) ∧ (decide (((List.getD s i 0).toNat : Int) < 48)) = false) → allP [], ((((decide (((List.getD s i 0).toNat : Int) < 97)) || (decide (122 < ((List.getD s i 0).toNat : Int)))) = true) ∧ (decide (((List.getD s i 0).toNat : Int) < 48)) = false) → allP [(((decide (((List.getD s i 0).toNat : Int) < 97)) || (decide (122 < ((List.getD s i 0).toNat : Int)))) = true) ∧ (decide (((List.getD s i 0).toNat : Int) < 48)) = false, (((decide (((List.getD s i 0).toNat : Int) < 97)) || (decide (122 < ((List.getD s i 0).toNat : Int)))) = true) ∧ (decide (((List.getD s i 0).toNat : Int) < 48)) = false, (0 : Int) ≤ (i : Int), (i : Int) < List.length s], ((((decide (((List.getD s i 0).toNat : Int) < 97)) || (decide (122 < ((List.getD s i 0).toNat : Int)))) = true) ∧ (decide (((List.getD s i 0).toNat : Int) < 48)) = false) → allP [(((decide (((List.getD s i 0).toNat : Int) < 97)) || (decide (122 < ((List.getD s i 0).toNat : Int)))) = true) ∧ (decide (((List.getD s i 0).toNat : Int) < 48)) = false], (((decide (((List.getD s i 0).toNat : Int) < 97)) || (decide (122 < ((List.getD s i 0).toNat : Int)))) = true) → allP [((decide (((List.getD s i 0).toNat : Int) < 97)) || (decide (122 < ((List.getD s i 0).toNat : Int)))) = true, (decide (((List.getD s i 0).toNat : Int) < 48)) = false → allP [(((decide (((List.getD s i 0).toNat : Int) < 97)) || (decide (122 < ((List.getD s i 0).toNat : Int)))) = true) ∧ (decide (((List.getD s i 0).toNat : Int) < 48)) = false]], ((decide (((List.getD s i 0).toNat : Int) < 97)) || (decide (122 < ((List.getD s i 0).toNat : Int)))) = true → allP [((decide (((List.getD s i 0).toNat : Int) < 97)) || (decide (122 < ((List.getD s i 0).toNat : Int)))) = true]] 40 [(0, vc (st s)), (3, vc (i6 (i : Int))), (39, vc (bo (((decide (((List.getD s i 0).toNat : Int) < 97)) || (decide (122 < ((List.getD s i 0).toNat : Int)))) && ((decide (((List.getD s i 0).toNat : Int) < 48)) || (decide (57 < ((List.getD s i 0).toNat : Int)))))))] [] ⟨(show (0 : Int) ≤ (i : Int) from (by omega)), (show (i : Int) < List.length s from (by omega)), (fun _ => trivial), (fun _ => trivial), (fun hp => by have hq := hp; (try simp only [decide_eq_true_eq, decide_eq_false_iff_not, Bool.and_eq_true, Bool.or_eq_true, Bool.and_eq_false_iff, Bool.or_eq_false_iff, Bool.not_eq_true', Bool.not_eq_false', Bool.not_eq_true, Bool.not_eq_false] at hq); exact ⟨hp, hp, (show (0 : Int) ≤ (i : Int) from (by omega)), (show (i : Int) < List.length s from (by omega))⟩), (fun hp => hp), (fun hp2 => (by first | exact hp2 | exact ⟨hp, hp2⟩)), (fun _ => trivial), (fun _ => trivial), (fun hp => by have hq := hp; (try simp only [decide_eq_true_eq, decide_eq_false_iff_not, Bool.and_eq_true, Bool.or_eq_true, Bool.and_eq_false_iff, Bool.or_eq_false_iff, Bool.not_eq_true', Bool.not_eq_false', Bool.not_eq_true, Bool.not_eq_false] at hq); exact ⟨hp, hp, (show (0 : Int) ≤ (i : Int) from (by omega)), (show (i : Int) < List.length s from (by omega))⟩), (fun hp => hp), (fun hp => hp), (fun _ => trivial), (fun _ => trivial), (fun hp => by have hq := hp; (try simp only [decide_eq_true_eq, decide_eq_false_iff_not, Bool.and_eq_true, Bool.or_eq_true, Bool.and_eq_false_iff, Bool.or_eq_false_iff, Bool.not_eq_true', Bool.not_eq_false', Bool.not_eq_true, Bool.not_eq_false] at hq); exact ⟨hp, hp, (show (0 : Int) ≤ (i : Int) from (by omega)), (show (i : Int) < List.length s from (by omega))⟩), (fun hp => hp), (fun hp => by have hq := hp; (try simp only [decide_eq_true_eq, decide_eq_false_iff_not, Bool.and_eq_true, Bool.or_eq_true, Bool.and_eq_false_iff, Bool.or_eq_false_iff, Bool.not_eq_true', Bool.not_eq_false', Bool.not_eq_true, Bool.not_eq_false] at hq); exact ⟨hp, (fun hp2 => (by first | exact hp2 | exact ⟨hp, hp2⟩))⟩), (fun hp2 => (by first | exact hp2 | exact ⟨hp, hp2⟩))⟩ ?_
   refine gB ((((decide (((List.getD s i 0).toNat : Int) < 97)) || (decide (122 < ((List.getD s i 0).toNat : Int)))) && ((decide (((List.getD s i 0).toNat : Int) < 48)) || (decide (57 < ((List.getD s i 0).toNat : Int)))))) (fun hc3 => ?_) fun hc3 => ?_
   ·
    try simp only [xT, xF, xA, xB, xO, xP] at hc3
    refine gS [] [] 40 [(2, vc (bo false))] [] trivial ?_
    exact gT (vc (bo false)) (by first | rw [nm_not (pos := i) (by omega) (by rw [Bool.eq_false_iff, Ne, nameB_iff]; omega)] | rw [named_size (by rcases hc1 with h | h; exact .inl (List.eq_nil_of_length_eq_zero (by omega)); exact .inr (by omega))])
   ·
    try simp only [xT, xF, xA, xB, xO, xP] at hc3
    refine AMx.skip ?_
    refine AMx.blk ?_
    refine gR [] [InR .i64 ((i : Int) + 1)] 40 [(0, vc (st s)), (3, vc (i6 ((i : Int) + 1)))] [] (show InR .i64 ((i : Int) + 1) from (inR64 (by omega) (by omega))) ?_
    refine AMx.ent_inv (s' := AS.lst 40 [(0, vc (st s)), (3, vc (i6 ((i : Int) + 1)))] []) (ent_proj [0, 3] []) ?_
    refine AMx.inv ⟨_, ?_, i + 1, ?_, rfl, ?_⟩
    rotate_left
    · exact ⟨by omega, nm_byte (by omega) hN (nameB_iff.2 (by omega))⟩
    · rfl
    · omega
  ·
   refine AMx.exit ?_
   refine AMx.code_exit ?_
   refine AMx.inv_exit ?_
   refine AMx.blk_exit ?_
   refine gS [] [] 40 [(2, vc (bo true))] [] trivial ?_
   exact gT (vc (bo true)) (by rw [nm_end (by omega) hN (fun e => by subst e; simp at hc1) (by omega)])
end AL.Rows
namespace AL.Rows
open Go Go.Proofs AL
set_option linter.unusedVariables false
set_option linter.unusedSimpArgs false
theorem f71_body : Tryz.f71.body = some (.seq (.region 0 (rg Tryz.f71 0) false) (.seq (.region 1 (rg Tryz.f71 1) false) (.seq (.seq (.region 2 (rg Tryz.f71 2) false) (.block 0 (.seq (.region 4 (rg Tryz.f71 4) false) (.cond (.tmp 9) (.region 5 (rg Tryz.f71 5) false) (.seq (.region 6 (rg Tryz.f71 6) false) (.cond (.tmp 18) (.region 7 (rg Tryz.f71 7) false) (.seq (.region 8 (rg Tryz.f71 8) false) (.cond (.tmp 34) (.region 9 (rg Tryz.f71 9) false) (.seq (.seq (.region 10 (rg Tryz.f71 10) false) (.cond (.tmp 42) (.skip) (.region 11 (rg Tryz.f71 11) false))) (.cond (.tmp 42) (.region 12 (rg Tryz.f71 12) false) (.seq (.region 3 (rg Tryz.f71 3) false) (.ret)))))))))))) (.seq (.seq (.region 13 (rg Tryz.f71 13) false) (.cond (.tmp 52) (.seq (.region 14 (rg Tryz.f71 14) false) (.ret)) (.skip))) (.seq (.region 15 (rg Tryz.f71 15) false) (.ret)))))) := by kernel_rfl
set_option maxRecDepth 100000 in
set_option maxHeartbeats 8000000 in
theorem Check_c (k : KeyV) : Pure Tryz.prog 71 [TV.agg [.s (u8 k.1), .s (st k.2.1), .s (i6 k.2.2)]] (vc (i6 (checkK k))) := by
 refine Pure.of_body Tryz.func71 f71_body (by kernel_rfl) Tryz.ntmps71 (by kernel_rfl) (by kernel_rfl) ?_
 refine gS [] [] 53 [(1, vp 1 0)] [(1, AObj.row [.s (u8 k.1), .s (st k.2.1), .s (i6 k.2.2)])] trivial ?_
 refine gS [] [] 53 [(1, vp 1 0), (3, vc (bo (decide (k.2.2 = 0))))] [(1, AObj.row [.s (u8 k.1), .s (st k.2.1), .s (i6 k.2.2)])] trivial ?_
 refine gQ ?_
 refine gS [] [] 53 [(1, vp 1 0), (3, vc (bo (decide (k.2.2 = 0)))), (8, vc (u8 k.1))] [(1, AObj.row [.s (u8 k.1), .s (st k.2.1), .s (i6 k.2.2)])] trivial ?_
 refine AMx.block ?_
 refine gS [] [] 53 [(1, vp 1 0), (3, vc (bo (decide (k.2.2 = 0)))), (8, vc (u8 k.1)), (9, vc (bo (decide (k.1 = 1))))] [(1, AObj.row [.s (u8 k.1), .s (st k.2.1), .s (i6 k.2.2)])] trivial ?_
 refine gC (k.1 = 1) (fun hc1 => ?_) fun hc1 => ?_
 ·
  refine gR [(4, CE.call [] [] (vc (i6 (Route.checkS k.2.1))) [])] [((decide (k.2.2 = 0)) = true) → allP [], ((decide (k.2.2 = 0)) = true) → allP [(decide (k.2.2 = 0)) = true], ((decide (k.2.2 = 0)) = true) → allP [(decide (k.2.2 = 0)) = true, Spec Tryz.prog 45 [tc (st k.2.1)] (ofH []) (vc (i6 (Route.checkS k.2.1))) (ofH [])], ((decide (k.2.2 = 0)) = true) → allP [(decide (k.2.2 = 0)) = true], (decide (k.2.2 = 0)) = true → allP [(decide (k.2.2 = 0)) = true]] 53 [(3, vc (bo ((decide (k.2.2 = 0)) && (decide (Route.checkS k.2.1 = 0)))))] [] ⟨(fun _ => trivial), (fun hp => hp), (fun hp => by have hq := hp; (try simp only [decide_eq_true_eq, decide_eq_false_iff_not, Bool.and_eq_true, Bool.or_eq_true, Bool.and_eq_false_iff, Bool.or_eq_false_iff, Bool.not_eq_true', Bool.not_eq_false', Bool.not_eq_true, Bool.not_eq_false] at hq); exact ⟨hp, (Route.Check_c k.2.1)⟩), (fun hp => hp), (fun hp2 => (by first | exact hp2 | exact ⟨hp, hp2⟩))⟩ ?_
  refine AMx.blk ?_
  refine gQ ?_
  refine gS [] [] 53 [(52, vc (bo (!((decide (k.2.2 = 0)) && (decide (Route.checkS k.2.1 = 0))))))] [] trivial ?_
  refine gB (!((decide (k.2.2 = 0)) && (decide (Route.checkS k.2.1 = 0)))) (fun hc2 => ?_) fun hc2 => ?_
  ·
   try simp only [xT, xF, xA, xB, xN, xM] at hc2
   refine gS [] [] 53 [(2, vc (i6 2))] [] trivial ?_
   exact gT (vc (i6 2)) (by rw [show checkK k = 2 from by unfold checkK MayK; grind])
  ·
   try simp only [xT, xF, xA, xB, xN, xM] at hc2
   refine AMx.skip ?_
   refine gS [] [] 53 [(2, vc (i6 0))] [] trivial ?_
   exact gT (vc (i6 0)) (by rw [show checkK k = 0 from by unfold checkK MayK; grind])
 ·
  refine gS [] [] 53 [(1, vp 1 0), (3, vc (bo (decide (k.2.2 = 0)))), (8, vc (u8 k.1)), (18, vc (bo (decide (k.1 = 2))))] [(1, AObj.row [.s (u8 k.1), .s (st k.2.1), .s (i6 k.2.2)])] trivial ?_
  refine gC (k.1 = 2) (fun hc3 => ?_) fun hc3 => ?_
  ·
   refine gR [(11, CE.call [] [] (vc (i6 (Route.checkS k.2.1))) [])] [((decide (1 ≤ k.2.2)) = true) → allP [], ((decide (1 ≤ k.2.2)) = true) → allP [(decide (1 ≤ k.2.2)) = true], ((decide (1 ≤ k.2.2)) = true) → allP [(decide (1 ≤ k.2.2)) = true], (decide (1 ≤ k.2.2)) = true → allP [(decide (1 ≤ k.2.2)) = true], (((decide (1 ≤ k.2.2)) && (decide (k.2.2 ≤ 30))) = true) → allP [], (((decide (1 ≤ k.2.2)) && (decide (k.2.2 ≤ 30))) = true) → allP [((decide (1 ≤ k.2.2)) && (decide (k.2.2 ≤ 30))) = true], (((decide (1 ≤ k.2.2)) && (decide (k.2.2 ≤ 30))) = true) → allP [((decide (1 ≤ k.2.2)) && (decide (k.2.2 ≤ 30))) = true, Spec Tryz.prog 45 [tc (st k.2.1)] (ofH []) (vc (i6 (Route.checkS k.2.1))) (ofH [])], (((decide (1 ≤ k.2.2)) && (decide (k.2.2 ≤ 30))) = true) → allP [((decide (1 ≤ k.2.2)) && (decide (k.2.2 ≤ 30))) = true], ((decide (1 ≤ k.2.2)) && (decide (k.2.2 ≤ 30))) = true → allP [((decide (1 ≤ k.2.2)) && (decide (k.2.2 ≤ 30))) = true]] 53 [(3, vc (bo (((decide (1 ≤ k.2.2)) && (decide (k.2.2 ≤ 30))) && (decide (Route.checkS k.2.1 = 0)))))] [] ⟨(fun _ => trivial), (fun hp => hp), (fun hp => hp), (fun hp2 => (by first | exact hp2 | exact ⟨hp, hp2⟩)), (fun _ => trivial), (fun hp => hp), (fun hp => by have hq := hp; (try simp only [decide_eq_true_eq, decide_eq_false_iff_not, Bool.and_eq_true, Bool.or_eq_true, Bool.and_eq_false_iff, Bool.or_eq_false_iff, Bool.not_eq_true', Bool.not_eq_false', Bool.not_eq_true, Bool.not_eq_false] at hq); exact ⟨hp, (Route.Check_c k.2.1)⟩), (fun hp => hp), (fun hp2 => (by first | exact hp2 | exact ⟨hp, hp2⟩))⟩ ?_
   refine AMx.blk ?_
   refine gQ ?_
   refine gS [] [] 53 [(52, vc (bo (!(((decide (1 ≤ k.2.2)) && (decide (k.2.2 ≤ 30))) && (decide (Route.checkS k.2.1 = 0))))))] [] trivial ?_
   refine gB (!(((decide (1 ≤ k.2.2)) && (decide (k.2.2 ≤ 30))) && (decide (Route.checkS k.2.1 = 0)))) (fun hc4 => ?_) fun hc4 => ?_
   ·
    try simp only [xT, xF, xA, xB, xN, xM] at hc4
    refine gS [] [] 53 [(2, vc (i6 2))] [] trivial ?_
    exact gT (vc (i6 2)) (by rw [show checkK k = 2 from by unfold checkK MayK; grind])
   ·
    try simp only [xT, xF, xA, xB, xN, xM] at hc4
    refine AMx.skip ?_
    refine gS [] [] 53 [(2, vc (i6 0))] [] trivial ?_
    exact gT (vc (i6 0)) (by rw [show checkK k = 0 from by unfold checkK MayK; grind])
  ·
   refine gS [] [] 53 [(1, vp 1 0), (3, vc (bo (decide (k.2.2 = 0)))), (8, vc (u8 k.1)), (34, vc (bo (decide (k.1 = 3))))] [(1, AObj.row [.s (u8 k.1), .s (st k.2.1), .s (i6 k.2.2)])] trivial ?_
   refine gC (k.1 = 3) (fun hc5 => ?_) fun hc5 => ?_
   ·
    refine gR [(4, CE.call [] [] (vc (bo (namedS k.2.1))) [])] [((decide (k.2.2 = 0)) = true) → allP [], ((decide (k.2.2 = 0)) = true) → allP [(decide (k.2.2 = 0)) = true], ((decide (k.2.2 = 0)) = true) → allP [(decide (k.2.2 = 0)) = true, Spec Tryz.prog 87 [tc (st k.2.1)] (ofH []) (vc (bo (namedS k.2.1))) (ofH [])], (decide (k.2.2 = 0)) = true → allP [(decide (k.2.2 = 0)) = true]] 53 [(3, vc (bo ((decide (k.2.2 = 0)) && (namedS k.2.1))))] [] ⟨(fun _ => trivial), (fun hp => hp), (fun hp => by have hq := hp; (try simp only [decide_eq_true_eq, decide_eq_false_iff_not, Bool.and_eq_true, Bool.or_eq_true, Bool.and_eq_false_iff, Bool.or_eq_false_iff, Bool.not_eq_true', Bool.not_eq_false', Bool.not_eq_true, Bool.not_eq_false] at hq); exact ⟨hp, (named_c k.2.1)⟩), (fun hp2 => (by first | exact hp2 | exact ⟨hp, hp2⟩))⟩ ?_
    refine AMx.blk ?_
    refine gQ ?_
    refine gS [] [] 53 [(52, vc (bo (!((decide (k.2.2 = 0)) && (namedS k.2.1)))))] [] trivial ?_
    refine gB (!((decide (k.2.2 = 0)) && (namedS k.2.1))) (fun hc6 => ?_) fun hc6 => ?_
    ·
     try simp only [xT, xF, xA, xB, xN, xM] at hc6
     refine gS [] [] 53 [(2, vc (i6 2))] [] trivial ?_
     exact gT (vc (i6 2)) (by rw [show checkK k = 2 from by unfold checkK MayK; grind])
    ·
     try simp only [xT, xF, xA, xB, xN, xM] at hc6
     refine AMx.skip ?_
     refine gS [] [] 53 [(2, vc (i6 0))] [] trivial ?_
     exact gT (vc (i6 0)) (by rw [show checkK k = 0 from by unfold checkK MayK; grind])
   ·
    refine gQ ?_
    refine gS [] [] 53 [(1, vp 1 0), (3, vc (bo (decide (k.2.2 = 0)))), (8, vc (u8 k.1)), (42, vc (bo (decide (k.1 = 4))))] [(1, AObj.row [.s (u8 k.1), .s (st k.2.1), .s (i6 k.2.2)])] trivial ?_
    refine gC (k.1 = 4) (fun hc7 => ?_) fun hc7 => ?_
    ·
     refine AMx.skip ?_
     refine gC (k.1 = 4) (fun hc8 => ?_) fun hc8 => ?_
     ·
      refine gR [] [((decide (k.2.2 = 0)) = true) → allP [], ((decide (k.2.2 = 0)) = true) → allP [(decide (k.2.2 = 0)) = true], ((decide (k.2.2 = 0)) = true) → allP [(decide (k.2.2 = 0)) = true], (decide (k.2.2 = 0)) = true → allP [(decide (k.2.2 = 0)) = true]] 53 [(3, vc (bo ((decide (k.2.2 = 0)) && (decide (k.2.1 = [])))))] [] ⟨(fun _ => trivial), (fun hp => hp), (fun hp => hp), (fun hp2 => (by first | exact hp2 | exact ⟨hp, hp2⟩))⟩ ?_
      refine AMx.blk ?_
      refine gQ ?_
      refine gS [] [] 53 [(52, vc (bo (!((decide (k.2.2 = 0)) && (decide (k.2.1 = []))))))] [] trivial ?_
      refine gB (!((decide (k.2.2 = 0)) && (decide (k.2.1 = [])))) (fun hc9 => ?_) fun hc9 => ?_
      ·
       try simp only [xT, xF, xA, xB, xN, xM] at hc9
       refine gS [] [] 53 [(2, vc (i6 2))] [] trivial ?_
       exact gT (vc (i6 2)) (by rw [show checkK k = 2 from by unfold checkK MayK; grind])
      ·
       try simp only [xT, xF, xA, xB, xN, xM] at hc9
       refine AMx.skip ?_
       refine gS [] [] 53 [(2, vc (i6 0))] [] trivial ?_
       exact gT (vc (i6 0)) (by rw [show checkK k = 0 from by unfold checkK MayK; grind])
     ·
      refine gS [] [] 53 [(2, vc (i6 22))] [] trivial ?_
      exact gT (vc (i6 22)) (by rw [show checkK k = 22 from by unfold checkK MayK; grind])
    ·
     refine gR [] [] 53 [(1, vp 1 0), (3, vc (bo (decide (k.2.2 = 0)))), (42, vc (bo (decide (k.1 = 5))))] [(1, AObj.row [.s (u8 k.1), .s (st k.2.1), .s (i6 k.2.2)])] trivial ?_
     refine gC (k.1 = 5) (fun hc10 => ?_) fun hc10 => ?_
     ·
      refine gR [] [((decide (k.2.2 = 0)) = true) → allP [], ((decide (k.2.2 = 0)) = true) → allP [(decide (k.2.2 = 0)) = true], ((decide (k.2.2 = 0)) = true) → allP [(decide (k.2.2 = 0)) = true], (decide (k.2.2 = 0)) = true → allP [(decide (k.2.2 = 0)) = true]] 53 [(3, vc (bo ((decide (k.2.2 = 0)) && (decide (k.2.1 = [])))))] [] ⟨(fun _ => trivial), (fun hp => hp), (fun hp => hp), (fun hp2 => (by first | exact hp2 | exact ⟨hp, hp2⟩))⟩ ?_
      refine AMx.blk ?_
      refine gQ ?_
      refine gS [] [] 53 [(52, vc (bo (!((decide (k.2.2 = 0)) && (decide (k.2.1 = []))))))] [] trivial ?_
      refine gB (!((decide (k.2.2 = 0)) && (decide (k.2.1 = [])))) (fun hc11 => ?_) fun hc11 => ?_
      ·
       try simp only [xT, xF, xA, xB, xN, xM] at hc11
       refine gS [] [] 53 [(2, vc (i6 2))] [] trivial ?_
       exact gT (vc (i6 2)) (by rw [show checkK k = 2 from by unfold checkK MayK; grind])
      ·
       try simp only [xT, xF, xA, xB, xN, xM] at hc11
       refine AMx.skip ?_
       refine gS [] [] 53 [(2, vc (i6 0))] [] trivial ?_
       exact gT (vc (i6 0)) (by rw [show checkK k = 0 from by unfold checkK MayK; grind])
     ·
      refine gS [] [] 53 [(2, vc (i6 22))] [] trivial ?_
      exact gT (vc (i6 22)) (by rw [show checkK k = 22 from by unfold checkK MayK; grind])
end AL.Rows
namespace AL.Ask
open Go Go.Proofs AL
set_option linter.unusedVariables false
set_option linter.unusedSimpArgs false
theorem f43_body : Tryz.f43.body = some (.seq (.region 0 (rg Tryz.f43 0) false) (.seq (.seq (.region 1 (rg Tryz.f43 1) false) (.cond (.tmp 3) (.seq (.region 2 (rg Tryz.f43 2) false) (.ret)) (.skip))) (.seq (.region 3 (rg Tryz.f43 3) false) (.ret)))) := by kernel_rfl
set_option maxRecDepth 100000 in
set_option maxHeartbeats 8000000 in
theorem fine_c (b : Bool) : Pure Tryz.prog 43 [tc (bo b)] (vc (i6 (fineS b))) := by
 refine Pure.of_body Tryz.func43 f43_body (by kernel_rfl) Tryz.ntmps43 (by kernel_rfl) (by kernel_rfl) ?_
 refine gS [] [] 4 [(0, vc (bo b))] [] trivial ?_
 refine gQ ?_
 refine gS [] [] 4 [(3, vc (bo b))] [] trivial ?_
 refine gB (b) (fun hc1 => ?_) fun hc1 => ?_
 ·
  try simp only [xT, xF] at hc1
  refine gS [] [] 4 [(2, vc (i6 0))] [] trivial ?_
  exact gT (vc (i6 0)) (by rw [hc1]; rfl)
 ·
  try simp only [xT, xF] at hc1
  refine AMx.skip ?_
  refine gS [] [] 4 [(2, vc (i6 4))] [] trivial ?_
  exact gT (vc (i6 4)) (by rw [hc1]; rfl)
theorem f49_body : Tryz.f49.body = some (.seq (.region 0 (rg Tryz.f49 0) false) (.seq (.seq (.region 1 (rg Tryz.f49 1) false) (.cond (.tmp 3) (.seq (.region 2 (rg Tryz.f49 2) false) (.ret)) (.skip))) (.seq (.region 3 (rg Tryz.f49 3) false) (.ret)))) := by kernel_rfl
set_option maxRecDepth 100000 in
set_option maxHeartbeats 8000000 in
theorem Rfine_c (b : Bool) : Pure Tryz.prog 49 [tc (bo b)] (vc (i6 (fineS b))) := by
 refine Pure.of_body Tryz.func49 f49_body (by kernel_rfl) Tryz.ntmps49 (by kernel_rfl) (by kernel_rfl) ?_
 refine gS [] [] 4 [(0, vc (bo b))] [] trivial ?_
 refine gQ ?_
 refine gS [] [] 4 [(3, vc (bo b))] [] trivial ?_
 refine gB (b) (fun hc1 => ?_) fun hc1 => ?_
 ·
  try simp only [xT, xF] at hc1
  refine gS [] [] 4 [(2, vc (i6 0))] [] trivial ?_
  exact gT (vc (i6 0)) (by rw [hc1]; rfl)
 ·
  try simp only [xT, xF] at hc1
  refine AMx.skip ?_
  refine gS [] [] 4 [(2, vc (i6 4))] [] trivial ?_
  exact gT (vc (i6 4)) (by rw [hc1]; rfl)
theorem f46_body : Tryz.f46.body = some (.seq (.region 0 (rg Tryz.f46 0) false) (.seq (.region 1 (rg Tryz.f46 1) false) (.ret))) := by kernel_rfl
set_option maxRecDepth 100000 in
set_option maxHeartbeats 8000000 in
theorem within_c (n lo hi : Int) : Pure Tryz.prog 46 [tc (i6 n), tc (i6 lo), tc (i6 hi)] (vc (bo (withinI n lo hi))) := by
 refine Pure.of_body Tryz.func46 f46_body (by kernel_rfl) Tryz.ntmps46 (by kernel_rfl) (by kernel_rfl) ?_
 refine gS [] [] 15 [(0, vc (i6 n)), (1, vc (i6 lo)), (2, vc (i6 hi))] [] trivial ?_
 refine gS [] [((decide (lo ≤ n)) = true) → allP [], ((decide (lo ≤ n)) = true) → allP [], ((decide (lo ≤ n)) = true) → allP [(decide (lo ≤ n)) = true, (decide (lo ≤ n)) = true], (decide (lo ≤ n)) = true → allP [(decide (lo ≤ n)) = true]] 15 [(6, vc (bo ((decide (lo ≤ n)) && (decide (n ≤ hi)))))] [] ⟨(fun _ => trivial), (fun _ => trivial), (fun hp => ⟨hp, hp⟩), (fun hp2 => (by first | exact hp2 | exact ⟨hp, hp2⟩))⟩ ?_
 exact gT (vc (bo ((decide (lo ≤ n)) && (decide (n ≤ hi))))) rfl
theorem f52_body : Tryz.f52.body = some (.seq (.region 0 (rg Tryz.f52 0) false) (.seq (.region 1 (rg Tryz.f52 1) false) (.ret))) := by kernel_rfl
set_option maxRecDepth 100000 in
set_option maxHeartbeats 8000000 in
theorem Rwithin_c (n lo hi : Int) : Pure Tryz.prog 52 [tc (i6 n), tc (i6 lo), tc (i6 hi)] (vc (bo (withinI n lo hi))) := by
 refine Pure.of_body Tryz.func52 f52_body (by kernel_rfl) Tryz.ntmps52 (by kernel_rfl) (by kernel_rfl) ?_
 refine gS [] [] 15 [(0, vc (i6 n)), (1, vc (i6 lo)), (2, vc (i6 hi))] [] trivial ?_
 refine gS [] [((decide (lo ≤ n)) = true) → allP [], ((decide (lo ≤ n)) = true) → allP [], ((decide (lo ≤ n)) = true) → allP [(decide (lo ≤ n)) = true, (decide (lo ≤ n)) = true], (decide (lo ≤ n)) = true → allP [(decide (lo ≤ n)) = true]] 15 [(6, vc (bo ((decide (lo ≤ n)) && (decide (n ≤ hi)))))] [] ⟨(fun _ => trivial), (fun _ => trivial), (fun hp => ⟨hp, hp⟩), (fun hp2 => (by first | exact hp2 | exact ⟨hp, hp2⟩))⟩ ?_
 exact gT (vc (bo ((decide (lo ≤ n)) && (decide (n ≤ hi))))) rfl
theorem f44_body : Tryz.f44.body = some (.seq (.region 0 (rg Tryz.f44 0) false) (.seq (.region 1 (rg Tryz.f44 1) false) (.ret))) := by kernel_rfl
set_option maxRecDepth 100000 in
set_option maxHeartbeats 8000000 in
theorem named_c (s : Bytes) : Pure Tryz.prog 44 [tc (st s)] (vc (bo (Rows.namedS s))) := by
 refine Pure.of_body Tryz.func44 f44_body (by kernel_rfl) Tryz.ntmps44 (by kernel_rfl) (by kernel_rfl) ?_
 refine gS [] [] 7 [(0, vc (st s))] [] trivial ?_
 refine gS [(2, CE.call [] [] (vc (i6 (Rows.checkK ((3, s, 0) : Rows.KeyV)))) [])] [Spec Tryz.prog 71 [TV.agg [.s (u8 3), .s (st s), .s (i6 0)]] (ofH []) (vc (i6 (Rows.checkK ((3, s, 0) : Rows.KeyV)))) (ofH [])] 7 [(2, vc (bo (decide (Rows.checkK ((3, s, 0) : Rows.KeyV) = 0))))] [] (Rows.Check_c ((3, s, 0) : Rows.KeyV)) ?_
 exact gT (vc (bo (decide (Rows.checkK ((3, s, 0) : Rows.KeyV) = 0)))) (by rw [named_key])
theorem f74_body : Tryz.f74.body = some (.seq (.region 0 (rg Tryz.f74 0) false) (.seq (.region 1 (rg Tryz.f74 1) false) (.ret))) := by kernel_rfl
set_option maxRecDepth 100000 in
set_option maxHeartbeats 8000000 in
theorem not_c (n : Int) : Pure Tryz.prog 74 [tc (i6 n)] (vc (bo (!(withinI n 1 999)))) := by
 refine Pure.of_body Tryz.func74 f74_body (by kernel_rfl) Tryz.ntmps74 (by kernel_rfl) (by kernel_rfl) ?_
 refine gS [] [] 6 [(0, vc (i6 n))] [] trivial ?_
 refine gS [(1, CE.call [] [] (vc (bo (withinI n 1 999))) [])] [Spec Tryz.prog 46 [tc (i6 n), tc (i6 1), tc (i6 999)] (ofH []) (vc (bo (withinI n 1 999))) (ofH [])] 6 [(2, vc (bo (!(withinI n 1 999))))] [] (within_c n 1 999) ?_
 exact gT (vc (bo (!(withinI n 1 999)))) rfl
theorem f89_body : Tryz.f89.body = some (.seq (.region 0 (rg Tryz.f89 0) false) (.seq (.seq (.region 1 (rg Tryz.f89 1) false) (.block 0 (.loop (.seq (.region 2 (rg Tryz.f89 2) false) (.seq (.cond (.tmp 9) (.skip) (.exit 0)) (.seq (.block 1 (.seq (.region 3 (rg Tryz.f89 3) false) (.seq (.region 4 (rg Tryz.f89 4) false) (.cond (.tmp 16) (.seq (.region 5 (rg Tryz.f89 5) false) (.ret)) (.skip))))) (.region 6 (rg Tryz.f89 6) false))))))) (.seq (.region 7 (rg Tryz.f89 7) false) (.ret)))) := by kernel_rfl
set_option maxRecDepth 100000 in
set_option maxHeartbeats 8000000 in
theorem IndexI_c (f : FuncId) (caps : List Cap) (p : Int → Bool) (hf : ∀ x : Int, Pure Tryz.prog f ([tc (i6 x)] ++ List.map capT caps) (vc (bo (p x)))) (l : List Int) : Pure Tryz.prog 89 [tc (AL.Fnv.slI l), TV.c (.fn f caps)] (vc (i6 (Lib.idxS p l))) := by
 refine Pure.of_body Tryz.func89 f89_body (by kernel_rfl) Tryz.ntmps89 (by kernel_rfl) (by kernel_rfl) ?_
 refine AMx.sl 0 (l := l) rfl (fun hl => ?_)
 simp only [maxLen] at hl
 refine gS [] [] 19 [(0, vc (AL.Fnv.slI l)), (1, AV.t (TV.c (.fn f caps)))] [] trivial ?_
 refine gQ ?_
 refine gS [] [] 19 [(0, vc (AL.Fnv.slI l)), (1, AV.t (TV.c (.fn f caps))), (7, vc (i6 (List.length l : Int))), (8, vc (i6 0))] [] trivial ?_
 refine AMx.block ?_
 refine AMx.ent (s' := AS.lst 19 [(0, vc (AL.Fnv.slI l)), (1, AV.t (TV.c (.fn f caps))), (7, vc (i6 (List.length l : Int))), (8, vc (i6 0))] []) (ent_proj [0, 1, 7, 8] []) ?_
 refine AMx.loop (fun mm ss => ∃ (k : Nat), (k ≤ l.length ∧ ∀ x ∈ List.take k l, p x = false) ∧ mm = l.length - k ∧ ss = AS.lst 19 [(0, vc (AL.Fnv.slI l)), (1, AV.t (TV.c (.fn f caps))), (7, vc (i6 (List.length l : Int))), (8, vc (i6 (k : Int)))] []) ⟨0, ?_, rfl, ?_⟩ ?_
 · exact ⟨by omega, fun x hx => by simp at hx⟩
 · rfl
 rintro mm ss ⟨k, ⟨hI, hN⟩, rfl, rfl⟩
 refine gS [] [] 19 [(0, vc (AL.Fnv.slI l)), (1, AV.t (TV.c (.fn f caps))), (7, vc (i6 (List.length l : Int))), (8, vc (i6 (k : Int))), (9, vc (bo (decide ((k : Int) < (List.length l : Int)))))] [] trivial ?_
 refine gQ ?_
 refine gC ((k : Int) < (List.length l : Int)) (fun hc1 => ?_) fun hc1 => ?_
 ·
  refine AMx.skip ?_
  refine gQ ?_
  refine AMx.block ?_
  refine gS [] [] 19 [(0, vc (AL.Fnv.slI l)), (1, AV.t (TV.c (.fn f caps))), (5, vc (i6 (k : Int))), (7, vc (i6 (List.length l : Int))), (8, vc (i6 (k : Int)))] [] trivial ?_
  refine gS [(5, CE.call [] [] (vc (bo (p (List.getD l k 0)))) [])] [(0 : Int) ≤ (k : Int), (k : Int) < List.length l, Spec Tryz.prog f ([tc (i6 (List.getD l k 0))] ++ List.map capT caps) (ofH []) (vc (bo (p (List.getD l k 0)))) (ofH [])] 19 [(0, vc (AL.Fnv.slI l)), (1, AV.t (TV.c (.fn f caps))), (5, vc (i6 (k : Int))), (7, vc (i6 (List.length l : Int))), (8, vc (i6 (k : Int))), (16, vc (bo (p (List.getD l k 0))))] [] ⟨(show (0 : Int) ≤ (k : Int) from (by omega)), (show (k : Int) < List.length l from (by omega)), (hf (List.getD l k 0))⟩ ?_
  refine gB (p (List.getD l k 0)) (fun hc2 => ?_) fun hc2 => ?_
  ·
   try simp only [xT, xF] at hc2
   refine gS [] [] 19 [(4, vc (i6 (k : Int)))] [] trivial ?_
   exact gT (vc (i6 (k : Int))) (by rw [Lib.idx_hit 0 l k (by omega) hN (by assumption)])
  ·
   try simp only [xT, xF] at hc2
   refine AMx.skip ?_
   refine AMx.blk ?_
   refine gR [] [InR .i64 ((k : Int) + 1)] 19 [(0, vc (AL.Fnv.slI l)), (1, AV.t (TV.c (.fn f caps))), (7, vc (i6 (List.length l : Int))), (8, vc (i6 ((k : Int) + 1)))] [] (show InR .i64 ((k : Int) + 1) from (inR64 (by omega) (by omega))) ?_
   refine AMx.ent_inv (s' := AS.lst 19 [(0, vc (AL.Fnv.slI l)), (1, AV.t (TV.c (.fn f caps))), (7, vc (i6 (List.length l : Int))), (8, vc (i6 ((k : Int) + 1)))] []) (ent_proj [0, 1, 7, 8] []) ?_
   refine AMx.inv ⟨_, ?_, k + 1, ?_, rfl, ?_⟩
   rotate_left
   · exact ⟨by omega, Lib.all_step 0 l k (by omega) hN (by assumption)⟩
   · rfl
   · omega
 ·
  refine AMx.exit ?_
  refine AMx.code_exit ?_
  refine AMx.inv_exit ?_
  refine AMx.blk_exit ?_
  refine gS [] [] 19 [(4, vc (i6 (-1)))] [] trivial ?_
  exact gT (vc (i6 (-1))) (by rw [Lib.idx_none (fun x hx => hN x (by rwa [List.take_of_length_le (by omega)]))])
theorem f73_body : Tryz.f73.body = some (.seq (.region 0 (rg Tryz.f73 0) false) (.seq (.region 1 (rg Tryz.f73 1) false) (.ret))) := by kernel_rfl
set_option maxRecDepth 100000 in
set_option maxHeartbeats 8000000 in
theorem ContainsI_c (f : FuncId) (caps : List Cap) (p : Int → Bool) (hf : ∀ x : Int, Pure Tryz.prog f ([tc (i6 x)] ++ List.map capT caps) (vc (bo (p x)))) (l : List Int) : Pure Tryz.prog 73 [tc (AL.Fnv.slI l), TV.c (.fn f caps)] (vc (bo (decide (0 ≤ Lib.idxS p l)))) := by
 refine Pure.of_body Tryz.func73 f73_body (by kernel_rfl) Tryz.ntmps73 (by kernel_rfl) (by kernel_rfl) ?_
 refine gS [] [] 9 [(0, vc (AL.Fnv.slI l)), (1, AV.t (TV.c (.fn f caps)))] [] trivial ?_
 refine gS [(2, CE.call [] [] (vc (i6 (Lib.idxS p l))) [])] [Spec Tryz.prog 89 [tc (AL.Fnv.slI l), TV.c (.fn f caps)] (ofH []) (vc (i6 (Lib.idxS p l))) (ofH [])] 9 [(4, vc (bo (decide (0 ≤ Lib.idxS p l))))] [] (IndexI_c f caps p hf l) ?_
 exact gT (vc (bo (decide (0 ≤ Lib.idxS p l)))) rfl
theorem f47_body : Tryz.f47.body = some (.seq (.region 0 (rg Tryz.f47 0) false) (.seq (.region 1 (rg Tryz.f47 1) false) (.ret))) := by kernel_rfl
set_option maxRecDepth 100000 in
set_option maxHeartbeats 8000000 in
theorem counted_c (l : List Int) : Pure Tryz.prog 47 [tc (AL.Fnv.slI l)] (vc (bo (okNs l))) := by
 refine Pure.of_body Tryz.func47 f47_body (by kernel_rfl) Tryz.ntmps47 (by kernel_rfl) (by kernel_rfl) ?_
 refine gS [] [] 11 [(0, vc (AL.Fnv.slI l))] [] trivial ?_
 refine gS [(5, CE.call [] [] (vc (bo (decide (0 ≤ Lib.idxS (fun x : Int => !(withinI x 1 999)) l)))) [])] [((decide ((List.length l : Int) ≤ 6)) = true) → allP [], ((decide ((List.length l : Int) ≤ 6)) = true) → allP [(decide ((List.length l : Int) ≤ 6)) = true, Spec Tryz.prog 73 [tc (AL.Fnv.slI l), TV.c (.fn 74 [])] (ofH []) (vc (bo (decide (0 ≤ Lib.idxS (fun x : Int => !(withinI x 1 999)) l)))) (ofH [])], ((decide ((List.length l : Int) ≤ 6)) = true) → allP [(decide ((List.length l : Int) ≤ 6)) = true], (decide ((List.length l : Int) ≤ 6)) = true → allP [(decide ((List.length l : Int) ≤ 6)) = true]] 11 [(2, vc (bo ((decide ((List.length l : Int) ≤ 6)) && (!(decide (0 ≤ Lib.idxS (fun x : Int => !(withinI x 1 999)) l))))))] [] ⟨(fun _ => trivial), (fun hp => by have hq := hp; (try simp only [decide_eq_true_eq, decide_eq_false_iff_not, Bool.and_eq_true, Bool.or_eq_true, Bool.and_eq_false_iff, Bool.or_eq_false_iff, Bool.not_eq_true', Bool.not_eq_false', Bool.not_eq_true, Bool.not_eq_false] at hq); exact ⟨hp, (ContainsI_c 74 [] (fun x : Int => !(withinI x 1 999)) (fun x => not_c x) l)⟩), (fun hp => hp), (fun hp2 => (by first | exact hp2 | exact ⟨hp, hp2⟩))⟩ ?_
 exact gT (vc (bo ((decide ((List.length l : Int) ≤ 6)) && (!(decide (0 ≤ Lib.idxS (fun x : Int => !(withinI x 1 999)) l)))))) (by rw [okNs_idx])
theorem f65_body : Tryz.f65.body = some (.seq (.region 0 (rg Tryz.f65 0) false) (.seq (.seq (.region 1 (rg Tryz.f65 1) false) (.cond (.tmp 4) (.seq (.region 2 (rg Tryz.f65 2) false) (.ret)) (.skip))) (.seq (.region 3 (rg Tryz.f65 3) false) (.ret)))) := by kernel_rfl
set_option maxRecDepth 100000 in
set_option maxHeartbeats 8000000 in
theorem orN_c (s : Bytes) : Pure Tryz.prog 65 [tc (st s)] (vc (st (orN s))) := by
 refine Pure.of_body Tryz.func65 f65_body (by kernel_rfl) Tryz.ntmps65 (by kernel_rfl) (by kernel_rfl) ?_
 refine gS [] [] 6 [(0, vc (st s))] [] trivial ?_
 refine gQ ?_
 refine gS [] [] 6 [(0, vc (st s)), (4, vc (bo (decide (s = []))))] [] trivial ?_
 refine gC (s = []) (fun hc1 => ?_) fun hc1 => ?_
 ·
  refine gS [] [] 6 [(2, vc (st [45]))] [] trivial ?_
  exact gT (vc (st [45])) (by unfold orN; first | rw [if_pos hc1] | rw [if_neg hc1])
 ·
  refine AMx.skip ?_
  refine gS [] [] 6 [(2, vc (st s))] [] trivial ?_
  exact gT (vc (st s)) (by unfold orN; first | rw [if_pos hc1] | rw [if_neg hc1])
theorem f64_body : Tryz.f64.body = some (.seq (.region 0 (rg Tryz.f64 0) false) (.seq (.region 1 (rg Tryz.f64 1) false) (.seq (.seq (.region 2 (rg Tryz.f64 2) false) (.block 0 (.loop (.seq (.seq (.region 3 (rg Tryz.f64 3) false) (.cond (.tmp 12) (.skip) (.exit 0))) (.seq (.block 1 (.region 5 (rg Tryz.f64 5) false)) (.region 4 (rg Tryz.f64 4) false)))))) (.seq (.region 6 (rg Tryz.f64 6) false) (.ret))))) := by kernel_rfl
set_option maxRecDepth 100000 in
set_option maxHeartbeats 8000000 in
theorem number_c (n : Int) (h0 : 0 ≤ n) (h1 : n ≤ 999) : Pure Tryz.prog 64 [tc (i6 n)] (vc (st (numS n))) := by
 refine Pure.of_body Tryz.func64 f64_body (by kernel_rfl) Tryz.ntmps64 (by kernel_rfl) (by kernel_rfl) ?_
 refine gS [] [] 23 [(0, vc (i6 n))] [] trivial ?_
 refine gS [(3, CE.obj (AObj.grow 5 1 UInt8 0 rowU8 [dg (n % 10)])), (4, CE.str [dg (n % 10)])] [(10 : Int) ≠ 0, (0 : Int) ≤ Int.tmod n 10, Int.tmod n 10 < List.length ([48, 49, 50, 51, 52, 53, 54, 55, 56, 57, 97, 98, 99, 100, 101, 102] : List UInt8), flat 1 rowU8 [dg (n % 10)] = [.s (u8 ((List.getD ([48, 49, 50, 51, 52, 53, 54, 55, 56, 57, 97, 98, 99, 100, 101, 102] : List UInt8) (Int.tmod n 10).toNat 0).toNat : Int))], List.length ([dg (n % 10)] : List UInt8) = 1, flat 1 rowU8 [dg (n % 10)] = flat 1 rowU8 [dg (n % 10)], List.length ([dg (n % 10)] : List UInt8) = List.length ([dg (n % 10)] : List UInt8), (List.length ([dg (n % 10)] : List UInt8) : Int) ≤ 140737488355328] 23 [(0, vc (i6 n)), (3, vc (st [dg (n % 10)]))] [] ⟨(show (10 : Int) ≠ 0 from (by omega)), (show (0 : Int) ≤ Int.tmod n 10 from (by first | omega | (have ht := tdiv_10 (n := n) (by omega); omega) | (have ht := tdiv_10 (n := m) (by omega); omega) | (have ht := tmod_10 (n := n) (by omega); first | omega | (simp only [List.length_cons, List.length_nil]; omega)) | (have ht := tmod_10 (n := m) (by omega); have hl := NumAt.len hN; first | omega | (simp only [List.length_append, List.length_cons, List.length_nil]; omega)))), (show Int.tmod n 10 < List.length ([48, 49, 50, 51, 52, 53, 54, 55, 56, 57, 97, 98, 99, 100, 101, 102] : List UInt8) from (by first | omega | (have ht := tdiv_10 (n := n) (by omega); omega) | (have ht := tdiv_10 (n := m) (by omega); omega) | (have ht := tmod_10 (n := n) (by omega); first | omega | (simp only [List.length_cons, List.length_nil]; omega)) | (have ht := tmod_10 (n := m) (by omega); have hl := NumAt.len hN; first | omega | (simp only [List.length_append, List.length_cons, List.length_nil]; omega)))), (one_dg (by omega)), rfl, rfl, rfl, (show (List.length ([dg (n % 10)] : List UInt8) : Int) ≤ 140737488355328 from (by first | omega | (have ht := tdiv_10 (n := n) (by omega); omega) | (have ht := tdiv_10 (n := m) (by omega); omega) | (have ht := tmod_10 (n := n) (by omega); first | omega | (simp only [List.length_cons, List.length_nil]; omega)) | (have ht := tmod_10 (n := m) (by omega); have hl := NumAt.len hN; first | omega | (simp only [List.length_append, List.length_cons, List.length_nil]; omega))))⟩ ?_
 refine gQ ?_
 refine gS [] [(10 : Int) ≠ 0, InR .i64 (Int.tdiv n 10)] 23 [(0, vc (i6 (Int.tdiv n 10))), (3, vc (st [dg (n % 10)]))] [] ⟨(show (10 : Int) ≠ 0 from (by omega)), (show InR .i64 (Int.tdiv n 10) from (inR64 (by first | omega | (have ht := tdiv_10 (n := n) (by omega); omega) | (have ht := tdiv_10 (n := m) (by omega); omega) | (have ht := tmod_10 (n := n) (by omega); first | omega | (simp only [List.length_cons, List.length_nil]; omega)) | (have ht := tmod_10 (n := m) (by omega); have hl := NumAt.len hN; first | omega | (simp only [List.length_append, List.length_cons, List.length_nil]; omega))) (by first | omega | (have ht := tdiv_10 (n := n) (by omega); omega) | (have ht := tdiv_10 (n := m) (by omega); omega) | (have ht := tmod_10 (n := n) (by omega); first | omega | (simp only [List.length_cons, List.length_nil]; omega)) | (have ht := tmod_10 (n := m) (by omega); have hl := NumAt.len hN; first | omega | (simp only [List.length_append, List.length_cons, List.length_nil]; omega)))))⟩ ?_
 rw [show Int.tdiv n 10 = n / 10 from tdiv_10 (by omega)]
 refine AMx.block ?_
 refine AMx.ent (s' := AS.lst 23 [(0, vc (i6 (n / 10))), (3, vc (st [dg (n % 10)]))] []) (ent_proj [0, 3] []) ?_
 refine AMx.loop (fun mm ss => ∃ (m : Int) (t : Bytes), ((0 ≤ m ∧ m ≤ 99) ∧ NumAt n m t) ∧ mm = m.toNat ∧ ss = AS.lst 23 [(0, vc (i6 m)), (3, vc (st t))] []) ⟨n / 10, [dg (n % 10)], ?_, rfl, ?_⟩ ?_
 · exact ⟨by omega, NumAt.first h0 h1⟩
 · rfl
 rintro mm ss ⟨m, t, ⟨hM, hN⟩, rfl, rfl⟩
 refine gQ ?_
 refine gS [] [] 23 [(0, vc (i6 m)), (3, vc (st t)), (12, vc (bo (decide (0 < m))))] [] trivial ?_
 refine gC (0 < m) (fun hc1 => ?_) fun hc1 => ?_
 ·
  refine AMx.skip ?_
  refine gQ ?_
  refine AMx.block ?_
  refine gR [(3, CE.obj (AObj.grow 5 1 UInt8 0 rowU8 [dg (m % 10)])), (4, CE.str [dg (m % 10)])] [(10 : Int) ≠ 0, (0 : Int) ≤ Int.tmod m 10, Int.tmod m 10 < List.length ([48, 49, 50, 51, 52, 53, 54, 55, 56, 57, 97, 98, 99, 100, 101, 102] : List UInt8), flat 1 rowU8 [dg (m % 10)] = [.s (u8 ((List.getD ([48, 49, 50, 51, 52, 53, 54, 55, 56, 57, 97, 98, 99, 100, 101, 102] : List UInt8) (Int.tmod m 10).toNat 0).toNat : Int))], List.length ([dg (m % 10)] : List UInt8) = 1, flat 1 rowU8 [dg (m % 10)] = flat 1 rowU8 [dg (m % 10)], List.length ([dg (m % 10)] : List UInt8) = List.length ([dg (m % 10)] : List UInt8), (List.length ([dg (m % 10)] : List UInt8) : Int) ≤ 140737488355328, List.length ([dg (m % 10)] : List UInt8) + List.length t ≤ maxLen] 23 [(0, vc (i6 m)), (3, vc (st ([dg (m % 10)] ++ t)))] [] ⟨(show (10 : Int) ≠ 0 from (by omega)), (show (0 : Int) ≤ Int.tmod m 10 from (by first | omega | (have ht := tdiv_10 (n := n) (by omega); omega) | (have ht := tdiv_10 (n := m) (by omega); omega) | (have ht := tmod_10 (n := n) (by omega); first | omega | (simp only [List.length_cons, List.length_nil]; omega)) | (have ht := tmod_10 (n := m) (by omega); have hl := NumAt.len hN; first | omega | (simp only [List.length_append, List.length_cons, List.length_nil]; omega)))), (show Int.tmod m 10 < List.length ([48, 49, 50, 51, 52, 53, 54, 55, 56, 57, 97, 98, 99, 100, 101, 102] : List UInt8) from (by first | omega | (have ht := tdiv_10 (n := n) (by omega); omega) | (have ht := tdiv_10 (n := m) (by omega); omega) | (have ht := tmod_10 (n := n) (by omega); first | omega | (simp only [List.length_cons, List.length_nil]; omega)) | (have ht := tmod_10 (n := m) (by omega); have hl := NumAt.len hN; first | omega | (simp only [List.length_append, List.length_cons, List.length_nil]; omega)))), (one_dg (by omega)), rfl, rfl, rfl, (show (List.length ([dg (m % 10)] : List UInt8) : Int) ≤ 140737488355328 from (by first | omega | (have ht := tdiv_10 (n := n) (by omega); omega) | (have ht := tdiv_10 (n := m) (by omega); omega) | (have ht := tmod_10 (n := n) (by omega); first | omega | (simp only [List.length_cons, List.length_nil]; omega)) | (have ht := tmod_10 (n := m) (by omega); have hl := NumAt.len hN; first | omega | (simp only [List.length_append, List.length_cons, List.length_nil]; omega)))), (show List.length ([dg (m % 10)] : List UInt8) + List.length t ≤ maxLen from (by simp only [List.length_append, List.length_cons, List.length_nil, maxLen]; first | omega | (first | omega | (have ht := tdiv_10 (n := n) (by omega); omega) | (have ht := tdiv_10 (n := m) (by omega); omega) | (have ht := tmod_10 (n := n) (by omega); first | omega | (simp only [List.length_cons, List.length_nil]; omega)) | (have ht := tmod_10 (n := m) (by omega); have hl := NumAt.len hN; first | omega | (simp only [List.length_append, List.length_cons, List.length_nil]; omega)))))⟩ ?_
  refine AMx.blk ?_
  refine gR [] [(10 : Int) ≠ 0, InR .i64 (Int.tdiv m 10)] 23 [(0, vc (i6 (Int.tdiv m 10))), (3, vc (st ([dg (m % 10)] ++ t)))] [] ⟨(show (10 : Int) ≠ 0 from (by omega)), (show InR .i64 (Int.tdiv m 10) from (inR64 (by first | omega | (have ht := tdiv_10 (n := n) (by omega); omega) | (have ht := tdiv_10 (n := m) (by omega); omega) | (have ht := tmod_10 (n := n) (by omega); first | omega | (simp only [List.length_cons, List.length_nil]; omega)) | (have ht := tmod_10 (n := m) (by omega); have hl := NumAt.len hN; first | omega | (simp only [List.length_append, List.length_cons, List.length_nil]; omega))) (by first | omega | (have ht := tdiv_10 (n := n) (by omega); omega) | (have ht := tdiv_10 (n := m) (by omega); omega) | (have ht := tmod_10 (n := n) (by omega); first | omega | (simp only [List.length_cons, List.length_nil]; omega)) | (have ht := tmod_10 (n := m) (by omega); have hl := NumAt.len hN; first | omega | (simp only [List.length_append, List.length_cons, List.length_nil]; omega)))))⟩ ?_
  rw [show Int.tdiv m 10 = m / 10 from tdiv_10 (by omega)]
  refine AMx.ent_inv (s' := AS.lst 23 [(0, vc (i6 (m / 10))), (3, vc (st ([dg (m % 10)] ++ t)))] []) (ent_proj [0, 3] []) ?_
  refine AMx.inv ⟨_, ?_, m / 10, [dg (m % 10)] ++ t, ?_, rfl, ?_⟩
  rotate_left
  · exact ⟨by omega, NumAt.step hN (by omega) (by omega)⟩
  · rfl
  · omega
 ·
  refine AMx.exit ?_
  refine AMx.code_exit ?_
  refine AMx.inv_exit ?_
  refine AMx.blk_exit ?_
  refine gS [] [] 23 [(2, vc (st t))] [] trivial ?_
  exact gT (vc (st t)) (by rw [NumAt.last hN (by omega) (by omega)])
theorem f58_body : Tryz.f58.body = some (.seq (.region 0 (rg Tryz.f58 0) false) (.seq (.seq (.region 1 (rg Tryz.f58 1) false) (.cond (.tmp 22) (.seq (.region 2 (rg Tryz.f58 2) false) (.ret)) (.skip))) (.seq (.region 3 (rg Tryz.f58 3) false) (.seq (.seq (.region 4 (rg Tryz.f58 4) false) (.block 0 (.loop (.seq (.region 5 (rg Tryz.f58 5) false) (.seq (.cond (.tmp 26) (.skip) (.exit 0)) (.block 1 (.seq (.region 6 (rg Tryz.f58 6) false) (.seq (.seq (.region 7 (rg Tryz.f58 7) false) (.cond (.tmp 33) (.seq (.region 8 (rg Tryz.f58 8) false) (.ret)) (.skip))) (.region 9 (rg Tryz.f58 9) false))))))))) (.seq (.region 10 (rg Tryz.f58 10) false) (.ret)))))) := by kernel_rfl
set_option maxRecDepth 100000 in
set_option maxHeartbeats 8000000 in
theorem numberOf_c (s : Bytes) : Pure Tryz.prog 58 [tc (st s)] (vc (i6 (scanN s))) := by
 refine Pure.of_body Tryz.func58 f58_body (by kernel_rfl) Tryz.ntmps58 (by kernel_rfl) (by kernel_rfl) ?_
 refine AMx.str 0 (b := s) rfl (fun hls => ?_)
 simp only [maxLen] at hls
 refine gS [] [] 41 [(0, vc (st s))] [] trivial ?_
 refine gQ ?_
 refine gS [] [((decide (s = [])) = false) → allP [], ((decide (s = [])) = false) → allP [(decide (s = [])) = false], ((decide (s = [])) = false) → allP [(decide (s = [])) = false], (decide (s = [])) = false → allP [(decide (s = [])) = false], (((decide (s = [])) || (decide (3 < (List.length s : Int)))) = false) → allP [], (((decide (s = [])) || (decide (3 < (List.length s : Int)))) = false) → allP [((decide (s = [])) || (decide (3 < (List.length s : Int)))) = false], (((decide (s = [])) || (decide (3 < (List.length s : Int)))) = false) → allP [((decide (s = [])) || (decide (3 < (List.length s : Int)))) = false], (((decide (s = [])) || (decide (3 < (List.length s : Int)))) = false) → allP [((decide (s = [])) || (decide (3 < (List.length s : Int)))) = false], ((((decide (s = [])) || (decide (3 < (List.length s : Int)))) = false) ∧ (decide (1 < (List.length s : Int))) = true) → allP [], ((((decide (s = [])) || (decide (3 < (List.length s : Int)))) = false) ∧ (decide (1 < (List.length s : Int))) = true) → allP [(((decide (s = [])) || (decide (3 < (List.length s : Int)))) = false) ∧ (decide (1 < (List.length s : Int))) = true, (0 : Int) ≤ 0, (0 : Int) < List.length s], ((((decide (s = [])) || (decide (3 < (List.length s : Int)))) = false) ∧ (decide (1 < (List.length s : Int))) = true) → allP [(((decide (s = [])) || (decide (3 < (List.length s : Int)))) = false) ∧ (decide (1 < (List.length s : Int))) = true], (((decide (s = [])) || (decide (3 < (List.length s : Int)))) = false) → allP [((decide (s = [])) || (decide (3 < (List.length s : Int)))) = false, (decide (1 < (List.length s : Int))) = true → allP [(((decide (s = [])) || (decide (3 < (List.length s : Int)))) = false) ∧ (decide (1 < (List.length s : Int))) = true]], ((decide (s = [])) || (decide (3 < (List.length s : Int)))) = false → allP [((decide (s = [])) || (decide (3 < (List.length s : Int)))) = false]] 41 [(0, vc (st s)), (22, vc (bo (((decide (s = [])) || (decide (3 < (List.length s : Int)))) || ((decide (1 < (List.length s : Int))) && (decide (((List.getD s 0 0).toNat : Int) = 48))))))] [] ⟨(fun _ => trivial), (fun hp => hp), (fun hp => hp), (fun hp2 => (by first | exact hp2 | exact ⟨hp, hp2⟩)), (fun _ => trivial), (fun hp => hp), (fun hp => hp), (fun hp => hp), (fun _ => trivial), (fun hp => by have hq := hp; (try simp only [decide_eq_true_eq, decide_eq_false_iff_not, Bool.and_eq_true, Bool.or_eq_true, Bool.and_eq_false_iff, Bool.or_eq_false_iff, Bool.not_eq_true', Bool.not_eq_false', Bool.not_eq_true, Bool.not_eq_false] at hq); exact ⟨hp, (show (0 : Int) ≤ 0 from (by omega)), (show (0 : Int) < List.length s from (by omega))⟩), (fun hp => hp), (fun hp => by have hq := hp; (try simp only [decide_eq_true_eq, decide_eq_false_iff_not, Bool.and_eq_true, Bool.or_eq_true, Bool.and_eq_false_iff, Bool.or_eq_false_iff, Bool.not_eq_true', Bool.not_eq_false', Bool.not_eq_true, Bool.not_eq_false] at hq); exact ⟨hp, (fun hp2 => (by first | exact hp2 | exact ⟨hp, hp2⟩))⟩), (fun hp2 => (by first | exact hp2 | exact ⟨hp, hp2⟩))⟩ ?_
 refine gB ((((decide (s = [])) || (decide (3 < (List.length s : Int)))) || ((decide (1 < (List.length s : Int))) && (decide (((List.getD s 0 0).toNat : Int) = 48))))) (fun hc1 => ?_) fun hc1 => ?_
 ·
  try simp only [xT, xF, xA, xB, xO, xP] at hc1
  refine gS [] [] 41 [(2, vc (i6 (-1)))] [] trivial ?_
  exact gT (vc (i6 (-1))) (by rw [show scanN s = (-1) from by first | rw [scan_size (by grind)] | rw [scan_not (pos := pos) (by omega) (by omega)] | rw [scan_fin (by grind) (by omega) hD]])
 ·
  try simp only [xT, xF, xA, xB, xO, xP] at hc1
  refine AMx.skip ?_
  refine gS [] [] 41 [(0, vc (st s)), (3, vc (i6 0))] [] trivial ?_
  refine gQ ?_
  refine gS [] [] 41 [(3, vc (i6 0)), (24, vp 24 0)] [(24, AObj.iter s 0)] trivial ?_
  refine AMx.block ?_
  refine AMx.ent (s' := AS.lst 41 [(3, vc (i6 0)), (24, vp 24 0)] [(24, AObj.iter s 0)]) (ent_proj [3, 24] [24]) ?_
  refine AMx.loop (fun mm ss => ∃ (pos : Nat), (pos ≤ s.length ∧ (List.take pos s).all digB = true) ∧ mm = s.length - pos ∧ ss = AS.lst 41 [(3, vc (i6 (valS (List.take pos s)))), (24, vp 24 0)] [(24, AObj.iter s pos)]) ⟨0, ?_, rfl, ?_⟩ ?_
  · exact ⟨Nat.zero_le _, rfl⟩
  · rfl
  rintro mm ss ⟨pos, ⟨hI, hD⟩, rfl, rfl⟩
  refine gQ ?_
  rcases Nat.lt_or_ge pos (List.length s) with hn1 | hn1
  ·
   have hd1 := AL.Rune.dec_ok hn1
   refine gR [(0, CE.str [])] [pos < List.length s, ((pos : Nat) : Int) ≤ 9223372036854775807] 41 [(3, vc (i6 (valS (List.take pos s)))), (24, vp 24 0), (25, AV.tup [tc (bo true), tc (i6 (pos : Int)), tc (i3 ((decS s pos).1 : Int))]), (26, vc (bo true))] [(24, AObj.iter s (pos + (decS s pos).2))] ⟨(show pos < List.length s from (by omega)), (show ((pos : Nat) : Int) ≤ 9223372036854775807 from (by omega))⟩ ?_
   refine gQ ?_
   refine gBt ?_
   refine AMx.skip ?_
   refine AMx.block ?_
   refine gS [] [] 41 [(3, vc (i6 (valS (List.take pos s)))), (5, vc (i3 ((decS s pos).1 : Int))), (24, vp 24 0)] [(24, AObj.iter s (pos + (decS s pos).2))] trivial ?_
   refine gQ ?_
   refine gS [] [((decide (((decS s pos).1 : Int) < 48)) = false) → allP [], ((decide (((decS s pos).1 : Int) < 48)) = false) → allP [(decide (((decS s pos).1 : Int) < 48)) = false], (decide (((decS s pos).1 : Int) < 48)) = false → allP [(decide (((decS s pos).1 : Int) < 48)) = false]] 41 [(3, vc (i6 (valS (List.take pos s)))), (5, vc (i3 ((decS s pos).1 : Int))), (24, vp 24 0), (33, vc (bo ((decide (((decS s pos).1 : Int) < 48)) || (decide (57 < ((decS s pos).1 : Int))))))] [(24, AObj.iter s (pos + (decS s pos).2))] ⟨(fun _ => trivial), (fun hp => hp), (fun hp2 => (by first | exact hp2 | exact ⟨hp, hp2⟩))⟩ ?_
   refine gB (((decide (((decS s pos).1 : Int) < 48)) || (decide (57 < ((decS s pos).1 : Int))))) (fun hc3 => ?_) fun hc3 => ?_
   ·
    try simp only [xT, xF, xO, xP] at hc3
    refine gS [] [] 41 [(2, vc (i6 (-1)))] [] trivial ?_
    exact gT (vc (i6 (-1))) (by rw [show scanN s = (-1) from by first | rw [scan_size (by grind)] | rw [scan_not (pos := pos) (by omega) (by omega)] | rw [scan_fin (by grind) (by omega) hD]])
   ·
    try simp only [xT, xF, xO, xP] at hc3
    refine AMx.skip ?_
    refine gR [] [InR .i64 (10 * (valS (List.take pos s))), InR .i32 (((decS s pos).1 : Int) - 48), InR .i64 ((10 * (valS (List.take pos s))) + (((decS s pos).1 : Int) - 48))] 41 [(3, vc (i6 ((10 * (valS (List.take pos s))) + (((decS s pos).1 : Int) - 48)))), (24, vp 24 0)] [(24, AObj.iter s (pos + (decS s pos).2))] ⟨(show InR .i64 (10 * (valS (List.take pos s))) from (inR64 (by first | omega | (have hv := val_rng s pos (by omega) (by omega) hD; first | omega | (have hp : (10 : Int) ^ pos ≤ 1000 := pow_le3 (by omega); omega))) (by first | omega | (have hv := val_rng s pos (by omega) (by omega) hD; first | omega | (have hp : (10 : Int) ^ pos ≤ 1000 := pow_le3 (by omega); omega))))), (show InR .i32 (((decS s pos).1 : Int) - 48) from (by simp [inR64_iff, inR8_iff, inRu64_iff, inR32_iff]; omega)), (show InR .i64 ((10 * (valS (List.take pos s))) + (((decS s pos).1 : Int) - 48)) from (inR64 (by first | omega | (have hv := val_rng s pos (by omega) (by omega) hD; first | omega | (have hp : (10 : Int) ^ pos ≤ 1000 := pow_le3 (by omega); omega))) (by first | omega | (have hv := val_rng s pos (by omega) (by omega) hD; first | omega | (have hp : (10 : Int) ^ pos ≤ 1000 := pow_le3 (by omega); omega)))))⟩ ?_
    refine AMx.blk ?_
    refine AMx.ent_inv (s' := AS.lst 41 [(3, vc (i6 ((10 * (valS (List.take pos s))) + (((decS s pos).1 : Int) - 48)))), (24, vp 24 0)] [(24, AObj.iter s (pos + (decS s pos).2))]) (ent_proj [3, 24] [24]) ?_
    refine AMx.inv ⟨_, ?_, pos + (decS s pos).2, ?_, rfl, ?_⟩
    rotate_left
    · exact ⟨by omega, dig_dec (by omega) hD (by omega)⟩
    · rw [← val_dec (by omega) (by omega)]
    · omega
  ·
   refine gR [] [List.length s ≤ pos] 41 [(3, vc (i6 (valS (List.take pos s)))), (24, vp 24 0), (25, AV.tup [tc (bo false)]), (26, vc (bo false))] [(24, AObj.iter s pos)] (show List.length s ≤ pos from (by omega)) ?_
   refine gQ ?_
   refine gBf ?_
   refine AMx.exit ?_
   refine AMx.code_exit ?_
   refine AMx.inv_exit ?_
   refine AMx.blk_exit ?_
   refine gS [] [] 41 [(2, vc (i6 (valS (List.take pos s))))] [] trivial ?_
   exact gT (vc (i6 (valS (List.take pos s)))) (by rw [show scanN s = valS (List.take pos s) from by first | rw [scan_size (by grind)] | rw [scan_not (pos := pos) (by omega) (by omega)] | rw [scan_fin (by grind) (by omega) hD]])
theorem f66_body : Tryz.f66.body = some (.seq (.region 0 (rg Tryz.f66 0) false) (.seq (.region 1 (rg Tryz.f66 1) false) (.seq (.seq (.region 2 (rg Tryz.f66 2) false) (.block 0 (.loop (.seq (.region 3 (rg Tryz.f66 3) false) (.seq (.cond (.tmp 12) (.skip) (.exit 0)) (.seq (.block 1 (.seq (.region 4 (rg Tryz.f66 4) false) (.region 5 (rg Tryz.f66 5) false))) (.region 6 (rg Tryz.f66 6) false))))))) (.seq (.region 7 (rg Tryz.f66 7) false) (.ret))))) := by kernel_rfl
set_option maxRecDepth 100000 in
set_option maxHeartbeats 8000000 in
theorem list_c (l : List Int) (hn : ∀ n ∈ l, 0 ≤ n ∧ n ≤ 999) (hl : l.length ≤ 1000) : Pure Tryz.prog 66 [tc (AL.Fnv.slI l)] (vc (st (listS l))) := by
 refine Pure.of_body Tryz.func66 f66_body (by kernel_rfl) Tryz.ntmps66 (by kernel_rfl) (by kernel_rfl) ?_
 refine gS [] [] 24 [(0, vc (AL.Fnv.slI l))] [] trivial ?_
 refine gS [(2, CE.obj (AObj.grow 9 1 Bytes [] AL.Fnv.rowS (List.replicate (List.length l) [])))] [0 ≤ (List.length l : Int), (List.length l : Int) ≤ (List.length l : Int), (16 : Int) * (List.length l : Int) ≤ 281474976710656, (List.length l : Int) ≤ 9223372036854775807, MakeC (List.length l) [.s (st [])] (AObj.grow 9 1 Bytes [] AL.Fnv.rowS (List.replicate (List.length l) []))] 24 [(0, vc (AL.Fnv.slI l)), (3, vo 8)] [(8, AObj.grow 9 1 Bytes [] AL.Fnv.rowS (List.replicate (List.length l) []))] ⟨(show 0 ≤ (List.length l : Int) from (by omega)), (show (List.length l : Int) ≤ (List.length l : Int) from (by omega)), (show (16 : Int) * (List.length l : Int) ≤ 281474976710656 from (by omega)), (show (List.length l : Int) ≤ 9223372036854775807 from (by omega)), (⟨_, rfl, rfl⟩)⟩ ?_
 refine gQ ?_
 refine gS [] [] 24 [(3, vo 8), (9, vc (AL.Fnv.slI l)), (10, vc (i6 (List.length l : Int))), (11, vc (i6 0))] [(8, AObj.grow 9 1 Bytes [] AL.Fnv.rowS (List.replicate (List.length l) []))] trivial ?_
 refine AMx.block ?_
 refine AMx.ent (s' := AS.lst 24 [(3, vo 8), (9, vc (AL.Fnv.slI l)), (10, vc (i6 (List.length l : Int))), (11, vc (i6 0))] [(8, AObj.grow 9 1 Bytes [] AL.Fnv.rowS (List.replicate (List.length l) []))]) (ent_proj [3, 9, 10, 11] [8]) ?_
 refine AMx.loop (fun mm ss => ∃ (k : Nat), (k ≤ l.length) ∧ mm = l.length - k ∧ ss = AS.lst 24 [(3, vo 8), (9, vc (AL.Fnv.slI l)), (10, vc (i6 (List.length l : Int))), (11, vc (i6 (k : Int)))] [(8, AObj.grow 9 1 Bytes [] AL.Fnv.rowS ((List.take k l).map numS ++ List.replicate (l.length - k) []))]) ⟨0, ?_, rfl, ?_⟩ ?_
 · omega
 · rfl
 rintro mm ss ⟨k, hI, rfl, rfl⟩
 refine gS [] [] 24 [(3, vo 8), (9, vc (AL.Fnv.slI l)), (10, vc (i6 (List.length l : Int))), (11, vc (i6 (k : Int))), (12, vc (bo (decide ((k : Int) < (List.length l : Int)))))] [(8, AObj.grow 9 1 Bytes [] AL.Fnv.rowS ((List.take k l).map numS ++ List.replicate (l.length - k) []))] trivial ?_
 refine gQ ?_
 refine gC ((k : Int) < (List.length l : Int)) (fun hc1 => ?_) fun hc1 => ?_
 ·
  refine AMx.skip ?_
  refine gQ ?_
  refine AMx.block ?_
  refine gS [] [(0 : Int) ≤ (k : Int), (k : Int) < List.length l] 24 [(3, vo 8), (4, vc (i6 (k : Int))), (5, vc (i6 (List.getD l k 0))), (9, vc (AL.Fnv.slI l)), (10, vc (i6 (List.length l : Int))), (11, vc (i6 (k : Int)))] [(8, AObj.grow 9 1 Bytes [] AL.Fnv.rowS ((List.take k l).map numS ++ List.replicate (l.length - k) []))] ⟨(show (0 : Int) ≤ (k : Int) from (by omega)), (show (k : Int) < List.length l from (by omega))⟩ ?_
  refine gR [(3, CE.call [] [] (vc (st (numS (List.getD l k 0)))) []), (5, CE.obj (AObj.grow 9 1 Bytes [] AL.Fnv.rowS (List.set ((List.take k l).map numS ++ List.replicate (l.length - k) []) k (numS (List.getD l k 0)))))] [Spec Tryz.prog 64 [tc (i6 (List.getD l k 0))] (ofH []) (vc (st (numS (List.getD l k 0)))) (ofH []), (0 : Int) ≤ (k : Int), (k : Int) < List.length ((List.take k l).map numS ++ List.replicate (l.length - k) [] : List Bytes), StoreC k 0 [.s (st (numS (List.getD l k 0)))] (AObj.grow 9 1 Bytes [] AL.Fnv.rowS ((List.take k l).map numS ++ List.replicate (l.length - k) [])) (AObj.grow 9 1 Bytes [] AL.Fnv.rowS (List.set ((List.take k l).map numS ++ List.replicate (l.length - k) []) k (numS (List.getD l k 0))))] 24 [(3, vo 8), (9, vc (AL.Fnv.slI l)), (10, vc (i6 (List.length l : Int))), (11, vc (i6 (k : Int)))] [(8, AObj.grow 9 1 Bytes [] AL.Fnv.rowS (List.set ((List.take k l).map numS ++ List.replicate (l.length - k) []) k (numS (List.getD l k 0))))] ⟨(number_c (List.getD l k 0) (by first | omega | exact (hn _ (Lib.getD_mem 0 l k (by omega))).1 | exact (hn _ (Lib.getD_mem 0 l k (by omega))).2 | (have hz := list_len l; omega) | ((try simp only [List.length_append, List.length_cons, List.length_nil, List.length_replicate, List.length_map, List.length_take, List.length_drop, hex_len]); omega)) (by first | omega | exact (hn _ (Lib.getD_mem 0 l k (by omega))).1 | exact (hn _ (Lib.getD_mem 0 l k (by omega))).2 | (have hz := list_len l; omega) | ((try simp only [List.length_append, List.length_cons, List.length_nil, List.length_replicate, List.length_map, List.length_take, List.length_drop, hex_len]); omega))), (show (0 : Int) ≤ (k : Int) from (by omega)), (show (k : Int) < List.length ((List.take k l).map numS ++ List.replicate (l.length - k) [] : List Bytes) from (by first | omega | exact (hn _ (Lib.getD_mem 0 l k (by omega))).1 | exact (hn _ (Lib.getD_mem 0 l k (by omega))).2 | (have hz := list_len l; omega) | ((try simp only [List.length_append, List.length_cons, List.length_nil, List.length_replicate, List.length_map, List.length_take, List.length_drop, hex_len]); omega))), (⟨numS (List.getD l k 0), rfl, by first | omega | exact (hn _ (Lib.getD_mem 0 l k (by omega))).1 | exact (hn _ (Lib.getD_mem 0 l k (by omega))).2 | (have hz := list_len l; omega) | ((try simp only [List.length_append, List.length_cons, List.length_nil, List.length_replicate, List.length_map, List.length_take, List.length_drop, hex_len]); omega), rfl⟩)⟩ ?_
  refine AMx.blk ?_
  refine gR [] [InR .i64 ((k : Int) + 1)] 24 [(3, vo 8), (9, vc (AL.Fnv.slI l)), (10, vc (i6 (List.length l : Int))), (11, vc (i6 ((k : Int) + 1)))] [(8, AObj.grow 9 1 Bytes [] AL.Fnv.rowS (List.set ((List.take k l).map numS ++ List.replicate (l.length - k) []) k (numS (List.getD l k 0))))] (show InR .i64 ((k : Int) + 1) from (inR64 (by omega) (by omega))) ?_
  refine AMx.ent_inv (s' := AS.lst 24 [(3, vo 8), (9, vc (AL.Fnv.slI l)), (10, vc (i6 (List.length l : Int))), (11, vc (i6 ((k : Int) + 1)))] [(8, AObj.grow 9 1 Bytes [] AL.Fnv.rowS (List.set ((List.take k l).map numS ++ List.replicate (l.length - k) []) k (numS (List.getD l k 0))))]) (ent_proj [3, 9, 10, 11] [8]) ?_
  refine AMx.inv ⟨_, ?_, k + 1, ?_, rfl, ?_⟩
  rotate_left
  · omega
  · rw [← nums_step l k (by omega)]; rfl
  · omega
 ·
  refine AMx.exit ?_
  refine AMx.code_exit ?_
  refine AMx.inv_exit ?_
  refine AMx.blk_exit ?_
  rw [show (List.take k l).map numS ++ List.replicate (l.length - k) [] = l.map numS from nums_end l k (by omega)]
  refine gS [(1, CE.call [8] [] (vc (st (AL.Sep.joinC 44 (l.map numS)))) [])] [Spec Tryz.prog 84 [tc (AL.Fnv.slS (l.map numS)), tc (st [44])] (ofH []) (vc (st (AL.Sep.joinC 44 (l.map numS)))) (ofH [])] 24 [(2, vc (st (AL.Sep.joinC 44 (l.map numS))))] [] (AL.Sep.Join_c 44 (l.map numS) (by first | omega | exact (hn _ (Lib.getD_mem 0 l k (by omega))).1 | exact (hn _ (Lib.getD_mem 0 l k (by omega))).2 | (have hz := list_len l; omega) | ((try simp only [List.length_append, List.length_cons, List.length_nil, List.length_replicate, List.length_map, List.length_take, List.length_drop, hex_len]); omega))) ?_
  exact gT (vc (st (AL.Sep.joinC 44 (l.map numS)))) rfl
end AL.Ask
namespace AL.Ask
open Go Go.Proofs AL
set_option linter.unusedVariables false
set_option linter.unusedSimpArgs false
theorem f40_body : Tryz.f40.body = some (.seq (.region 0 (rg Tryz.f40 0) false) (.seq (.block 0 (.seq (.region 1 (rg Tryz.f40 1) false) (.cond (.tmp 3) (.seq (.region 2 (rg Tryz.f40 2) false) (.ret)) (.seq (.region 3 (rg Tryz.f40 3) false) (.cond (.tmp 13) (.seq (.region 4 (rg Tryz.f40 4) false) (.ret)) (.skip)))))) (.seq (.region 5 (rg Tryz.f40 5) false) (.ret)))) := by kernel_rfl
set_option maxRecDepth 100000 in
set_option maxHeartbeats 8000000 in
theorem digit_c (b : UInt8) : Pure Tryz.prog 40 [tc (u8 (b.toNat : Int))] (vc (i6 (digV b))) := by
 refine Pure.of_body Tryz.func40 f40_body (by kernel_rfl) Tryz.ntmps40 (by kernel_rfl) (by kernel_rfl) ?_
 refine gS [] [] 24 [(0, vc (u8 (b.toNat : Int)))] [] trivial ?_
 refine gQ ?_
 refine AMx.block ?_
 refine gS [] [((decide (48 ≤ (b.toNat : Int))) = true) → allP [], ((decide (48 ≤ (b.toNat : Int))) = true) → allP [(decide (48 ≤ (b.toNat : Int))) = true], (decide (48 ≤ (b.toNat : Int))) = true → allP [(decide (48 ≤ (b.toNat : Int))) = true]] 24 [(0, vc (u8 (b.toNat : Int))), (3, vc (bo ((decide (48 ≤ (b.toNat : Int))) && (decide ((b.toNat : Int) ≤ 57)))))] [] ⟨(fun _ => trivial), (fun hp => hp), (fun hp2 => (by first | exact hp2 | exact ⟨hp, hp2⟩))⟩ ?_
 refine gB (((decide (48 ≤ (b.toNat : Int))) && (decide ((b.toNat : Int) ≤ 57)))) (fun hc1 => ?_) fun hc1 => ?_
 ·
  try simp only [xT, xF, xA, xB] at hc1
  refine gS [] [] 24 [(2, vc (i6 (IntKind.wrap .u8 ((b.toNat : Int) - 48))))] [] trivial ?_
  rw [show IntKind.wrap .u8 ((b.toNat : Int) - 48) = (b.toNat : Int) - 48 from wrap_u8 (by omega) (by have := UInt8.toNat_lt b; omega)]
  exact gT (vc (i6 ((b.toNat : Int) - 48))) (by rw [show digV b = (b.toNat : Int) - 48 from dig_1 (by omega)])
 ·
  try simp only [xT, xF, xA, xB] at hc1
  refine gS [] [((decide (97 ≤ (b.toNat : Int))) = true) → allP [], ((decide (97 ≤ (b.toNat : Int))) = true) → allP [(decide (97 ≤ (b.toNat : Int))) = true], (decide (97 ≤ (b.toNat : Int))) = true → allP [(decide (97 ≤ (b.toNat : Int))) = true]] 24 [(0, vc (u8 (b.toNat : Int))), (13, vc (bo ((decide (97 ≤ (b.toNat : Int))) && (decide ((b.toNat : Int) ≤ 102)))))] [] ⟨(fun _ => trivial), (fun hp => hp), (fun hp2 => (by first | exact hp2 | exact ⟨hp, hp2⟩))⟩ ?_
  refine gB (((decide (97 ≤ (b.toNat : Int))) && (decide ((b.toNat : Int) ≤ 102)))) (fun hc2 => ?_) fun hc2 => ?_
  ·
   try simp only [xT, xF, xA, xB] at hc2
   refine gS [] [InR .i64 ((IntKind.wrap .u8 ((b.toNat : Int) - 97)) + 10)] 24 [(2, vc (i6 ((IntKind.wrap .u8 ((b.toNat : Int) - 97)) + 10)))] [] (show InR .i64 ((IntKind.wrap .u8 ((b.toNat : Int) - 97)) + 10) from (inR64 (by first | omega | (have hb := UInt8.toNat_lt b; first | omega | (have hw := wrap_u8 (n := (b.toNat : Int) - 97) (by omega) (by omega); omega))) (by first | omega | (have hb := UInt8.toNat_lt b; first | omega | (have hw := wrap_u8 (n := (b.toNat : Int) - 97) (by omega) (by omega); omega))))) ?_
   rw [show IntKind.wrap .u8 ((b.toNat : Int) - 97) = (b.toNat : Int) - 97 from wrap_u8 (by omega) (by have := UInt8.toNat_lt b; omega)]
   exact gT (vc (i6 (((b.toNat : Int) - 97) + 10))) (by rw [show digV b = ((b.toNat : Int) - 97) + 10 from dig_2 (by omega)])
  ·
   try simp only [xT, xF, xA, xB] at hc2
   refine AMx.skip ?_
   refine AMx.blk ?_
   refine gS [] [] 24 [(2, vc (i6 (-1)))] [] trivial ?_
   exact gT (vc (i6 (-1))) (by rw [show digV b = (-1) from dig_3 (by omega)])
theorem f19_body : Tryz.f19.body = some (.seq (.region 0 (rg Tryz.f19 0) false) (.seq (.region 1 (rg Tryz.f19 1) false) (.seq (.seq (.region 2 (rg Tryz.f19 2) false) (.block 0 (.loop (.seq (.region 3 (rg Tryz.f19 3) false) (.seq (.cond (.tmp 14) (.skip) (.exit 0)) (.seq (.block 1 (.seq (.region 4 (rg Tryz.f19 4) false) (.region 5 (rg Tryz.f19 5) true))) (.region 6 (rg Tryz.f19 6) false))))))) (.seq (.region 7 (rg Tryz.f19 7) false) (.ret))))) := by kernel_rfl
set_option maxRecDepth 100000 in
set_option maxHeartbeats 8000000 in
theorem Hex_c (s : Bytes) (hb : s.length ≤ 100000) : Pure Tryz.prog 19 [tc (st s)] (vc (st (hexS s))) := by
 refine Pure.of_body Tryz.func19 f19_body (by kernel_rfl) Tryz.ntmps19 (by kernel_rfl) (by kernel_rfl) ?_
 refine gS [] [] 29 [(0, vc (st s))] [] trivial ?_
 refine gS [(3, CE.obj (AObj.grow 5 1 UInt8 0 rowU8 (List.replicate 0 0)))] [InR .i64 (2 * (List.length s : Int)), 0 ≤ (0 : Int), (0 : Int) ≤ 2 * (List.length s : Int), (1 : Int) * (2 * (List.length s : Int)) ≤ 281474976710656, 2 * (List.length s : Int) ≤ 9223372036854775807, MakeC 0 [.s (u8 0)] (AObj.grow 5 1 UInt8 0 rowU8 (List.replicate 0 0))] 29 [(0, vc (st s)), (3, vo 9)] [(9, AObj.grow 5 1 UInt8 0 rowU8 (List.replicate 0 0))] ⟨(show InR .i64 (2 * (List.length s : Int)) from (inR64 (by omega) (by omega))), (show 0 ≤ (0 : Int) from (by omega)), (show (0 : Int) ≤ 2 * (List.length s : Int) from (by omega)), (show (1 : Int) * (2 * (List.length s : Int)) ≤ 281474976710656 from (by omega)), (show 2 * (List.length s : Int) ≤ 9223372036854775807 from (by omega)), (⟨_, rfl, rfl⟩)⟩ ?_
 refine gQ ?_
 refine gS [] [] 29 [(3, vo 9), (11, vc (SC.sl 1 UInt8 0 rowU8 s)), (12, vc (i6 (List.length s : Int))), (13, vc (i6 0))] [(9, AObj.grow 5 1 UInt8 0 rowU8 (List.replicate 0 0))] trivial ?_
 refine AMx.block ?_
 refine AMx.ent (s' := AS.lst 29 [(3, vo 9), (11, vc (SC.sl 1 UInt8 0 rowU8 s)), (12, vc (i6 (List.length s : Int))), (13, vc (i6 0))] [(9, AObj.grow 5 1 UInt8 0 rowU8 (List.replicate 0 0))]) (ent_proj [3, 11, 12, 13] [9]) ?_
 refine AMx.loop (fun mm ss => ∃ (k : Nat), (k ≤ s.length) ∧ mm = s.length - k ∧ ss = AS.lst 29 [(3, vo 9), (11, vc (SC.sl 1 UInt8 0 rowU8 s)), (12, vc (i6 (List.length s : Int))), (13, vc (i6 (k : Int)))] [(9, AObj.grow 5 1 UInt8 0 rowU8 (hexS (List.take k s)))]) ⟨0, ?_, rfl, ?_⟩ ?_
 · omega
 · rfl
 rintro mm ss ⟨k, hI, rfl, rfl⟩
 refine gS [] [] 29 [(3, vo 9), (11, vc (SC.sl 1 UInt8 0 rowU8 s)), (12, vc (i6 (List.length s : Int))), (13, vc (i6 (k : Int))), (14, vc (bo (decide ((k : Int) < (List.length s : Int)))))] [(9, AObj.grow 5 1 UInt8 0 rowU8 (hexS (List.take k s)))] trivial ?_
 refine gQ ?_
 refine gC ((k : Int) < (List.length s : Int)) (fun hc1 => ?_) fun hc1 => ?_
 ·
  refine AMx.skip ?_
  refine gQ ?_
  refine AMx.block ?_
  refine gS [] [(0 : Int) ≤ (k : Int), (k : Int) < List.length s] 29 [(3, vo 9), (5, vc (u8 ((List.getD s k 0).toNat : Int))), (11, vc (SC.sl 1 UInt8 0 rowU8 s)), (12, vc (i6 (List.length s : Int))), (13, vc (i6 (k : Int)))] [(9, AObj.grow 5 1 UInt8 0 rowU8 (hexS (List.take k s)))] ⟨(show (0 : Int) ≤ (k : Int) from (by omega)), (show (k : Int) < List.length s from (by omega))⟩ ?_
  refine gX [(7, CE.obj (AObj.grow 5 1 UInt8 0 rowU8 (hexB (List.getD s k 0)))), (8, CE.obj (AObj.grow 5 1 UInt8 0 rowU8 ((hexS (List.take k s)) ++ (hexB (List.getD s k 0)))))] [(8, [9, 24])] [(0 : Int) ≤ 4, (0 : Int) ≤ Int.fdiv ((List.getD s k 0).toNat : Int) (2 ^ (min (4 : Int).toNat (IntKind.bits .u8))), Int.fdiv ((List.getD s k 0).toNat : Int) (2 ^ (min (4 : Int).toNat (IntKind.bits .u8))) < List.length ([48, 49, 50, 51, 52, 53, 54, 55, 56, 57, 97, 98, 99, 100, 101, 102] : List UInt8), (0 : Int) ≤ IntKind.wrap .u8 ((BitVec.ofInt 8 ((List.getD s k 0).toNat : Int) &&& BitVec.ofInt 8 15).toNat), IntKind.wrap .u8 ((BitVec.ofInt 8 ((List.getD s k 0).toNat : Int) &&& BitVec.ofInt 8 15).toNat) < List.length ([48, 49, 50, 51, 52, 53, 54, 55, 56, 57, 97, 98, 99, 100, 101, 102] : List UInt8), flat 1 rowU8 (hexB (List.getD s k 0)) = [.s (u8 ((List.getD ([48, 49, 50, 51, 52, 53, 54, 55, 56, 57, 97, 98, 99, 100, 101, 102] : List UInt8) (Int.fdiv ((List.getD s k 0).toNat : Int) (2 ^ (min (4 : Int).toNat (IntKind.bits .u8)))).toNat 0).toNat : Int)), .s (u8 ((List.getD ([48, 49, 50, 51, 52, 53, 54, 55, 56, 57, 97, 98, 99, 100, 101, 102] : List UInt8) (IntKind.wrap .u8 ((BitVec.ofInt 8 ((List.getD s k 0).toNat : Int) &&& BitVec.ofInt 8 15).toNat)).toNat 0).toNat : Int))], List.length (hexB (List.getD s k 0) : List UInt8) = 2, AppC (flat 1 rowU8 (hexB (List.getD s k 0))) (List.length (hexB (List.getD s k 0) : List UInt8)) 1 (AObj.grow 5 1 UInt8 0 rowU8 (hexS (List.take k s))) (AObj.grow 5 1 UInt8 0 rowU8 ((hexS (List.take k s)) ++ (hexB (List.getD s k 0))))] 29 [(3, vo 25), (11, vc (SC.sl 1 UInt8 0 rowU8 s)), (12, vc (i6 (List.length s : Int))), (13, vc (i6 (k : Int)))] [(25, AObj.grow 5 1 UInt8 0 rowU8 ((hexS (List.take k s)) ++ (hexB (List.getD s k 0))))] mixed ⟨(show (0 : Int) ≤ 4 from (by omega)), (show (0 : Int) ≤ Int.fdiv ((List.getD s k 0).toNat : Int) (2 ^ (min (4 : Int).toNat (IntKind.bits .u8))) from (by first | omega | (have hq := UInt8.toNat_lt (List.getD s k 0); have hr := hex_idx (List.getD s k 0).toNat hq; first | omega | ((try simp only [List.length_append, List.length_cons, List.length_nil, List.length_replicate, List.length_map, List.length_take, List.length_drop, hex_len]); omega)))), (show Int.fdiv ((List.getD s k 0).toNat : Int) (2 ^ (min (4 : Int).toNat (IntKind.bits .u8))) < List.length ([48, 49, 50, 51, 52, 53, 54, 55, 56, 57, 97, 98, 99, 100, 101, 102] : List UInt8) from (by first | omega | (have hq := UInt8.toNat_lt (List.getD s k 0); have hr := hex_idx (List.getD s k 0).toNat hq; first | omega | ((try simp only [List.length_append, List.length_cons, List.length_nil, List.length_replicate, List.length_map, List.length_take, List.length_drop, hex_len]); omega)))), (show (0 : Int) ≤ IntKind.wrap .u8 ((BitVec.ofInt 8 ((List.getD s k 0).toNat : Int) &&& BitVec.ofInt 8 15).toNat) from (by first | omega | (have hq := UInt8.toNat_lt (List.getD s k 0); have hr := hex_idx (List.getD s k 0).toNat hq; first | omega | ((try simp only [List.length_append, List.length_cons, List.length_nil, List.length_replicate, List.length_map, List.length_take, List.length_drop, hex_len]); omega)))), (show IntKind.wrap .u8 ((BitVec.ofInt 8 ((List.getD s k 0).toNat : Int) &&& BitVec.ofInt 8 15).toNat) < List.length ([48, 49, 50, 51, 52, 53, 54, 55, 56, 57, 97, 98, 99, 100, 101, 102] : List UInt8) from (by first | omega | (have hq := UInt8.toNat_lt (List.getD s k 0); have hr := hex_idx (List.getD s k 0).toNat hq; first | omega | ((try simp only [List.length_append, List.length_cons, List.length_nil, List.length_replicate, List.length_map, List.length_take, List.length_drop, hex_len]); omega)))), (hex_two (List.getD s k 0)), rfl, (⟨_, rfl, rfl, rfl, by simp only [hexB, List.length_append, List.length_cons, List.length_nil, List.length_replicate, List.length_map, List.length_take, List.length_drop, hex_len]; omega, by simp only [hexB, maxLen, List.length_append, List.length_cons, List.length_nil, List.length_replicate, List.length_map, List.length_take, List.length_drop, hex_len]; omega⟩)⟩ ?_
  refine AMx.blk ?_
  refine gR [] [InR .i64 ((k : Int) + 1)] 29 [(3, vo 25), (11, vc (SC.sl 1 UInt8 0 rowU8 s)), (12, vc (i6 (List.length s : Int))), (13, vc (i6 ((k : Int) + 1)))] [(25, AObj.grow 5 1 UInt8 0 rowU8 ((hexS (List.take k s)) ++ (hexB (List.getD s k 0))))] (show InR .i64 ((k : Int) + 1) from (inR64 (by omega) (by omega))) ?_
  refine AMx.ent_inv (s' := AS.lst 29 [(3, vo 9), (11, vc (SC.sl 1 UInt8 0 rowU8 s)), (12, vc (i6 (List.length s : Int))), (13, vc (i6 ((k : Int) + 1)))] [(9, AObj.grow 5 1 UInt8 0 rowU8 ((hexS (List.take k s)) ++ (hexB (List.getD s k 0))))]) (ent_swap 25 9 (by kernel_rfl) (by kernel_rfl)) ?_
  refine AMx.ent_inv (s' := AS.lst 29 [(3, vo 9), (11, vc (SC.sl 1 UInt8 0 rowU8 s)), (12, vc (i6 (List.length s : Int))), (13, vc (i6 ((k : Int) + 1)))] [(9, AObj.grow 5 1 UInt8 0 rowU8 ((hexS (List.take k s)) ++ (hexB (List.getD s k 0))))]) (ent_proj [3, 11, 12, 13] [9]) ?_
  refine AMx.inv ⟨_, ?_, k + 1, ?_, rfl, ?_⟩
  rotate_left
  · omega
  · rw [← hex_step s k (by omega)]; rfl
  · omega
 ·
  refine AMx.exit ?_
  refine AMx.code_exit ?_
  refine AMx.inv_exit ?_
  refine AMx.blk_exit ?_
  rw [show List.take k s = s from List.take_of_length_le (by omega)]
  refine gS [(1, CE.str (hexS s))] [flat 1 rowU8 (hexS s) = flat 1 rowU8 (hexS s), List.length (hexS s : List UInt8) = List.length (hexS s : List UInt8), (List.length (hexS s : List UInt8) : Int) ≤ 140737488355328] 29 [(2, vc (st (hexS s)))] [] ⟨rfl, rfl, (show (List.length (hexS s : List UInt8) : Int) ≤ 140737488355328 from (by first | omega | (have hq := UInt8.toNat_lt (List.getD s k 0); have hr := hex_idx (List.getD s k 0).toNat hq; first | omega | ((try simp only [List.length_append, List.length_cons, List.length_nil, List.length_replicate, List.length_map, List.length_take, List.length_drop, hex_len]); omega))))⟩ ?_
  exact gT (vc (st (hexS s))) rfl
theorem f69_body : Tryz.f69.body = some (.seq (.region 0 (rg Tryz.f69 0) false) (.seq (.region 1 (rg Tryz.f69 1) false) (.seq (.region 2 (rg Tryz.f69 2) false) (.seq (.seq (.region 3 (rg Tryz.f69 3) false) (.block 0 (.loop (.seq (.seq (.region 4 (rg Tryz.f69 4) false) (.cond (.tmp 9) (.skip) (.exit 0))) (.seq (.block 1 (.region 6 (rg Tryz.f69 6) true)) (.region 5 (rg Tryz.f69 5) false)))))) (.seq (.region 7 (rg Tryz.f69 7) false) (.ret)))))) := by kernel_rfl
set_option maxRecDepth 100000 in
set_option maxHeartbeats 8000000 in
theorem RHex_c (s : Bytes) (hb : s.length ≤ 100000) : Pure Tryz.prog 69 [tc (st s)] (vc (st (hexS s))) := by
 refine Pure.of_body Tryz.func69 f69_body (by kernel_rfl) Tryz.ntmps69 (by kernel_rfl) (by kernel_rfl) ?_
 refine gS [] [] 29 [(0, vc (st s))] [] trivial ?_
 refine gS [] [] 29 [(0, vc (st s)), (3, vc (st [48, 49, 50, 51, 52, 53, 54, 55, 56, 57, 97, 98, 99, 100, 101, 102]))] [] trivial ?_
 refine gS [] [] 29 [(0, vc (st s)), (3, vc (st [48, 49, 50, 51, 52, 53, 54, 55, 56, 57, 97, 98, 99, 100, 101, 102])), (4, vc (SC.nilsl))] [] trivial ?_
 refine gQ ?_
 refine gS [] [] 29 [(0, vc (st s)), (3, vc (st [48, 49, 50, 51, 52, 53, 54, 55, 56, 57, 97, 98, 99, 100, 101, 102])), (4, vc (SC.nilsl)), (5, vc (i6 0))] [] trivial ?_
 refine AMx.block ?_
 refine AMx.ent (s' := AS.lst 29 [(0, vc (st s)), (3, vc (st [48, 49, 50, 51, 52, 53, 54, 55, 56, 57, 97, 98, 99, 100, 101, 102])), (4, vo 4), (5, vc (i6 0))] [(4, AObj.grow 5 1 UInt8 0 rowU8 [])]) (ent_adopt (t := 4) (d := 4) 5 1 UInt8 0 rowU8 (by kernel_rfl) (by kernel_rfl) (by kernel_rfl) (by kernel_rfl)) ?_
 refine AMx.ent (s' := AS.lst 29 [(0, vc (st s)), (3, vc (st [48, 49, 50, 51, 52, 53, 54, 55, 56, 57, 97, 98, 99, 100, 101, 102])), (4, vo 4), (5, vc (i6 0))] [(4, AObj.grow 5 1 UInt8 0 rowU8 [])]) (ent_proj [0, 3, 4, 5] [4]) ?_
 refine AMx.loop (fun mm ss => ∃ (i : Nat), (i ≤ s.length) ∧ mm = s.length - i ∧ ss = AS.lst 29 [(0, vc (st s)), (3, vc (st [48, 49, 50, 51, 52, 53, 54, 55, 56, 57, 97, 98, 99, 100, 101, 102])), (4, vo 4), (5, vc (i6 (i : Int)))] [(4, AObj.grow 5 1 UInt8 0 rowU8 (hexS (List.take i s)))]) ⟨0, ?_, rfl, ?_⟩ ?_
 · omega
 · rfl
 rintro mm ss ⟨i, hI, rfl, rfl⟩
 refine gQ ?_
 refine gS [] [] 29 [(0, vc (st s)), (3, vc (st [48, 49, 50, 51, 52, 53, 54, 55, 56, 57, 97, 98, 99, 100, 101, 102])), (4, vo 4), (5, vc (i6 (i : Int))), (9, vc (bo (decide ((i : Int) < (List.length s : Int)))))] [(4, AObj.grow 5 1 UInt8 0 rowU8 (hexS (List.take i s)))] trivial ?_
 refine gC ((i : Int) < (List.length s : Int)) (fun hc1 => ?_) fun hc1 => ?_
 ·
  refine AMx.skip ?_
  refine gQ ?_
  refine AMx.block ?_
  refine gX [(13, CE.obj (AObj.grow 5 1 UInt8 0 rowU8 (hexB (List.getD s i 0)))), (14, CE.obj (AObj.grow 5 1 UInt8 0 rowU8 ((hexS (List.take i s)) ++ (hexB (List.getD s i 0)))))] [(14, [4, 25])] [(0 : Int) ≤ (i : Int), (i : Int) < List.length s, (16 : Int) ≠ 0, (0 : Int) ≤ IntKind.wrap .u8 (Int.tdiv ((List.getD s i 0).toNat : Int) 16), IntKind.wrap .u8 (Int.tdiv ((List.getD s i 0).toNat : Int) 16) < List.length ([48, 49, 50, 51, 52, 53, 54, 55, 56, 57, 97, 98, 99, 100, 101, 102] : List UInt8), (0 : Int) ≤ (i : Int), (i : Int) < List.length s, (16 : Int) ≠ 0, (0 : Int) ≤ Int.tmod ((List.getD s i 0).toNat : Int) 16, Int.tmod ((List.getD s i 0).toNat : Int) 16 < List.length ([48, 49, 50, 51, 52, 53, 54, 55, 56, 57, 97, 98, 99, 100, 101, 102] : List UInt8), flat 1 rowU8 (hexB (List.getD s i 0)) = [.s (u8 ((List.getD ([48, 49, 50, 51, 52, 53, 54, 55, 56, 57, 97, 98, 99, 100, 101, 102] : List UInt8) (IntKind.wrap .u8 (Int.tdiv ((List.getD s i 0).toNat : Int) 16)).toNat 0).toNat : Int)), .s (u8 ((List.getD ([48, 49, 50, 51, 52, 53, 54, 55, 56, 57, 97, 98, 99, 100, 101, 102] : List UInt8) (Int.tmod ((List.getD s i 0).toNat : Int) 16).toNat 0).toNat : Int))], List.length (hexB (List.getD s i 0) : List UInt8) = 2, AppC (flat 1 rowU8 (hexB (List.getD s i 0))) (List.length (hexB (List.getD s i 0) : List UInt8)) 1 (AObj.grow 5 1 UInt8 0 rowU8 (hexS (List.take i s))) (AObj.grow 5 1 UInt8 0 rowU8 ((hexS (List.take i s)) ++ (hexB (List.getD s i 0))))] 29 [(0, vc (st s)), (3, vc (st [48, 49, 50, 51, 52, 53, 54, 55, 56, 57, 97, 98, 99, 100, 101, 102])), (4, vo 26), (5, vc (i6 (i : Int)))] [(26, AObj.grow 5 1 UInt8 0 rowU8 ((hexS (List.take i s)) ++ (hexB (List.getD s i 0))))] mixed ⟨(show (0 : Int) ≤ (i : Int) from (by omega)), (show (i : Int) < List.length s from (by omega)), (show (16 : Int) ≠ 0 from (by omega)), (show (0 : Int) ≤ IntKind.wrap .u8 (Int.tdiv ((List.getD s i 0).toNat : Int) 16) from (by first | omega | (have hq := UInt8.toNat_lt (List.getD s i 0); have hr := hex_idr (List.getD s i 0).toNat hq; first | omega | ((try simp only [List.length_append, List.length_cons, List.length_nil, List.length_replicate, List.length_map, List.length_take, List.length_drop, hex_len]); omega)))), (show IntKind.wrap .u8 (Int.tdiv ((List.getD s i 0).toNat : Int) 16) < List.length ([48, 49, 50, 51, 52, 53, 54, 55, 56, 57, 97, 98, 99, 100, 101, 102] : List UInt8) from (by first | omega | (have hq := UInt8.toNat_lt (List.getD s i 0); have hr := hex_idr (List.getD s i 0).toNat hq; first | omega | ((try simp only [List.length_append, List.length_cons, List.length_nil, List.length_replicate, List.length_map, List.length_take, List.length_drop, hex_len]); omega)))), (show (0 : Int) ≤ (i : Int) from (by omega)), (show (i : Int) < List.length s from (by omega)), (show (16 : Int) ≠ 0 from (by omega)), (show (0 : Int) ≤ Int.tmod ((List.getD s i 0).toNat : Int) 16 from (by first | omega | (have hq := UInt8.toNat_lt (List.getD s i 0); have hr := hex_idr (List.getD s i 0).toNat hq; first | omega | ((try simp only [List.length_append, List.length_cons, List.length_nil, List.length_replicate, List.length_map, List.length_take, List.length_drop, hex_len]); omega)))), (show Int.tmod ((List.getD s i 0).toNat : Int) 16 < List.length ([48, 49, 50, 51, 52, 53, 54, 55, 56, 57, 97, 98, 99, 100, 101, 102] : List UInt8) from (by first | omega | (have hq := UInt8.toNat_lt (List.getD s i 0); have hr := hex_idr (List.getD s i 0).toNat hq; first | omega | ((try simp only [List.length_append, List.length_cons, List.length_nil, List.length_replicate, List.length_map, List.length_take, List.length_drop, hex_len]); omega)))), (hex_twr (List.getD s i 0)), rfl, (⟨_, rfl, rfl, rfl, by simp only [hexB, List.length_append, List.length_cons, List.length_nil, List.length_replicate, List.length_map, List.length_take, List.length_drop, hex_len]; omega, by simp only [hexB, maxLen, List.length_append, List.length_cons, List.length_nil, List.length_replicate, List.length_map, List.length_take, List.length_drop, hex_len]; omega⟩)⟩ ?_
  refine AMx.blk ?_
  refine gR [] [InR .i64 ((i : Int) + 1)] 29 [(0, vc (st s)), (3, vc (st [48, 49, 50, 51, 52, 53, 54, 55, 56, 57, 97, 98, 99, 100, 101, 102])), (4, vo 26), (5, vc (i6 ((i : Int) + 1)))] [(26, AObj.grow 5 1 UInt8 0 rowU8 ((hexS (List.take i s)) ++ (hexB (List.getD s i 0))))] (show InR .i64 ((i : Int) + 1) from (inR64 (by omega) (by omega))) ?_
  refine AMx.ent_inv (s' := AS.lst 29 [(0, vc (st s)), (3, vc (st [48, 49, 50, 51, 52, 53, 54, 55, 56, 57, 97, 98, 99, 100, 101, 102])), (4, vo 4), (5, vc (i6 ((i : Int) + 1)))] [(4, AObj.grow 5 1 UInt8 0 rowU8 ((hexS (List.take i s)) ++ (hexB (List.getD s i 0))))]) (ent_swap 26 4 (by kernel_rfl) (by kernel_rfl)) ?_
  refine AMx.ent_inv (s' := AS.lst 29 [(0, vc (st s)), (3, vc (st [48, 49, 50, 51, 52, 53, 54, 55, 56, 57, 97, 98, 99, 100, 101, 102])), (4, vo 4), (5, vc (i6 ((i : Int) + 1)))] [(4, AObj.grow 5 1 UInt8 0 rowU8 ((hexS (List.take i s)) ++ (hexB (List.getD s i 0))))]) (ent_proj [0, 3, 4, 5] [4]) ?_
  refine AMx.inv ⟨_, ?_, i + 1, ?_, rfl, ?_⟩
  rotate_left
  · omega
  · rw [← hex_step s i (by omega)]; rfl
  · omega
 ·
  refine AMx.exit ?_
  refine AMx.code_exit ?_
  refine AMx.inv_exit ?_
  refine AMx.blk_exit ?_
  rw [show List.take i s = s from List.take_of_length_le (by omega)]
  refine gS [(1, CE.str (hexS s))] [flat 1 rowU8 (hexS s) = flat 1 rowU8 (hexS s), List.length (hexS s : List UInt8) = List.length (hexS s : List UInt8), (List.length (hexS s : List UInt8) : Int) ≤ 140737488355328] 29 [(2, vc (st (hexS s)))] [] ⟨rfl, rfl, (show (List.length (hexS s : List UInt8) : Int) ≤ 140737488355328 from (by first | omega | (have hq := UInt8.toNat_lt (List.getD s i 0); have hr := hex_idr (List.getD s i 0).toNat hq; first | omega | ((try simp only [List.length_append, List.length_cons, List.length_nil, List.length_replicate, List.length_map, List.length_take, List.length_drop, hex_len]); omega))))⟩ ?_
  exact gT (vc (st (hexS s))) rfl
theorem f18_body : Tryz.f18.body = some (.seq (.region 0 (rg Tryz.f18 0) false) (.seq (.seq (.region 1 (rg Tryz.f18 1) false) (.cond (.tmp 11) (.seq (.region 2 (rg Tryz.f18 2) false) (.ret)) (.skip))) (.seq (.region 3 (rg Tryz.f18 3) false) (.seq (.seq (.region 4 (rg Tryz.f18 4) false) (.block 0 (.loop (.seq (.seq (.region 5 (rg Tryz.f18 5) false) (.cond (.tmp 19) (.skip) (.exit 0))) (.seq (.block 1 (.seq (.region 7 (rg Tryz.f18 7) true) (.seq (.seq (.region 8 (rg Tryz.f18 8) false) (.cond (.tmp 36) (.seq (.region 9 (rg Tryz.f18 9) false) (.ret)) (.skip))) (.region 10 (rg Tryz.f18 10) false)))) (.region 6 (rg Tryz.f18 6) false)))))) (.seq (.region 11 (rg Tryz.f18 11) false) (.ret)))))) := by kernel_rfl
set_option maxRecDepth 100000 in
set_option maxHeartbeats 8000000 in
theorem Unhex_c (s : Bytes) (hb : s.length ≤ 100000) : Pure Tryz.prog 18 [tc (st s)] (AV.tup [tc (st ((unhexS s).1)), tc (bo ((unhexS s).2))]) := by
 refine Pure.of_body Tryz.func18 f18_body (by kernel_rfl) Tryz.ntmps18 (by kernel_rfl) (by kernel_rfl) ?_
 have h2 := tmod_2 s.length
 have h3 := tdiv_2 s.length
 refine gS [] [] 47 [(0, vc (st s))] [] trivial ?_
 refine gQ ?_
 refine gS [] [(2 : Int) ≠ 0] 47 [(0, vc (st s)), (11, vc (bo (!decide (Int.tmod (List.length s : Int) 2 = 0))))] [] (show (2 : Int) ≠ 0 from (by omega)) ?_
 refine gN (Int.tmod (List.length s : Int) 2 = 0) (fun hc1 => ?_) fun hc1 => ?_
 ·
  refine gS [] [] 47 [(2, vc (st [])), (3, vc (bo false))] [] trivial ?_
  exact gT (AV.tup [tc (st []), tc (bo false)]) (by rw [show unhexS s = ([], false) from by first | rw [unhex_odd (by omega)] | (rcases hc3 with q | q <;> first | rw [unhex_bad (k := 2 * k) (by omega) q] | rw [unhex_bad (k := 2 * k + 1) (by omega) q])])
 ·
  refine AMx.skip ?_
  refine gS [(3, CE.obj (AObj.grow 5 1 UInt8 0 rowU8 (List.replicate 0 0)))] [(2 : Int) ≠ 0, InR .i64 (Int.tdiv (List.length s : Int) 2), 0 ≤ (0 : Int), (0 : Int) ≤ Int.tdiv (List.length s : Int) 2, (1 : Int) * (Int.tdiv (List.length s : Int) 2) ≤ 281474976710656, Int.tdiv (List.length s : Int) 2 ≤ 9223372036854775807, MakeC 0 [.s (u8 0)] (AObj.grow 5 1 UInt8 0 rowU8 (List.replicate 0 0))] 47 [(0, vc (st s)), (4, vo 15)] [(15, AObj.grow 5 1 UInt8 0 rowU8 (List.replicate 0 0))] ⟨(show (2 : Int) ≠ 0 from (by omega)), (show InR .i64 (Int.tdiv (List.length s : Int) 2) from (inR64 (by omega) (by omega))), (show 0 ≤ (0 : Int) from (by omega)), (show (0 : Int) ≤ Int.tdiv (List.length s : Int) 2 from (by omega)), (show (1 : Int) * (Int.tdiv (List.length s : Int) 2) ≤ 281474976710656 from (by omega)), (show Int.tdiv (List.length s : Int) 2 ≤ 9223372036854775807 from (by omega)), (⟨_, rfl, rfl⟩)⟩ ?_
  refine gQ ?_
  refine gS [] [] 47 [(0, vc (st s)), (4, vo 15), (5, vc (i6 0))] [(15, AObj.grow 5 1 UInt8 0 rowU8 (List.replicate 0 0))] trivial ?_
  refine AMx.block ?_
  refine AMx.ent (s' := AS.lst 47 [(0, vc (st s)), (4, vo 15), (5, vc (i6 0))] [(15, AObj.grow 5 1 UInt8 0 rowU8 (List.replicate 0 0))]) (ent_proj [0, 4, 5] [15]) ?_
  refine AMx.loop (fun mm ss => ∃ (k : Nat), (2 * k ≤ s.length ∧ HexTo s k) ∧ mm = s.length - 2 * k ∧ ss = AS.lst 47 [(0, vc (st s)), (4, vo 15), (5, vc (i6 ((2 * k : Nat) : Int)))] [(15, AObj.grow 5 1 UInt8 0 rowU8 (unpairs (List.take (2 * k) s)))]) ⟨0, ?_, rfl, ?_⟩ ?_
  · exact ⟨Nat.zero_le _, rfl⟩
  · rfl
  rintro mm ss ⟨k, ⟨hI, hN⟩, rfl, rfl⟩
  refine gQ ?_
  refine gS [] [] 47 [(0, vc (st s)), (4, vo 15), (5, vc (i6 ((2 * k : Nat) : Int))), (19, vc (bo (decide (((2 * k : Nat) : Int) < (List.length s : Int)))))] [(15, AObj.grow 5 1 UInt8 0 rowU8 (unpairs (List.take (2 * k) s)))] trivial ?_
  refine gC (((2 * k : Nat) : Int) < (List.length s : Int)) (fun hc2 => ?_) fun hc2 => ?_
  ·
   refine AMx.skip ?_
   refine gQ ?_
   refine AMx.block ?_
   refine gY [(3, CE.call [] [] (vc (i6 (digV (List.getD s (2 * k) 0)))) []), (8, CE.call [] [] (vc (i6 (digV (List.getD s ((2 * k) + 1) 0)))) [])] [] [(0 : Int) ≤ ((2 * k : Nat) : Int), ((2 * k : Nat) : Int) < List.length s, Spec Tryz.prog 40 [tc (u8 ((List.getD s (2 * k) 0).toNat : Int))] (ofH []) (vc (i6 (digV (List.getD s (2 * k) 0)))) (ofH []), InR .i64 (((2 * k : Nat) : Int) + 1), (0 : Int) ≤ ((2 * k : Nat) : Int) + 1, ((2 * k : Nat) : Int) + 1 < List.length s, Spec Tryz.prog 40 [tc (u8 ((List.getD s ((2 * k) + 1) 0).toNat : Int))] (ofH []) (vc (i6 (digV (List.getD s ((2 * k) + 1) 0)))) (ofH [])] 47 [(0, vc (st s)), (4, vo 15), (5, vc (i6 ((2 * k : Nat) : Int))), (6, vc (i6 (digV (List.getD s (2 * k) 0)))), (7, vc (i6 (digV (List.getD s ((2 * k) + 1) 0))))] [(15, AObj.grow 5 1 UInt8 0 rowU8 (unpairs (List.take (2 * k) s)))] mixed ⟨(show (0 : Int) ≤ ((2 * k : Nat) : Int) from (by omega)), (show ((2 * k : Nat) : Int) < List.length s from (by omega)), (digit_c (List.getD s (2 * k) 0)), (show InR .i64 (((2 * k : Nat) : Int) + 1) from (inR64 (by omega) (by omega))), (show (0 : Int) ≤ ((2 * k : Nat) : Int) + 1 from (by omega)), (show ((2 * k : Nat) : Int) + 1 < List.length s from (by omega)), (digit_c (List.getD s ((2 * k) + 1) 0))⟩ ?_
   refine gQ ?_
   refine gS [] [((decide (digV (List.getD s (2 * k) 0) < 0)) = false) → allP [], ((decide (digV (List.getD s (2 * k) 0) < 0)) = false) → allP [(decide (digV (List.getD s (2 * k) 0) < 0)) = false], (decide (digV (List.getD s (2 * k) 0) < 0)) = false → allP [(decide (digV (List.getD s (2 * k) 0) < 0)) = false]] 47 [(0, vc (st s)), (4, vo 15), (5, vc (i6 ((2 * k : Nat) : Int))), (6, vc (i6 (digV (List.getD s (2 * k) 0)))), (7, vc (i6 (digV (List.getD s ((2 * k) + 1) 0)))), (36, vc (bo ((decide (digV (List.getD s (2 * k) 0) < 0)) || (decide (digV (List.getD s ((2 * k) + 1) 0) < 0)))))] [(15, AObj.grow 5 1 UInt8 0 rowU8 (unpairs (List.take (2 * k) s)))] ⟨(fun _ => trivial), (fun hp => hp), (fun hp2 => (by first | exact hp2 | exact ⟨hp, hp2⟩))⟩ ?_
   refine gB (((decide (digV (List.getD s (2 * k) 0) < 0)) || (decide (digV (List.getD s ((2 * k) + 1) 0) < 0)))) (fun hc3 => ?_) fun hc3 => ?_
   ·
    try simp only [xT, xF, xO, xP] at hc3
    refine gS [] [] 47 [(2, vc (st [])), (3, vc (bo false))] [] trivial ?_
    exact gT (AV.tup [tc (st []), tc (bo false)]) (by rw [show unhexS s = ([], false) from by first | rw [unhex_odd (by omega)] | (rcases hc3 with q | q <;> first | rw [unhex_bad (k := 2 * k) (by omega) q] | rw [unhex_bad (k := 2 * k + 1) (by omega) q])])
   ·
    try simp only [xT, xF, xO, xP] at hc3
    refine AMx.skip ?_
    refine gR [(6, CE.obj (AObj.grow 5 1 UInt8 0 rowU8 [pairB (List.getD s (2 * k) 0) (List.getD s (2 * k + 1) 0)])), (7, CE.obj (AObj.grow 5 1 UInt8 0 rowU8 ((unpairs (List.take (2 * k) s)) ++ [pairB (List.getD s (2 * k) 0) (List.getD s (2 * k + 1) 0)])))] [(0 : Int) ≤ 4, InR .i64 ((digV (List.getD s (2 * k) 0)) * 2 ^ (min (4 : Int).toNat (IntKind.bits .i64))), flat 1 rowU8 [pairB (List.getD s (2 * k) 0) (List.getD s (2 * k + 1) 0)] = [.s (u8 (IntKind.wrap .u8 (IntKind.wrap .i64 ((BitVec.ofInt 64 ((digV (List.getD s (2 * k) 0)) * 2 ^ (min (4 : Int).toNat (IntKind.bits .i64))) ||| BitVec.ofInt 64 (digV (List.getD s ((2 * k) + 1) 0))).toNat))))], List.length ([pairB (List.getD s (2 * k) 0) (List.getD s (2 * k + 1) 0)] : List UInt8) = 1, AppC (flat 1 rowU8 [pairB (List.getD s (2 * k) 0) (List.getD s (2 * k + 1) 0)]) (List.length ([pairB (List.getD s (2 * k) 0) (List.getD s (2 * k + 1) 0)] : List UInt8)) 1 (AObj.grow 5 1 UInt8 0 rowU8 (unpairs (List.take (2 * k) s))) (AObj.grow 5 1 UInt8 0 rowU8 ((unpairs (List.take (2 * k) s)) ++ [pairB (List.getD s (2 * k) 0) (List.getD s (2 * k + 1) 0)]))] 47 [(0, vc (st s)), (4, vo 44), (5, vc (i6 ((2 * k : Nat) : Int)))] [(44, AObj.grow 5 1 UInt8 0 rowU8 ((unpairs (List.take (2 * k) s)) ++ [pairB (List.getD s (2 * k) 0) (List.getD s (2 * k + 1) 0)]))] ⟨(show (0 : Int) ≤ 4 from (by omega)), (show InR .i64 ((digV (List.getD s (2 * k) 0)) * 2 ^ (min (4 : Int).toNat (IntKind.bits .i64))) from (inR64 (by first | omega | (have hd1 := dig_rng (List.getD s (2 * k) 0); have hd2 := dig_rng (List.getD s (2 * k + 1) 0); first | omega | (have hp : (2 : Int) ^ (min (4 : Int).toNat (IntKind.bits .i64)) = 16 := rfl; rw [hp]; omega) | (have hl := un_len (List.take (2 * k) s); simp only [List.length_take] at hl; (try simp only [List.length_append, List.length_cons, List.length_nil, List.length_replicate, List.length_map, List.length_take, List.length_drop, hex_len]); omega))) (by first | omega | (have hd1 := dig_rng (List.getD s (2 * k) 0); have hd2 := dig_rng (List.getD s (2 * k + 1) 0); first | omega | (have hp : (2 : Int) ^ (min (4 : Int).toNat (IntKind.bits .i64)) = 16 := rfl; rw [hp]; omega) | (have hl := un_len (List.take (2 * k) s); simp only [List.length_take] at hl; (try simp only [List.length_append, List.length_cons, List.length_nil, List.length_replicate, List.length_map, List.length_take, List.length_drop, hex_len]); omega))))), (one_pair (by omega) (by omega)), rfl, (⟨_, rfl, rfl, rfl, by have hl := un_len (List.take (2 * k) s); simp only [List.length_append, List.length_cons, List.length_nil, List.length_replicate, List.length_map, List.length_take, List.length_drop, hex_len] at *; omega, by have hl := un_len (List.take (2 * k) s); simp only [maxLen, List.length_append, List.length_cons, List.length_nil, List.length_replicate, List.length_map, List.length_take, List.length_drop, hex_len] at *; omega⟩)⟩ ?_
    refine AMx.blk ?_
    refine gR [] [InR .i64 (((2 * k : Nat) : Int) + 2)] 47 [(0, vc (st s)), (4, vo 44), (5, vc (i6 (((2 * k : Nat) : Int) + 2)))] [(44, AObj.grow 5 1 UInt8 0 rowU8 ((unpairs (List.take (2 * k) s)) ++ [pairB (List.getD s (2 * k) 0) (List.getD s (2 * k + 1) 0)]))] (show InR .i64 (((2 * k : Nat) : Int) + 2) from (inR64 (by omega) (by omega))) ?_
    refine AMx.ent_inv (s' := AS.lst 47 [(0, vc (st s)), (4, vo 15), (5, vc (i6 (((2 * k : Nat) : Int) + 2)))] [(15, AObj.grow 5 1 UInt8 0 rowU8 ((unpairs (List.take (2 * k) s)) ++ [pairB (List.getD s (2 * k) 0) (List.getD s (2 * k + 1) 0)]))]) (ent_swap 44 15 (by kernel_rfl) (by kernel_rfl)) ?_
    refine AMx.ent_inv (s' := AS.lst 47 [(0, vc (st s)), (4, vo 15), (5, vc (i6 (((2 * k : Nat) : Int) + 2)))] [(15, AObj.grow 5 1 UInt8 0 rowU8 ((unpairs (List.take (2 * k) s)) ++ [pairB (List.getD s (2 * k) 0) (List.getD s (2 * k + 1) 0)]))]) (ent_proj [0, 4, 5] [15]) ?_
    refine AMx.inv ⟨_, ?_, k + 1, ?_, rfl, ?_⟩
    rotate_left
    · exact ⟨by omega, hexto_step (by omega) hN (by omega) (by omega)⟩
    · rw [← un_step k s (by omega)]; rfl
    · omega
  ·
   refine AMx.exit ?_
   refine AMx.code_exit ?_
   refine AMx.inv_exit ?_
   refine AMx.blk_exit ?_
   refine gS [(1, CE.str (unpairs (List.take (2 * k) s)))] [flat 1 rowU8 (unpairs (List.take (2 * k) s)) = flat 1 rowU8 (unpairs (List.take (2 * k) s)), List.length (unpairs (List.take (2 * k) s) : List UInt8) = List.length (unpairs (List.take (2 * k) s) : List UInt8), (List.length (unpairs (List.take (2 * k) s) : List UInt8) : Int) ≤ 140737488355328] 47 [(2, vc (st (unpairs (List.take (2 * k) s)))), (3, vc (bo true))] [] ⟨rfl, rfl, (show (List.length (unpairs (List.take (2 * k) s) : List UInt8) : Int) ≤ 140737488355328 from (by first | omega | (have hd1 := dig_rng (List.getD s (2 * k) 0); have hd2 := dig_rng (List.getD s (2 * k + 1) 0); first | omega | (have hp : (2 : Int) ^ (min (4 : Int).toNat (IntKind.bits .i64)) = 16 := rfl; rw [hp]; omega) | (have hl := un_len (List.take (2 * k) s); simp only [List.length_take] at hl; (try simp only [List.length_append, List.length_cons, List.length_nil, List.length_replicate, List.length_map, List.length_take, List.length_drop, hex_len]); omega))))⟩ ?_
   exact gT (AV.tup [tc (st (unpairs (List.take (2 * k) s))), tc (bo true)]) (by rw [show unhexS s = (unpairs (List.take (2 * k) s), true) from by rw [unhex_end (k := k) (by omega) hN]])
theorem f59_body : Tryz.f59.body = some (.seq (.region 0 (rg Tryz.f59 0) false) (.seq (.region 1 (rg Tryz.f59 1) false) (.seq (.seq (.region 2 (rg Tryz.f59 2) false) (.block 0 (.loop (.seq (.region 3 (rg Tryz.f59 3) false) (.seq (.cond (.tmp 10) (.skip) (.exit 0)) (.seq (.block 1 (.seq (.region 4 (rg Tryz.f59 4) false) (.region 5 (rg Tryz.f59 5) false))) (.region 6 (rg Tryz.f59 6) false))))))) (.seq (.region 7 (rg Tryz.f59 7) false) (.ret))))) := by kernel_rfl
set_option maxRecDepth 100000 in
set_option maxHeartbeats 8000000 in
theorem numbers_c (s : Bytes) (hb : s.length ≤ 100000) : Pure Tryz.prog 59 [tc (st s)] (vc (AL.Fnv.slI (numbersS s))) := by
 refine Pure.of_body Tryz.func59 f59_body (by kernel_rfl) Tryz.ntmps59 (by kernel_rfl) (by kernel_rfl) ?_
 have hsl := Policy.split_le 44 s
 refine gS [] [] 20 [(0, vc (st s))] [] trivial ?_
 refine gS [] [] 20 [(0, vc (st s)), (3, vc (SC.nilsl))] [] trivial ?_
 refine gQ ?_
 refine gS [(1, CE.call [] [] (vc (AL.Fnv.slS (AL.Sep.splitC 44 s))) [])] [Spec Tryz.prog 33 [tc (st s), tc (st [44])] (ofH []) (vc (AL.Fnv.slS (AL.Sep.splitC 44 s))) (ofH [])] 20 [(3, vc (SC.nilsl)), (7, vc (AL.Fnv.slS (AL.Sep.splitC 44 s))), (8, vc (i6 (List.length (AL.Sep.splitC 44 s : List Bytes) : Int))), (9, vc (i6 0))] [] (AL.Sep.Split_c 44 s (by omega)) ?_
 refine AMx.block ?_
 refine AMx.ent (s' := AS.lst 20 [(3, vo 3), (7, vc (AL.Fnv.slS (AL.Sep.splitC 44 s))), (8, vc (i6 (List.length (AL.Sep.splitC 44 s : List Bytes) : Int))), (9, vc (i6 0))] [(3, AObj.grow 3 1 Int 0 AL.Fnv.rowI [])]) (ent_adopt (t := 3) (d := 3) 3 1 Int 0 AL.Fnv.rowI (by kernel_rfl) (by kernel_rfl) (by kernel_rfl) (by kernel_rfl)) ?_
 refine AMx.ent (s' := AS.lst 20 [(3, vo 3), (7, vc (AL.Fnv.slS (AL.Sep.splitC 44 s))), (8, vc (i6 (List.length (AL.Sep.splitC 44 s : List Bytes) : Int))), (9, vc (i6 0))] [(3, AObj.grow 3 1 Int 0 AL.Fnv.rowI [])]) (ent_proj [3, 7, 8, 9] [3]) ?_
 refine AMx.loop (fun mm ss => ∃ (k : Nat), (k ≤ (AL.Sep.splitC 44 s).length) ∧ mm = (AL.Sep.splitC 44 s).length - k ∧ ss = AS.lst 20 [(3, vo 3), (7, vc (AL.Fnv.slS (AL.Sep.splitC 44 s))), (8, vc (i6 (List.length (AL.Sep.splitC 44 s : List Bytes) : Int))), (9, vc (i6 (k : Int)))] [(3, AObj.grow 3 1 Int 0 AL.Fnv.rowI ((List.take k (AL.Sep.splitC 44 s)).map scanN))]) ⟨0, ?_, rfl, ?_⟩ ?_
 · omega
 · rfl
 rintro mm ss ⟨k, hI, rfl, rfl⟩
 refine gS [] [] 20 [(3, vo 3), (7, vc (AL.Fnv.slS (AL.Sep.splitC 44 s))), (8, vc (i6 (List.length (AL.Sep.splitC 44 s : List Bytes) : Int))), (9, vc (i6 (k : Int))), (10, vc (bo (decide ((k : Int) < (List.length (AL.Sep.splitC 44 s : List Bytes) : Int)))))] [(3, AObj.grow 3 1 Int 0 AL.Fnv.rowI ((List.take k (AL.Sep.splitC 44 s)).map scanN))] trivial ?_
 refine gQ ?_
 refine gC ((k : Int) < (List.length (AL.Sep.splitC 44 s : List Bytes) : Int)) (fun hc1 => ?_) fun hc1 => ?_
 ·
  refine AMx.skip ?_
  refine gQ ?_
  refine AMx.block ?_
  refine gS [] [(0 : Int) ≤ (k : Int), (k : Int) < List.length (AL.Sep.splitC 44 s : List Bytes)] 20 [(3, vo 3), (5, vc (st (List.getD (AL.Sep.splitC 44 s) k []))), (7, vc (AL.Fnv.slS (AL.Sep.splitC 44 s))), (8, vc (i6 (List.length (AL.Sep.splitC 44 s : List Bytes) : Int))), (9, vc (i6 (k : Int)))] [(3, AObj.grow 3 1 Int 0 AL.Fnv.rowI ((List.take k (AL.Sep.splitC 44 s)).map scanN))] ⟨(show (0 : Int) ≤ (k : Int) from (by omega)), (show (k : Int) < List.length (AL.Sep.splitC 44 s : List Bytes) from (by omega))⟩ ?_
  refine gR [(2, CE.call [] [] (vc (i6 (scanN (List.getD (AL.Sep.splitC 44 s) k [])))) []), (3, CE.obj (AObj.grow 3 1 Int 0 AL.Fnv.rowI [scanN (List.getD (AL.Sep.splitC 44 s) k [])])), (4, CE.obj (AObj.grow 3 1 Int 0 AL.Fnv.rowI (((List.take k (AL.Sep.splitC 44 s)).map scanN) ++ [scanN (List.getD (AL.Sep.splitC 44 s) k [])])))] [Spec Tryz.prog 58 [tc (st (List.getD (AL.Sep.splitC 44 s) k []))] (ofH []) (vc (i6 (scanN (List.getD (AL.Sep.splitC 44 s) k [])))) (ofH []), flat 1 AL.Fnv.rowI [scanN (List.getD (AL.Sep.splitC 44 s) k [])] = [.s (i6 (scanN (List.getD (AL.Sep.splitC 44 s) k [])))], List.length ([scanN (List.getD (AL.Sep.splitC 44 s) k [])] : List Int) = 1, AppC (flat 1 AL.Fnv.rowI [scanN (List.getD (AL.Sep.splitC 44 s) k [])]) (List.length ([scanN (List.getD (AL.Sep.splitC 44 s) k [])] : List Int)) 8 (AObj.grow 3 1 Int 0 AL.Fnv.rowI ((List.take k (AL.Sep.splitC 44 s)).map scanN)) (AObj.grow 3 1 Int 0 AL.Fnv.rowI (((List.take k (AL.Sep.splitC 44 s)).map scanN) ++ [scanN (List.getD (AL.Sep.splitC 44 s) k [])]))] 20 [(3, vo 17), (7, vc (AL.Fnv.slS (AL.Sep.splitC 44 s))), (8, vc (i6 (List.length (AL.Sep.splitC 44 s : List Bytes) : Int))), (9, vc (i6 (k : Int)))] [(17, AObj.grow 3 1 Int 0 AL.Fnv.rowI (((List.take k (AL.Sep.splitC 44 s)).map scanN) ++ [scanN (List.getD (AL.Sep.splitC 44 s) k [])]))] ⟨(numberOf_c (List.getD (AL.Sep.splitC 44 s) k [])), rfl, rfl, (⟨_, rfl, rfl, rfl, by simp only [List.length_append, List.length_cons, List.length_nil, List.length_replicate, List.length_map, List.length_take, List.length_drop, hex_len]; omega, by simp only [maxLen, List.length_append, List.length_cons, List.length_nil, List.length_replicate, List.length_map, List.length_take, List.length_drop, hex_len]; omega⟩)⟩ ?_
  refine AMx.blk ?_
  refine gR [] [InR .i64 ((k : Int) + 1)] 20 [(3, vo 17), (7, vc (AL.Fnv.slS (AL.Sep.splitC 44 s))), (8, vc (i6 (List.length (AL.Sep.splitC 44 s : List Bytes) : Int))), (9, vc (i6 ((k : Int) + 1)))] [(17, AObj.grow 3 1 Int 0 AL.Fnv.rowI (((List.take k (AL.Sep.splitC 44 s)).map scanN) ++ [scanN (List.getD (AL.Sep.splitC 44 s) k [])]))] (show InR .i64 ((k : Int) + 1) from (inR64 (by omega) (by omega))) ?_
  refine AMx.ent_inv (s' := AS.lst 20 [(3, vo 3), (7, vc (AL.Fnv.slS (AL.Sep.splitC 44 s))), (8, vc (i6 (List.length (AL.Sep.splitC 44 s : List Bytes) : Int))), (9, vc (i6 ((k : Int) + 1)))] [(3, AObj.grow 3 1 Int 0 AL.Fnv.rowI (((List.take k (AL.Sep.splitC 44 s)).map scanN) ++ [scanN (List.getD (AL.Sep.splitC 44 s) k [])]))]) (ent_swap 17 3 (by kernel_rfl) (by kernel_rfl)) ?_
  refine AMx.ent_inv (s' := AS.lst 20 [(3, vo 3), (7, vc (AL.Fnv.slS (AL.Sep.splitC 44 s))), (8, vc (i6 (List.length (AL.Sep.splitC 44 s : List Bytes) : Int))), (9, vc (i6 ((k : Int) + 1)))] [(3, AObj.grow 3 1 Int 0 AL.Fnv.rowI (((List.take k (AL.Sep.splitC 44 s)).map scanN) ++ [scanN (List.getD (AL.Sep.splitC 44 s) k [])]))]) (ent_proj [3, 7, 8, 9] [3]) ?_
  refine AMx.inv ⟨_, ?_, k + 1, ?_, rfl, ?_⟩
  rotate_left
  · omega
  · rw [← scans_step (AL.Sep.splitC 44 s) k (by omega)]; rfl
  · omega
 ·
  refine AMx.exit ?_
  refine AMx.code_exit ?_
  refine AMx.inv_exit ?_
  refine AMx.blk_exit ?_
  rw [show List.take k (AL.Sep.splitC 44 s) = AL.Sep.splitC 44 s from List.take_of_length_le (by omega)]
  refine gS [] [] 20 [(2, vo 3)] [(3, AObj.grow 3 1 Int 0 AL.Fnv.rowI ((AL.Sep.splitC 44 s).map scanN))] trivial ?_
  refine AMx.ent (s' := AS.lst 20 [(2, vc (AL.Fnv.slI ((AL.Sep.splitC 44 s).map scanN)))] []) (ent_freeze (id := 3) (T := 3) (by kernel_rfl)) ?_
  exact gT (vc (AL.Fnv.slI ((AL.Sep.splitC 44 s).map scanN))) rfl
end AL.Ask
namespace AL.Policy
open Go Go.Proofs AL AL.Rune
set_option linter.unusedVariables false
set_option linter.unusedSimpArgs false
theorem f91_body : Tryz.f91.body = some (.seq (.region 0 (rg Tryz.f91 0) false) (.seq (.region 1 (rg Tryz.f91 1) false) (.ret))) := by kernel_rfl
set_option maxRecDepth 100000 in
set_option maxHeartbeats 8000000 in
theorem same_c (x : RuleV) (p : Bytes) (n : Int) : Pure Tryz.prog 91 [TV.agg [.s (st x.1), .s (u8 x.2)], tc (SC.ref 2 (rl [st p, u8 n]))] (vc (bo (decide (x.1 = p)))) := by
 refine Pure.of_body Tryz.func91 f91_body (by kernel_rfl) Tryz.ntmps91 (by kernel_rfl) (by kernel_rfl) ?_
 refine gS [] [] 9 [(1, vc (SC.ref 2 (rl [st p, u8 n]))), (2, vp 2 0)] [(2, AObj.row [.s (st x.1), .s (u8 x.2)])] trivial ?_
 refine gS [] [] 9 [(3, vc (bo (decide (x.1 = p))))] [] trivial ?_
 exact gT (vc (bo (decide (x.1 = p)))) rfl
theorem f104_body : Tryz.f104.body = some (.seq (.region 0 (rg Tryz.f104 0) false) (.seq (.seq (.region 1 (rg Tryz.f104 1) false) (.block 0 (.loop (.seq (.region 2 (rg Tryz.f104 2) false) (.seq (.cond (.tmp 9) (.skip) (.exit 0)) (.seq (.block 1 (.seq (.region 3 (rg Tryz.f104 3) false) (.seq (.region 4 (rg Tryz.f104 4) false) (.cond (.tmp 16) (.seq (.region 5 (rg Tryz.f104 5) false) (.ret)) (.skip))))) (.region 6 (rg Tryz.f104 6) false))))))) (.seq (.region 7 (rg Tryz.f104 7) false) (.ret)))) := by kernel_rfl
set_option maxRecDepth 100000 in
set_option maxHeartbeats 8000000 in
theorem Index_c (f : FuncId) (caps : List Cap) (p : RuleV → Bool) (hf : ∀ x : RuleV, Pure Tryz.prog f ([TV.agg [.s (st x.1), .s (u8 x.2)]] ++ List.map capT caps) (vc (bo (p x)))) (l : List RuleV) : Pure Tryz.prog 104 [tc (slP l), TV.c (.fn f caps)] (vc (i6 (Lib.idxS p l))) := by
 refine Pure.of_body Tryz.func104 f104_body (by kernel_rfl) Tryz.ntmps104 (by kernel_rfl) (by kernel_rfl) ?_
 refine AMx.sl 0 (l := l) rfl (fun hl => ?_)
 simp only [maxLen] at hl
 refine gS [] [] 19 [(0, vc (slP l)), (1, AV.t (TV.c (.fn f caps)))] [] trivial ?_
 refine gQ ?_
 refine gS [] [] 19 [(0, vc (slP l)), (1, AV.t (TV.c (.fn f caps))), (7, vc (i6 (List.length l : Int))), (8, vc (i6 0))] [] trivial ?_
 refine AMx.block ?_
 refine AMx.ent (s' := AS.lst 19 [(0, vc (slP l)), (1, AV.t (TV.c (.fn f caps))), (7, vc (i6 (List.length l : Int))), (8, vc (i6 0))] []) (ent_proj [0, 1, 7, 8] []) ?_
 refine AMx.loop (fun mm ss => ∃ (k : Nat), (k ≤ l.length ∧ ∀ x ∈ List.take k l, p x = false) ∧ mm = l.length - k ∧ ss = AS.lst 19 [(0, vc (slP l)), (1, AV.t (TV.c (.fn f caps))), (7, vc (i6 (List.length l : Int))), (8, vc (i6 (k : Int)))] []) ⟨0, ?_, rfl, ?_⟩ ?_
 · exact ⟨by omega, fun x hx => by simp at hx⟩
 · rfl
 rintro mm ss ⟨k, ⟨hI, hN⟩, rfl, rfl⟩
 refine gS [] [] 19 [(0, vc (slP l)), (1, AV.t (TV.c (.fn f caps))), (7, vc (i6 (List.length l : Int))), (8, vc (i6 (k : Int))), (9, vc (bo (decide ((k : Int) < (List.length l : Int)))))] [] trivial ?_
 refine gQ ?_
 refine gC ((k : Int) < (List.length l : Int)) (fun hc1 => ?_) fun hc1 => ?_
 ·
  refine AMx.skip ?_
  refine gQ ?_
  refine AMx.block ?_
  refine gS [] [] 19 [(0, vc (slP l)), (1, AV.t (TV.c (.fn f caps))), (5, vc (i6 (k : Int))), (7, vc (i6 (List.length l : Int))), (8, vc (i6 (k : Int)))] [] trivial ?_
  refine gS [(5, CE.call [] [] (vc (bo (p (List.getD l k ([], 0))))) [])] [(0 : Int) ≤ (k : Int), (k : Int) < List.length l, Spec Tryz.prog f ([TV.agg [.s (st ((List.getD l k ([], 0)).1)), .s (u8 ((List.getD l k ([], 0)).2))]] ++ List.map capT caps) (ofH []) (vc (bo (p (List.getD l k ([], 0))))) (ofH [])] 19 [(0, vc (slP l)), (1, AV.t (TV.c (.fn f caps))), (5, vc (i6 (k : Int))), (7, vc (i6 (List.length l : Int))), (8, vc (i6 (k : Int))), (16, vc (bo (p (List.getD l k ([], 0)))))] [] ⟨(show (0 : Int) ≤ (k : Int) from (by omega)), (show (k : Int) < List.length l from (by omega)), (hf (List.getD l k ([], 0)))⟩ ?_
  refine gB (p (List.getD l k ([], 0))) (fun hc2 => ?_) fun hc2 => ?_
  ·
   try simp only [xT, xF] at hc2
   refine gS [] [] 19 [(4, vc (i6 (k : Int)))] [] trivial ?_
   exact gT (vc (i6 (k : Int))) (by rw [Lib.idx_hit ([], 0) l k (by omega) hN (by assumption)])
  ·
   try simp only [xT, xF] at hc2
   refine AMx.skip ?_
   refine AMx.blk ?_
   refine gR [] [InR .i64 ((k : Int) + 1)] 19 [(0, vc (slP l)), (1, AV.t (TV.c (.fn f caps))), (7, vc (i6 (List.length l : Int))), (8, vc (i6 ((k : Int) + 1)))] [] (show InR .i64 ((k : Int) + 1) from (inR64 (by omega) (by omega))) ?_
   refine AMx.ent_inv (s' := AS.lst 19 [(0, vc (slP l)), (1, AV.t (TV.c (.fn f caps))), (7, vc (i6 (List.length l : Int))), (8, vc (i6 ((k : Int) + 1)))] []) (ent_proj [0, 1, 7, 8] []) ?_
   refine AMx.inv ⟨_, ?_, k + 1, ?_, rfl, ?_⟩
   rotate_left
   · exact ⟨by omega, Lib.all_step ([], 0) l k (by omega) hN (by assumption)⟩
   · rfl
   · omega
 ·
  refine AMx.exit ?_
  refine AMx.code_exit ?_
  refine AMx.inv_exit ?_
  refine AMx.blk_exit ?_
  refine gS [] [] 19 [(4, vc (i6 (-1)))] [] trivial ?_
  exact gT (vc (i6 (-1))) (by rw [Lib.idx_none (fun x hx => hN x (by rwa [List.take_of_length_le (by omega)]))])
theorem f90_body : Tryz.f90.body = some (.seq (.region 0 (rg Tryz.f90 0) false) (.seq (.region 1 (rg Tryz.f90 1) false) (.ret))) := by kernel_rfl
set_option maxRecDepth 100000 in
set_option maxHeartbeats 8000000 in
theorem Contains_c (f : FuncId) (caps : List Cap) (p : RuleV → Bool) (hf : ∀ x : RuleV, Pure Tryz.prog f ([TV.agg [.s (st x.1), .s (u8 x.2)]] ++ List.map capT caps) (vc (bo (p x)))) (l : List RuleV) : Pure Tryz.prog 90 [tc (slP l), TV.c (.fn f caps)] (vc (bo (decide (0 ≤ Lib.idxS p l)))) := by
 refine Pure.of_body Tryz.func90 f90_body (by kernel_rfl) Tryz.ntmps90 (by kernel_rfl) (by kernel_rfl) ?_
 refine gS [] [] 9 [(0, vc (slP l)), (1, AV.t (TV.c (.fn f caps)))] [] trivial ?_
 refine gS [(2, CE.call [] [] (vc (i6 (Lib.idxS p l))) [])] [Spec Tryz.prog 104 [tc (slP l), TV.c (.fn f caps)] (ofH []) (vc (i6 (Lib.idxS p l))) (ofH [])] 9 [(4, vc (bo (decide (0 ≤ Lib.idxS p l))))] [] (Index_c f caps p hf l) ?_
 exact gT (vc (bo (decide (0 ≤ Lib.idxS p l)))) rfl
theorem f75_body : Tryz.f75.body = some (.seq (.region 0 (rg Tryz.f75 0) false) (.seq (.seq (.region 1 (rg Tryz.f75 1) false) (.cond (.tmp 8) (.seq (.region 2 (rg Tryz.f75 2) false) (.seq (.region 3 (rg Tryz.f75 3) false) (.cond (.tmp 13) (.seq (.region 4 (rg Tryz.f75 4) false) (.ret)) (.skip)))) (.skip))) (.seq (.seq (.region 5 (rg Tryz.f75 5) false) (.cond (.tmp 17) (.seq (.region 6 (rg Tryz.f75 6) false) (.ret)) (.skip))) (.seq (.seq (.region 7 (rg Tryz.f75 7) false) (.cond (.tmp 20) (.seq (.region 8 (rg Tryz.f75 8) false) (.ret)) (.skip))) (.seq (.region 9 (rg Tryz.f75 9) false) (.ret)))))) := by kernel_rfl
set_option maxRecDepth 100000 in
set_option maxHeartbeats 8000000 in
theorem check1_c (z : RuleV) (ahead : List RuleV) : Pure Tryz.prog 75 [TV.agg [.s (st z.1), .s (u8 z.2)], tc (slP ahead)] (vc (i6 (oneC ahead z))) := by
 refine Pure.of_body Tryz.func75 f75_body (by kernel_rfl) Tryz.ntmps75 (by kernel_rfl) (by kernel_rfl) ?_
 refine gS [] [] 21 [(1, vc (slP ahead)), (2, vp 2 0)] [(2, AObj.row [.s (st z.1), .s (u8 z.2)])] trivial ?_
 refine gQ ?_
 refine gS [] [] 21 [(1, vc (slP ahead)), (2, vp 2 0), (8, vc (bo (!decide (z.1 = []))))] [(2, AObj.row [.s (st z.1), .s (u8 z.2)])] trivial ?_
 refine gN (z.1 = []) (fun hc1 => ?_) fun hc1 => ?_
 ·
  refine gS [(2, CE.call [] [] (vc (i6 (Route.checkS z.1))) [])] [Spec Tryz.prog 45 [tc (st z.1)] (ofH []) (vc (i6 (Route.checkS z.1))) (ofH [])] 21 [(1, vc (slP ahead)), (2, vp 2 0), (5, vc (i6 (Route.checkS z.1)))] [(2, AObj.row [.s (st z.1), .s (u8 z.2)])] (Route.Check_c z.1) ?_
  refine gS [] [] 21 [(1, vc (slP ahead)), (2, vp 2 0), (5, vc (i6 (Route.checkS z.1))), (13, vc (bo (!decide (Route.checkS z.1 = 0))))] [(2, AObj.row [.s (st z.1), .s (u8 z.2)])] trivial ?_
  refine gN (Route.checkS z.1 = 0) (fun hc2 => ?_) fun hc2 => ?_
  ·
   refine gS [] [] 21 [(4, vc (i6 (Route.checkS z.1)))] [] trivial ?_
   exact gT (vc (i6 (Route.checkS z.1))) (by rw [show oneC ahead z = Route.checkS z.1 from by unfold oneC; rw [← there_idx] <;> grind])
  ·
   refine AMx.skip ?_
   refine gQ ?_
   refine gS [] [] 21 [(1, vc (slP ahead)), (2, vp 2 0), (17, vc (bo (decide (63 < z.2))))] [(2, AObj.row [.s (st z.1), .s (u8 z.2)])] trivial ?_
   refine gC (63 < z.2) (fun hc3 => ?_) fun hc3 => ?_
   ·
    refine gS [] [] 21 [(4, vc (i6 2))] [] trivial ?_
    exact gT (vc (i6 2)) (by rw [show oneC ahead z = 2 from by unfold oneC; rw [← there_idx] <;> grind])
   ·
    refine AMx.skip ?_
    refine gQ ?_
    refine gS [(2, CE.call [2] [] (vc (bo (decide (0 ≤ Lib.idxS (fun x : RuleV => decide (x.1 = z.1)) ahead)))) [])] [Spec Tryz.prog 90 [tc (slP ahead), TV.c (.fn 91 [.s (SC.ref 2 (rl [st z.1, u8 z.2]))])] (ofH []) (vc (bo (decide (0 ≤ Lib.idxS (fun x : RuleV => decide (x.1 = z.1)) ahead)))) (ofH [])] 21 [(20, vc (bo (decide (0 ≤ Lib.idxS (fun x : RuleV => decide (x.1 = z.1)) ahead))))] [] (Contains_c 91 [.s (SC.ref 2 (rl [st z.1, u8 z.2]))] (fun x : RuleV => decide (x.1 = z.1)) (fun x => same_c x z.1 z.2) ahead) ?_
    refine gC (0 ≤ Lib.idxS (fun x : RuleV => decide (x.1 = z.1)) ahead) (fun hc4 => ?_) fun hc4 => ?_
    ·
     refine gS [] [] 21 [(4, vc (i6 20))] [] trivial ?_
     exact gT (vc (i6 20)) (by rw [show oneC ahead z = 20 from by unfold oneC; rw [← there_idx] <;> grind])
    ·
     refine AMx.skip ?_
     refine gS [] [] 21 [(4, vc (i6 0))] [] trivial ?_
     exact gT (vc (i6 0)) (by rw [show oneC ahead z = 0 from by unfold oneC; rw [← there_idx] <;> grind])
 ·
  refine AMx.skip ?_
  refine gQ ?_
  refine gS [] [] 21 [(1, vc (slP ahead)), (2, vp 2 0), (17, vc (bo (decide (63 < z.2))))] [(2, AObj.row [.s (st z.1), .s (u8 z.2)])] trivial ?_
  refine gC (63 < z.2) (fun hc5 => ?_) fun hc5 => ?_
  ·
   refine gS [] [] 21 [(4, vc (i6 2))] [] trivial ?_
   exact gT (vc (i6 2)) (by rw [show oneC ahead z = 2 from by unfold oneC; rw [← there_idx] <;> grind])
  ·
   refine AMx.skip ?_
   refine gQ ?_
   refine gS [(2, CE.call [2] [] (vc (bo (decide (0 ≤ Lib.idxS (fun x : RuleV => decide (x.1 = z.1)) ahead)))) [])] [Spec Tryz.prog 90 [tc (slP ahead), TV.c (.fn 91 [.s (SC.ref 2 (rl [st z.1, u8 z.2]))])] (ofH []) (vc (bo (decide (0 ≤ Lib.idxS (fun x : RuleV => decide (x.1 = z.1)) ahead)))) (ofH [])] 21 [(20, vc (bo (decide (0 ≤ Lib.idxS (fun x : RuleV => decide (x.1 = z.1)) ahead))))] [] (Contains_c 91 [.s (SC.ref 2 (rl [st z.1, u8 z.2]))] (fun x : RuleV => decide (x.1 = z.1)) (fun x => same_c x z.1 z.2) ahead) ?_
   refine gC (0 ≤ Lib.idxS (fun x : RuleV => decide (x.1 = z.1)) ahead) (fun hc6 => ?_) fun hc6 => ?_
   ·
    refine gS [] [] 21 [(4, vc (i6 20))] [] trivial ?_
    exact gT (vc (i6 20)) (by rw [show oneC ahead z = 20 from by unfold oneC; rw [← there_idx] <;> grind])
   ·
    refine AMx.skip ?_
    refine gS [] [] 21 [(4, vc (i6 0))] [] trivial ?_
    exact gT (vc (i6 0)) (by rw [show oneC ahead z = 0 from by unfold oneC; rw [← there_idx] <;> grind])
theorem f48_body : Tryz.f48.body = some (.seq (.region 0 (rg Tryz.f48 0) false) (.seq (.seq (.region 1 (rg Tryz.f48 1) false) (.cond (.tmp 8) (.seq (.region 2 (rg Tryz.f48 2) false) (.ret)) (.skip))) (.seq (.seq (.region 3 (rg Tryz.f48 3) false) (.block 0 (.loop (.seq (.region 4 (rg Tryz.f48 4) false) (.seq (.cond (.tmp 12) (.skip) (.exit 0)) (.seq (.block 1 (.seq (.region 5 (rg Tryz.f48 5) false) (.seq (.region 6 (rg Tryz.f48 6) true) (.seq (.region 7 (rg Tryz.f48 7) false) (.cond (.tmp 22) (.seq (.region 8 (rg Tryz.f48 8) false) (.ret)) (.skip)))))) (.region 9 (rg Tryz.f48 9) false))))))) (.seq (.region 10 (rg Tryz.f48 10) false) (.ret))))) := by kernel_rfl
set_option maxRecDepth 100000 in
set_option maxHeartbeats 8000000 in
theorem Check_c (l : List RuleV) : Pure Tryz.prog 48 [tc (slP l)] (vc (i6 (checkP l))) := by
 refine Pure.of_body Tryz.func48 f48_body (by kernel_rfl) Tryz.ntmps48 (by kernel_rfl) (by kernel_rfl) ?_
 refine AMx.sl 0 (l := l) rfl (fun hl => ?_)
 simp only [maxLen] at hl
 refine gS [] [] 25 [(0, vc (slP l))] [] trivial ?_
 refine gQ ?_
 refine gS [] [] 25 [(0, vc (slP l)), (8, vc (bo (decide (4 < (List.length l : Int)))))] [] trivial ?_
 refine gC (4 < (List.length l : Int)) (fun hc1 => ?_) fun hc1 => ?_
 ·
  refine gS [] [] 25 [(2, vc (i6 24))] [] trivial ?_
  exact gT (vc (i6 24)) (by rw [show checkP l = 24 from by first | exact chk_many (by omega) | exact chk_bad (by omega) (by omega) hN (by assumption) | exact chk_end (by omega) (by omega) hN])
 ·
  refine AMx.skip ?_
  refine gQ ?_
  refine gS [] [] 25 [(0, vc (slP l)), (9, vc (slP l)), (10, vc (i6 (List.length l : Int))), (11, vc (i6 0))] [] trivial ?_
  refine AMx.block ?_
  refine AMx.ent (s' := AS.lst 25 [(0, vc (slP l)), (9, vc (slP l)), (10, vc (i6 (List.length l : Int))), (11, vc (i6 0))] []) (ent_proj [0, 9, 10, 11] []) ?_
  refine AMx.loop (fun mm ss => ∃ (k : Nat), (k ≤ l.length ∧ ChkAt l k) ∧ mm = l.length - k ∧ ss = AS.lst 25 [(0, vc (slP l)), (9, vc (slP l)), (10, vc (i6 (List.length l : Int))), (11, vc (i6 (k : Int)))] []) ⟨0, ?_, rfl, ?_⟩ ?_
  · exact ⟨Nat.zero_le _, chk_0 l⟩
  · rfl
  rintro mm ss ⟨k, ⟨hI, hN⟩, rfl, rfl⟩
  refine gS [] [] 25 [(0, vc (slP l)), (9, vc (slP l)), (10, vc (i6 (List.length l : Int))), (11, vc (i6 (k : Int))), (12, vc (bo (decide ((k : Int) < (List.length l : Int)))))] [] trivial ?_
  refine gQ ?_
  refine gC ((k : Int) < (List.length l : Int)) (fun hc2 => ?_) fun hc2 => ?_
  ·
   refine AMx.skip ?_
   refine gQ ?_
   refine AMx.block ?_
   refine gS [] [(0 : Int) ≤ (k : Int), (k : Int) < List.length l] 25 [(0, vc (slP l)), (3, vc (i6 (k : Int))), (4, vp 4 0), (9, vc (slP l)), (10, vc (i6 (List.length l : Int))), (11, vc (i6 (k : Int)))] [(4, AObj.row [.s (st ((List.getD l k ([], 0)).1)), .s (u8 ((List.getD l k ([], 0)).2))])] ⟨(show (0 : Int) ≤ (k : Int) from (by omega)), (show (k : Int) < List.length l from (by omega))⟩ ?_
   refine gY [(4, CE.call [] [] (vc (i6 (oneC (List.take k l) (List.getD l k ([], 0))))) [])] [(0, [4])] [0 ≤ (k : Int), (k : Int) ≤ List.length l, Spec Tryz.prog 75 [TV.agg [.s (st ((List.getD l k ([], 0)).1)), .s (u8 ((List.getD l k ([], 0)).2))], tc (slP (List.take k l))] (ofH []) (vc (i6 (oneC (List.take k l) (List.getD l k ([], 0))))) (ofH [])] 25 [(0, vc (slP l)), (5, vc (i6 (oneC (List.take k l) (List.getD l k ([], 0))))), (9, vc (slP l)), (10, vc (i6 (List.length l : Int))), (11, vc (i6 (k : Int)))] [] mixed ⟨(show 0 ≤ (k : Int) from (by omega)), (show (k : Int) ≤ List.length l from (by omega)), (check1_c (List.getD l k ([], 0)) (List.take k l))⟩ ?_
   refine gS [] [] 25 [(0, vc (slP l)), (5, vc (i6 (oneC (List.take k l) (List.getD l k ([], 0))))), (9, vc (slP l)), (10, vc (i6 (List.length l : Int))), (11, vc (i6 (k : Int))), (22, vc (bo (!decide (oneC (List.take k l) (List.getD l k ([], 0)) = 0))))] [] trivial ?_
   refine gN (oneC (List.take k l) (List.getD l k ([], 0)) = 0) (fun hc3 => ?_) fun hc3 => ?_
   ·
    refine gS [] [] 25 [(2, vc (i6 (oneC (List.take k l) (List.getD l k ([], 0)))))] [] trivial ?_
    exact gT (vc (i6 (oneC (List.take k l) (List.getD l k ([], 0))))) (by rw [show checkP l = oneC (List.take k l) (List.getD l k ([], 0)) from by first | exact chk_many (by omega) | exact chk_bad (by omega) (by omega) hN (by assumption) | exact chk_end (by omega) (by omega) hN])
   ·
    refine AMx.skip ?_
    refine AMx.blk ?_
    refine gR [] [InR .i64 ((k : Int) + 1)] 25 [(0, vc (slP l)), (9, vc (slP l)), (10, vc (i6 (List.length l : Int))), (11, vc (i6 ((k : Int) + 1)))] [] (show InR .i64 ((k : Int) + 1) from (inR64 (by omega) (by omega))) ?_
    refine AMx.ent_inv (s' := AS.lst 25 [(0, vc (slP l)), (9, vc (slP l)), (10, vc (i6 (List.length l : Int))), (11, vc (i6 ((k : Int) + 1)))] []) (ent_proj [0, 9, 10, 11] []) ?_
    refine AMx.inv ⟨_, ?_, k + 1, ?_, rfl, ?_⟩
    rotate_left
    · exact ⟨by omega, chk_step (by omega) hN (by assumption)⟩
    · rfl
    · omega
  ·
   refine AMx.exit ?_
   refine AMx.code_exit ?_
   refine AMx.inv_exit ?_
   refine AMx.blk_exit ?_
   refine gS [] [] 25 [(2, vc (i6 0))] [] trivial ?_
   exact gT (vc (i6 0)) (by rw [show checkP l = 0 from by first | exact chk_many (by omega) | exact chk_bad (by omega) (by omega) hN (by assumption) | exact chk_end (by omega) (by omega) hN])
theorem f54_body : Tryz.f54.body = some (.seq (.region 0 (rg Tryz.f54 0) false) (.seq (.seq (.region 1 (rg Tryz.f54 1) false) (.cond (.tmp 7) (.seq (.region 2 (rg Tryz.f54 2) false) (.ret)) (.skip))) (.seq (.seq (.region 3 (rg Tryz.f54 3) false) (.block 0 (.loop (.seq (.seq (.region 4 (rg Tryz.f54 4) false) (.cond (.tmp 11) (.skip) (.exit 0))) (.seq (.block 1 (.seq (.seq (.region 6 (rg Tryz.f54 6) false) (.cond (.tmp 28) (.seq (.region 7 (rg Tryz.f54 7) false) (.ret)) (.skip))) (.seq (.seq (.region 8 (rg Tryz.f54 8) false) (.cond (.tmp 40) (.seq (.region 9 (rg Tryz.f54 9) false) (.ret)) (.skip))) (.seq (.region 10 (rg Tryz.f54 10) false) (.block 2 (.loop (.seq (.seq (.region 11 (rg Tryz.f54 11) false) (.cond (.tmp 43) (.skip) (.exit 2))) (.seq (.block 3 (.seq (.region 13 (rg Tryz.f54 13) true) (.cond (.tmp 56) (.seq (.region 14 (rg Tryz.f54 14) false) (.ret)) (.skip)))) (.region 12 (rg Tryz.f54 12) false))))))))) (.region 5 (rg Tryz.f54 5) false)))))) (.seq (.region 15 (rg Tryz.f54 15) false) (.ret))))) := by kernel_rfl
set_option maxRecDepth 100000 in
set_option maxHeartbeats 8000000 in
theorem RCheck_c (l : List RuleV) : Pure Tryz.prog 54 [tc (slP l)] (vc (i6 (checkP l))) := by
 refine Pure.of_body Tryz.func54 f54_body (by kernel_rfl) Tryz.ntmps54 (by kernel_rfl) (by kernel_rfl) ?_
 refine AMx.sl 0 (l := l) rfl (fun hl => ?_)
 simp only [maxLen] at hl
 refine gS [] [] 57 [(0, vc (slP l))] [] trivial ?_
 refine gQ ?_
 refine gS [] [] 57 [(0, vc (slP l)), (7, vc (bo (decide (4 < (List.length l : Int)))))] [] trivial ?_
 refine gC (4 < (List.length l : Int)) (fun hc1 => ?_) fun hc1 => ?_
 ·
  refine gS [] [] 57 [(2, vc (i6 24))] [] trivial ?_
  exact gT (vc (i6 24)) (by rw [show checkP l = 24 from by first | exact chk_many (by omega) | exact chk_end (by omega) (by omega) hN | (have he : 24 = oneC (List.take i l) (List.getD l i ([], 0)) := (by unfold oneC; first | grind | (rw [there_hit (j := j) (by omega) (by omega) (by assumption)]; grind)); rw [he]; exact (chk_bad (by omega) (by omega) hN (by rw [← he]; first | assumption | grind | decide)))])
 ·
  refine AMx.skip ?_
  refine gQ ?_
  refine gS [] [] 57 [(0, vc (slP l)), (3, vc (i6 0))] [] trivial ?_
  refine AMx.block ?_
  refine AMx.ent (s' := AS.lst 57 [(0, vc (slP l)), (3, vc (i6 0))] []) (ent_proj [0, 3] []) ?_
  refine AMx.loop (fun mm ss => ∃ (i : Nat), (i ≤ l.length ∧ ChkAt l i) ∧ mm = l.length - i ∧ ss = AS.lst 57 [(0, vc (slP l)), (3, vc (i6 (i : Int)))] []) ⟨0, ?_, rfl, ?_⟩ ?_
  · exact ⟨Nat.zero_le _, chk_0 l⟩
  · rfl
  rintro mm ss ⟨i, ⟨hI, hN⟩, rfl, rfl⟩
  refine gQ ?_
  refine gS [] [] 57 [(0, vc (slP l)), (3, vc (i6 (i : Int))), (11, vc (bo (decide ((i : Int) < (List.length l : Int)))))] [] trivial ?_
  refine gC ((i : Int) < (List.length l : Int)) (fun hc2 => ?_) fun hc2 => ?_
  ·
   refine AMx.skip ?_
   refine gQ ?_
   refine AMx.block ?_
   refine gQ ?_
   refine gS [(12, CE.call [] [] (vc (i6 (Route.checkS ((List.getD l i ([], 0)).1)))) [])] [(0 : Int) ≤ (i : Int), (i : Int) < List.length l, ((!decide ((List.getD l i ([], 0)).1 = [])) = true) → allP [], ((!decide ((List.getD l i ([], 0)).1 = [])) = true) → allP [], ((!decide ((List.getD l i ([], 0)).1 = [])) = true) → allP [(!decide ((List.getD l i ([], 0)).1 = [])) = true, (!decide ((List.getD l i ([], 0)).1 = [])) = true, (0 : Int) ≤ (i : Int), (i : Int) < List.length l], ((!decide ((List.getD l i ([], 0)).1 = [])) = true) → allP [(!decide ((List.getD l i ([], 0)).1 = [])) = true], ((!decide ((List.getD l i ([], 0)).1 = [])) = true) → allP [(!decide ((List.getD l i ([], 0)).1 = [])) = true], ((!decide ((List.getD l i ([], 0)).1 = [])) = true) → allP [(!decide ((List.getD l i ([], 0)).1 = [])) = true, Spec Tryz.prog 51 [tc (st ((List.getD l i ([], 0)).1))] (ofH []) (vc (i6 (Route.checkS ((List.getD l i ([], 0)).1)))) (ofH [])], ((!decide ((List.getD l i ([], 0)).1 = [])) = true) → allP [(!decide ((List.getD l i ([], 0)).1 = [])) = true], (!decide ((List.getD l i ([], 0)).1 = [])) = true → allP [(!decide ((List.getD l i ([], 0)).1 = [])) = true]] 57 [(0, vc (slP l)), (3, vc (i6 (i : Int))), (28, vc (bo ((!decide ((List.getD l i ([], 0)).1 = [])) && (!decide (Route.checkS ((List.getD l i ([], 0)).1) = 0)))))] [] ⟨(show (0 : Int) ≤ (i : Int) from (by omega)), (show (i : Int) < List.length l from (by omega)), (fun _ => trivial), (fun _ => trivial), (fun hp => by have hq := hp; (try simp only [decide_eq_true_eq, decide_eq_false_iff_not, Bool.and_eq_true, Bool.or_eq_true, Bool.and_eq_false_iff, Bool.or_eq_false_iff, Bool.not_eq_true', Bool.not_eq_false', Bool.not_eq_true, Bool.not_eq_false] at hq); exact ⟨hp, hp, (show (0 : Int) ≤ (i : Int) from (by omega)), (show (i : Int) < List.length l from (by omega))⟩), (fun hp => hp), (fun hp => hp), (fun hp => by have hq := hp; (try simp only [decide_eq_true_eq, decide_eq_false_iff_not, Bool.and_eq_true, Bool.or_eq_true, Bool.and_eq_false_iff, Bool.or_eq_false_iff, Bool.not_eq_true', Bool.not_eq_false', Bool.not_eq_true, Bool.not_eq_false] at hq); exact ⟨hp, (Route.RCheck_c ((List.getD l i ([], 0)).1))⟩), (fun hp => hp), (fun hp2 => (by first | exact hp2 | exact ⟨hp, hp2⟩))⟩ ?_
   refine gB (((!decide ((List.getD l i ([], 0)).1 = [])) && (!decide (Route.checkS ((List.getD l i ([], 0)).1) = 0)))) (fun hc3 => ?_) fun hc3 => ?_
   ·
    try simp only [xT, xF, xA, xB, xN, xM] at hc3
    refine gS [(5, CE.call [] [] (vc (i6 (Route.checkS ((List.getD l i ([], 0)).1)))) [])] [(0 : Int) ≤ (i : Int), (i : Int) < List.length l, Spec Tryz.prog 51 [tc (st ((List.getD l i ([], 0)).1))] (ofH []) (vc (i6 (Route.checkS ((List.getD l i ([], 0)).1)))) (ofH [])] 57 [(2, vc (i6 (Route.checkS ((List.getD l i ([], 0)).1))))] [] ⟨(show (0 : Int) ≤ (i : Int) from (by omega)), (show (i : Int) < List.length l from (by omega)), (Route.RCheck_c ((List.getD l i ([], 0)).1))⟩ ?_
    exact gT (vc (i6 (Route.checkS ((List.getD l i ([], 0)).1)))) (by rw [show checkP l = Route.checkS ((List.getD l i ([], 0)).1) from by first | exact chk_many (by omega) | exact chk_end (by omega) (by omega) hN | (have he : Route.checkS ((List.getD l i ([], 0)).1) = oneC (List.take i l) (List.getD l i ([], 0)) := (by unfold oneC; first | grind | (rw [there_hit (j := j) (by omega) (by omega) (by assumption)]; grind)); rw [he]; exact (chk_bad (by omega) (by omega) hN (by rw [← he]; first | assumption | grind | decide)))])
   ·
    try simp only [xT, xF, xA, xB, xN, xM] at hc3
    refine AMx.skip ?_
    refine gQ ?_
    refine gS [] [(0 : Int) ≤ (i : Int), (i : Int) < List.length l] 57 [(0, vc (slP l)), (3, vc (i6 (i : Int))), (40, vc (bo (decide (63 < (List.getD l i ([], 0)).2))))] [] ⟨(show (0 : Int) ≤ (i : Int) from (by omega)), (show (i : Int) < List.length l from (by omega))⟩ ?_
    refine gC (63 < (List.getD l i ([], 0)).2) (fun hc4 => ?_) fun hc4 => ?_
    ·
     refine gS [] [] 57 [(2, vc (i6 2))] [] trivial ?_
     exact gT (vc (i6 2)) (by rw [show checkP l = 2 from by first | exact chk_many (by omega) | exact chk_end (by omega) (by omega) hN | (have he : 2 = oneC (List.take i l) (List.getD l i ([], 0)) := (by unfold oneC; first | grind | (rw [there_hit (j := j) (by omega) (by omega) (by assumption)]; grind)); rw [he]; exact (chk_bad (by omega) (by omega) hN (by rw [← he]; first | assumption | grind | decide)))])
    ·
     refine AMx.skip ?_
     refine gS [] [] 57 [(0, vc (slP l)), (3, vc (i6 (i : Int))), (4, vc (i6 0))] [] trivial ?_
     refine AMx.block ?_
     refine AMx.ent (s' := AS.lst 57 [(0, vc (slP l)), (3, vc (i6 (i : Int))), (4, vc (i6 0))] []) (ent_proj [0, 3, 4] []) ?_
     refine AMx.loop (fun mm ss => ∃ (j : Nat), (j ≤ i ∧ thereS (List.take j l) (List.getD l i ([], 0)).1 = false) ∧ mm = i - j ∧ ss = AS.lst 57 [(0, vc (slP l)), (3, vc (i6 (i : Int))), (4, vc (i6 (j : Int)))] []) ⟨0, ?_, rfl, ?_⟩ ?_
     · exact ⟨Nat.zero_le _, rfl⟩
     · rfl
     rintro mm ss ⟨j, ⟨hJ, hT⟩, rfl, rfl⟩
     refine gQ ?_
     refine gS [] [] 57 [(0, vc (slP l)), (3, vc (i6 (i : Int))), (4, vc (i6 (j : Int))), (43, vc (bo (decide ((j : Int) < (i : Int)))))] [] trivial ?_
     refine gC ((j : Int) < (i : Int)) (fun hc5 => ?_) fun hc5 => ?_
     ·
      refine AMx.skip ?_
      refine gQ ?_
      refine AMx.block ?_
      refine gY [] [] [(0 : Int) ≤ (j : Int), (j : Int) < List.length l, (0 : Int) ≤ (i : Int), (i : Int) < List.length l] 57 [(0, vc (slP l)), (3, vc (i6 (i : Int))), (4, vc (i6 (j : Int))), (56, vc (bo (decide ((List.getD l j ([], 0)).1 = (List.getD l i ([], 0)).1))))] [] mixed ⟨(show (0 : Int) ≤ (j : Int) from (by omega)), (show (j : Int) < List.length l from (by omega)), (show (0 : Int) ≤ (i : Int) from (by omega)), (show (i : Int) < List.length l from (by omega))⟩ ?_
      refine gC ((List.getD l j ([], 0)).1 = (List.getD l i ([], 0)).1) (fun hc6 => ?_) fun hc6 => ?_
      ·
       refine gS [] [] 57 [(2, vc (i6 20))] [] trivial ?_
       exact gT (vc (i6 20)) (by rw [show checkP l = 20 from by first | exact chk_many (by omega) | exact chk_end (by omega) (by omega) hN | (have he : 20 = oneC (List.take i l) (List.getD l i ([], 0)) := (by unfold oneC; first | grind | (rw [there_hit (j := j) (by omega) (by omega) (by assumption)]; grind)); rw [he]; exact (chk_bad (by omega) (by omega) hN (by rw [← he]; first | assumption | grind | decide)))])
      ·
       refine AMx.skip ?_
       refine AMx.blk ?_
       refine gR [] [InR .i64 ((j : Int) + 1)] 57 [(0, vc (slP l)), (3, vc (i6 (i : Int))), (4, vc (i6 ((j : Int) + 1)))] [] (show InR .i64 ((j : Int) + 1) from (inR64 (by omega) (by omega))) ?_
       refine AMx.ent_inv (s' := AS.lst 57 [(0, vc (slP l)), (3, vc (i6 (i : Int))), (4, vc (i6 ((j : Int) + 1)))] []) (ent_proj [0, 3, 4] []) ?_
       refine AMx.inv ⟨_, ?_, j + 1, ?_, rfl, ?_⟩
       rotate_left
       · exact ⟨by omega, there_step (by omega) hT (by assumption)⟩
       · rfl
       · omega
     ·
      refine AMx.exit ?_
      refine AMx.code_exit ?_
      refine AMx.inv_exit ?_
      refine AMx.blk_exit ?_
      refine AMx.blk ?_
      refine gR [] [InR .i64 ((i : Int) + 1)] 57 [(0, vc (slP l)), (3, vc (i6 ((i : Int) + 1)))] [] (show InR .i64 ((i : Int) + 1) from (inR64 (by omega) (by omega))) ?_
      refine AMx.ent_inv (s' := AS.lst 57 [(0, vc (slP l)), (3, vc (i6 ((i : Int) + 1)))] []) (ent_proj [0, 3] []) ?_
      refine AMx.inv ⟨_, ?_, i + 1, ?_, rfl, ?_⟩
      rotate_left
      · exact ⟨by omega, chk_step (by omega) hN (by have hf : thereS (List.take i l) (List.getD l i ([], 0)).1 = false := (by rw [show i = j by omega] at hT ⊢; exact hT); unfold oneC; rw [hf]; grind)⟩
      · rfl
      · omega
  ·
   refine AMx.exit ?_
   refine AMx.code_exit ?_
   refine AMx.inv_exit ?_
   refine AMx.blk_exit ?_
   refine gS [] [] 57 [(2, vc (i6 0))] [] trivial ?_
   exact gT (vc (i6 0)) (by rw [show checkP l = 0 from by first | exact chk_many (by omega) | exact chk_end (by omega) (by omega) hN | (have he : 0 = oneC (List.take i l) (List.getD l i ([], 0)) := (by unfold oneC; first | grind | (rw [there_hit (j := j) (by omega) (by omega) (by assumption)]; grind)); rw [he]; exact (chk_bad (by omega) (by omega) hN (by rw [← he]; first | assumption | grind | decide)))])
end AL.Policy
namespace AL.Policy
open Go Go.Proofs AL AL.Rune
set_option linter.unusedVariables false
set_option linter.unusedSimpArgs false
theorem f56_body : Tryz.f56.body = some (.seq (.region 0 (rg Tryz.f56 0) false) (.seq (.seq (.region 1 (rg Tryz.f56 1) false) (.cond (.tmp 10) (.seq (.region 2 (rg Tryz.f56 2) false) (.ret)) (.skip))) (.seq (.seq (.region 3 (rg Tryz.f56 3) false) (.block 0 (.loop (.seq (.region 4 (rg Tryz.f56 4) false) (.seq (.cond (.tmp 14) (.skip) (.exit 0)) (.seq (.block 1 (.seq (.region 5 (rg Tryz.f56 5) false) (.seq (.region 6 (rg Tryz.f56 6) true) (.cond (.tmp 24) (.seq (.region 7 (rg Tryz.f56 7) false) (.ret)) (.skip))))) (.region 8 (rg Tryz.f56 8) false))))))) (.seq (.region 9 (rg Tryz.f56 9) false) (.ret))))) := by kernel_rfl
set_option maxRecDepth 100000 in
set_option maxHeartbeats 8000000 in
theorem Equal_c (a b : List RuleV) : Pure Tryz.prog 56 [tc (slP a), tc (slP b)] (vc (bo (decide (a = b)))) := by
 refine Pure.of_body Tryz.func56 f56_body (by kernel_rfl) Tryz.ntmps56 (by kernel_rfl) (by kernel_rfl) ?_
 refine AMx.sl 0 (l := a) rfl (fun hl => ?_)
 simp only [maxLen] at hl
 refine gS [] [] 26 [(0, vc (slP a)), (1, vc (slP b))] [] trivial ?_
 refine gQ ?_
 refine gS [] [] 26 [(0, vc (slP a)), (1, vc (slP b)), (10, vc (bo (!decide ((List.length a : Int) = (List.length b : Int)))))] [] trivial ?_
 refine gN ((List.length a : Int) = (List.length b : Int)) (fun hc1 => ?_) fun hc1 => ?_
 ·
  refine gS [] [] 26 [(4, vc (bo false))] [] trivial ?_
  exact gT (vc (bo false)) (by rw [decide_eq_false (fun h => by subst h; simp_all)])
 ·
  refine AMx.skip ?_
  refine gQ ?_
  refine gS [] [] 26 [(0, vc (slP a)), (1, vc (slP b)), (12, vc (i6 (List.length a : Int))), (13, vc (i6 0))] [] trivial ?_
  refine AMx.block ?_
  refine AMx.ent (s' := AS.lst 26 [(0, vc (slP a)), (1, vc (slP b)), (12, vc (i6 (List.length a : Int))), (13, vc (i6 0))] []) (ent_proj [0, 1, 12, 13] []) ?_
  refine AMx.loop (fun mm ss => ∃ (i : Nat), (i ≤ a.length ∧ List.take i a = List.take i b) ∧ mm = a.length - i ∧ ss = AS.lst 26 [(0, vc (slP a)), (1, vc (slP b)), (12, vc (i6 (List.length a : Int))), (13, vc (i6 (i : Int)))] []) ⟨0, ?_, rfl, ?_⟩ ?_
  · exact ⟨by omega, rfl⟩
  · rfl
  rintro mm ss ⟨i, ⟨hI, hE⟩, rfl, rfl⟩
  refine gS [] [] 26 [(0, vc (slP a)), (1, vc (slP b)), (12, vc (i6 (List.length a : Int))), (13, vc (i6 (i : Int))), (14, vc (bo (decide ((i : Int) < (List.length a : Int)))))] [] trivial ?_
  refine gQ ?_
  refine gC ((i : Int) < (List.length a : Int)) (fun hc2 => ?_) fun hc2 => ?_
  ·
   refine AMx.skip ?_
   refine gQ ?_
   refine AMx.block ?_
   refine gS [] [] 26 [(0, vc (slP a)), (1, vc (slP b)), (5, vc (i6 (i : Int))), (12, vc (i6 (List.length a : Int))), (13, vc (i6 (i : Int)))] [] trivial ?_
   refine gY [] [] [(0 : Int) ≤ (i : Int), (i : Int) < List.length a, (0 : Int) ≤ (i : Int), (i : Int) < List.length b] 26 [(0, vc (slP a)), (1, vc (slP b)), (12, vc (i6 (List.length a : Int))), (13, vc (i6 (i : Int))), (24, vc (bo (!(decide ((List.getD a i ([], 0)).1 = (List.getD b i ([], 0)).1) && (decide ((List.getD a i ([], 0)).2 = (List.getD b i ([], 0)).2) && true)))))] [] mixed ⟨(show (0 : Int) ≤ (i : Int) from (by omega)), (show (i : Int) < List.length a from (by omega)), (show (0 : Int) ≤ (i : Int) from (by omega)), (show (i : Int) < List.length b from (by omega))⟩ ?_
   refine gB (!(decide ((List.getD a i ([], 0)).1 = (List.getD b i ([], 0)).1) && (decide ((List.getD a i ([], 0)).2 = (List.getD b i ([], 0)).2) && true))) (fun hc3 => ?_) fun hc3 => ?_
   ·
    try simp only [xT, xF, xA, xB, xN, xM] at hc3
    refine gS [] [] 26 [(4, vc (bo false))] [] trivial ?_
    exact gT (vc (bo false)) (by rw [decide_eq_false (fun h => by subst h; simp_all)])
   ·
    try simp only [xT, xF, xA, xB, xN, xM] at hc3
    refine AMx.skip ?_
    refine AMx.blk ?_
    refine gR [] [InR .i64 ((i : Int) + 1)] 26 [(0, vc (slP a)), (1, vc (slP b)), (12, vc (i6 (List.length a : Int))), (13, vc (i6 ((i : Int) + 1)))] [] (show InR .i64 ((i : Int) + 1) from (inR64 (by omega) (by omega))) ?_
    refine AMx.ent_inv (s' := AS.lst 26 [(0, vc (slP a)), (1, vc (slP b)), (12, vc (i6 (List.length a : Int))), (13, vc (i6 ((i : Int) + 1)))] []) (ent_proj [0, 1, 12, 13] []) ?_
    refine AMx.inv ⟨_, ?_, i + 1, ?_, rfl, ?_⟩
    rotate_left
    · exact ⟨by omega, Lib.same_step ([], 0) a b i (by omega) (by omega) hE (by grind)⟩
    · rfl
    · omega
  ·
   refine AMx.exit ?_
   refine AMx.code_exit ?_
   refine AMx.inv_exit ?_
   refine AMx.blk_exit ?_
   refine gS [] [] 26 [(4, vc (bo true))] [] trivial ?_
   exact gT (vc (bo true)) (by rw [decide_eq_true (Lib.same_end a b i (by omega) (by omega) hE)])
theorem f30_body : Tryz.f30.body = some (.seq (.region 0 (rg Tryz.f30 0) false) (.seq (.region 1 (rg Tryz.f30 1) false) (.ret))) := by kernel_rfl
set_option maxRecDepth 100000 in
set_option maxHeartbeats 8000000 in
theorem Same_c (a b : List RuleV) : Pure Tryz.prog 30 [tc (slP a), tc (slP b)] (vc (bo (decide (a = b)))) := by
 refine Pure.of_body Tryz.func30 f30_body (by kernel_rfl) Tryz.ntmps30 (by kernel_rfl) (by kernel_rfl) ?_
 refine gS [] [] 8 [(0, vc (slP a)), (1, vc (slP b))] [] trivial ?_
 refine gS [(2, CE.call [] [] (vc (bo (decide (a = b)))) [])] [Spec Tryz.prog 56 [tc (slP a), tc (slP b)] (ofH []) (vc (bo (decide (a = b)))) (ofH [])] 8 [(4, vc (bo (decide (a = b))))] [] (Equal_c a b) ?_
 exact gT (vc (bo (decide (a = b)))) rfl
theorem f32_body : Tryz.f32.body = some (.seq (.region 0 (rg Tryz.f32 0) false) (.seq (.seq (.region 1 (rg Tryz.f32 1) false) (.cond (.tmp 10) (.seq (.region 2 (rg Tryz.f32 2) false) (.ret)) (.skip))) (.seq (.seq (.region 3 (rg Tryz.f32 3) false) (.block 0 (.loop (.seq (.seq (.region 4 (rg Tryz.f32 4) false) (.cond (.tmp 14) (.skip) (.exit 0))) (.seq (.block 1 (.seq (.region 6 (rg Tryz.f32 6) true) (.cond (.tmp 25) (.seq (.region 7 (rg Tryz.f32 7) false) (.ret)) (.skip)))) (.region 5 (rg Tryz.f32 5) false)))))) (.seq (.region 8 (rg Tryz.f32 8) false) (.ret))))) := by kernel_rfl
set_option maxRecDepth 100000 in
set_option maxHeartbeats 8000000 in
theorem RSame_c (a b : List RuleV) : Pure Tryz.prog 32 [tc (slP a), tc (slP b)] (vc (bo (decide (a = b)))) := by
 refine Pure.of_body Tryz.func32 f32_body (by kernel_rfl) Tryz.ntmps32 (by kernel_rfl) (by kernel_rfl) ?_
 refine AMx.sl 0 (l := a) rfl (fun hl => ?_)
 simp only [maxLen] at hl
 refine gS [] [] 26 [(0, vc (slP a)), (1, vc (slP b))] [] trivial ?_
 refine gQ ?_
 refine gS [] [] 26 [(0, vc (slP a)), (1, vc (slP b)), (10, vc (bo (!decide ((List.length a : Int) = (List.length b : Int)))))] [] trivial ?_
 refine gN ((List.length a : Int) = (List.length b : Int)) (fun hc1 => ?_) fun hc1 => ?_
 ·
  refine gS [] [] 26 [(4, vc (bo false))] [] trivial ?_
  exact gT (vc (bo false)) (by rw [decide_eq_false (fun h => by subst h; simp_all)])
 ·
  refine AMx.skip ?_
  refine gQ ?_
  refine gS [] [] 26 [(0, vc (slP a)), (1, vc (slP b)), (5, vc (i6 0))] [] trivial ?_
  refine AMx.block ?_
  refine AMx.ent (s' := AS.lst 26 [(0, vc (slP a)), (1, vc (slP b)), (5, vc (i6 0))] []) (ent_proj [0, 1, 5] []) ?_
  refine AMx.loop (fun mm ss => ∃ (i : Nat), (i ≤ a.length ∧ List.take i a = List.take i b) ∧ mm = a.length - i ∧ ss = AS.lst 26 [(0, vc (slP a)), (1, vc (slP b)), (5, vc (i6 (i : Int)))] []) ⟨0, ?_, rfl, ?_⟩ ?_
  · exact ⟨by omega, rfl⟩
  · rfl
  rintro mm ss ⟨i, ⟨hI, hE⟩, rfl, rfl⟩
  refine gQ ?_
  refine gS [] [] 26 [(0, vc (slP a)), (1, vc (slP b)), (5, vc (i6 (i : Int))), (14, vc (bo (decide ((i : Int) < (List.length a : Int)))))] [] trivial ?_
  refine gC ((i : Int) < (List.length a : Int)) (fun hc2 => ?_) fun hc2 => ?_
  ·
   refine AMx.skip ?_
   refine gQ ?_
   refine AMx.block ?_
   refine gY [] [] [(0 : Int) ≤ (i : Int), (i : Int) < List.length a, (0 : Int) ≤ (i : Int), (i : Int) < List.length b] 26 [(0, vc (slP a)), (1, vc (slP b)), (5, vc (i6 (i : Int))), (25, vc (bo (!(decide ((List.getD a i ([], 0)).1 = (List.getD b i ([], 0)).1) && (decide ((List.getD a i ([], 0)).2 = (List.getD b i ([], 0)).2) && true)))))] [] mixed ⟨(show (0 : Int) ≤ (i : Int) from (by omega)), (show (i : Int) < List.length a from (by omega)), (show (0 : Int) ≤ (i : Int) from (by omega)), (show (i : Int) < List.length b from (by omega))⟩ ?_
   refine gB (!(decide ((List.getD a i ([], 0)).1 = (List.getD b i ([], 0)).1) && (decide ((List.getD a i ([], 0)).2 = (List.getD b i ([], 0)).2) && true))) (fun hc3 => ?_) fun hc3 => ?_
   ·
    try simp only [xT, xF, xA, xB, xN, xM] at hc3
    refine gS [] [] 26 [(4, vc (bo false))] [] trivial ?_
    exact gT (vc (bo false)) (by rw [decide_eq_false (fun h => by subst h; simp_all)])
   ·
    try simp only [xT, xF, xA, xB, xN, xM] at hc3
    refine AMx.skip ?_
    refine AMx.blk ?_
    refine gR [] [InR .i64 ((i : Int) + 1)] 26 [(0, vc (slP a)), (1, vc (slP b)), (5, vc (i6 ((i : Int) + 1)))] [] (show InR .i64 ((i : Int) + 1) from (inR64 (by omega) (by omega))) ?_
    refine AMx.ent_inv (s' := AS.lst 26 [(0, vc (slP a)), (1, vc (slP b)), (5, vc (i6 ((i : Int) + 1)))] []) (ent_proj [0, 1, 5] []) ?_
    refine AMx.inv ⟨_, ?_, i + 1, ?_, rfl, ?_⟩
    rotate_left
    · exact ⟨by omega, Lib.same_step ([], 0) a b i (by omega) (by omega) hE (by grind)⟩
    · rfl
    · omega
  ·
   refine AMx.exit ?_
   refine AMx.code_exit ?_
   refine AMx.inv_exit ?_
   refine AMx.blk_exit ?_
   refine gS [] [] 26 [(4, vc (bo true))] [] trivial ?_
   exact gT (vc (bo true)) (by rw [decide_eq_true (Lib.same_end a b i (by omega) (by omega) hE)])
end AL.Policy
namespace Go.Proofs
open Go.Shelf
def Tryz.lays168_ren : Go.Shelf.Ren := ⟨fun | 168 => 102 | 240 => 112 | 242 => 114 | 276 => 118 | 278 => 120 | n => n, fun | 0 => 0 | 3 => 3 | 4 => 4 | 5 => 5 | 9 => 9 | 20 => 20 | 21 => 21 | 37 => 73 | 46 => 75 | 51 => 145 | 70 => 125 | 72 => 127 | 75 => 130 | 164 => 148 | 80 => 50 | n => n, fun | n => n⟩
theorem Tryz.lays168 : Go.Proofs.Lays.n168 Tryz.prog Tryz.lays168_ren := {
  mixed := by kernel_rfl
  f168 := Tryz.func102.trans (congrArg some (by kernel_rfl))
  f240 := Tryz.func112.trans (congrArg some (by kernel_rfl))
  f242 := Tryz.func114.trans (congrArg some (by kernel_rfl))
  f276 := Tryz.func118.trans (congrArg some (by kernel_rfl))
  f278 := Tryz.func120.trans (congrArg some (by kernel_rfl))
  t0 := Tryz.underlying0
  a0 := Tryz.isAgg0
  z0 := Tryz.sizeOf0
  v0 := Tryz.zeroValue0
  t3 := Tryz.underlying3
  a3 := Tryz.isAgg3
  z3 := Tryz.sizeOf3
  v3 := Tryz.zeroValue3
  t4 := Tryz.underlying4
  a4 := Tryz.isAgg4
  z4 := Tryz.sizeOf4
  v4 := Tryz.zeroValue4
  t5 := Tryz.underlying5
  a5 := Tryz.isAgg5
  z5 := Tryz.sizeOf5
  v5 := Tryz.zeroValue5
  t9 := Tryz.underlying9
  a9 := Tryz.isAgg9
  z9 := Tryz.sizeOf9
  v9 := Tryz.zeroValue9
  t20 := Tryz.underlying20
  a20 := Tryz.isAgg20
  z20 := Tryz.sizeOf20
  v20 := Tryz.zeroValue20
  t21 := Tryz.underlying21
  a21 := Tryz.isAgg21
  z21 := Tryz.sizeOf21
  v21 := Tryz.zeroValue21
  t37 := Tryz.underlying73
  a37 := Tryz.isAgg73
  z37 := Tryz.sizeOf73
  v37 := Tryz.zeroValue73
  t46 := Tryz.underlying75
  a46 := Tryz.isAgg75
  z46 := Tryz.sizeOf75
  v46 := Tryz.zeroValue75
  t51 := Tryz.underlying145
  a51 := Tryz.isAgg145
  z51 := Tryz.sizeOf145
  v51 := Tryz.zeroValue145
  t70 := Tryz.underlying125
  a70 := Tryz.isAgg125
  z70 := Tryz.sizeOf125
  v70 := Tryz.zeroValue125
  t72 := Tryz.underlying127
  a72 := Tryz.isAgg127
  z72 := Tryz.sizeOf127
  v72 := Tryz.zeroValue127
  t75 := Tryz.underlying130
  a75 := Tryz.isAgg130
  z75 := Tryz.sizeOf130
  v75 := Tryz.zeroValue130
  t164 := Tryz.underlying148
  a164 := Tryz.isAgg148
  z164 := Tryz.sizeOf148
  v164 := Tryz.zeroValue148 }
theorem Tryz.Builder_Extra_168 : Builder.Extra Tryz.prog Tryz.lays168_ren := {
  sizeBuilder := by kernel_rfl
  liesBuilder := by kernel_rfl
  t5 := Tryz.underlying5
  a5 := Tryz.isAgg5
  z5 := Tryz.sizeOf5
  v5 := Tryz.zeroValue5
  infoByte := by kernel_rfl
  cellsByte := by kernel_rfl
  sizeByte := by kernel_rfl
  neB5 := by decide }
open Go.RowKit in
theorem Tryz.WriteRune_k (B b : Nat) (bs : List Value) (r : Int) (hr0 : -2147483648 ≤ r) (hr1 : r ≤ 2147483647) (w : World) (h : Lib.IsBuilderF 127 5 B b bs w) (hlen : bs.length + 4 ≤ 140737488355328) (hBw : B ≤ w.heap.size) :
    Calls Tryz.prog 102 #[.pointer (some ⟨b, 0, none⟩), .int .i32 r] w fun e w' => e = .returned (.tuple #[.int .i64 (Lib.runeCells r).length, .nilIface]) ∧ (Lib.BuilderAtF 127 5 B b (.pointer (some ⟨b, 0, none⟩)) (bs ++ Lib.runeCells r) w' ∧ Below B w w' ∧ Lib.OthersKept 5 (some b) w w') :=
  Any.Builder_WriteRune_k Tryz.lays168 Tryz.Builder_Extra_168 B b bs r hr0 hr1 w h hlen hBw
end Go.Proofs
namespace AL.Policy
open Go Go.Proofs Go.RowKit AL AL.Rune
set_option linter.unusedVariables false
set_option linter.unusedSimpArgs false
theorem and_1 : ∀ m : Nat, m < 256 → (bits BinOp.and IntKind.u8 (m : Int) 1 == 1) = decide ((m : Int) % 2 = 1) := by decide +kernel
theorem bit_and {n : Int} (h0 : 0 ≤ n) (h1 : n ≤ 255) (pos : Nat) : (bits BinOp.and IntKind.u8 (n / 2 ^ pos) 1 == 1) = bitN n pos := by
  have hr := shr_rng h0 (by omega : n < 256) pos
  unfold shrN at hr
  obtain ⟨m, hm⟩ := Int.eq_ofNat_of_zero_le hr.1
  unfold bitN
  rw [hm]
  exact and_1 m (by omega)
theorem dec_lets : ∀ pos, pos < 6 → decS lets pos = ((List.getD lets pos 0).toNat, 1) ∧ Go.Lib.encodeRune (((List.getD lets pos 0).toNat : Nat) : Int) = [List.getD lets pos 0] := by decide +kernel
set_option maxHeartbeats 6400000 in
set_option maxRecDepth 1000000 in
theorem lay_walk (n : Int) (h0 : 0 ≤ n) (h1 : n ≤ 255) (w : World) :
    Calls Tryz.prog 85 #[.int .u8 n] w fun e w' => e = .returned (.string (ba (layS n))) ∧ Below w.heap.size w w' := by
  go_enter Tryz.func85, Tryz.ntmps85
  go_wp2
  go_loopw [7] (fun _ wr => ∃ pos : Nat, pos ≤ 6 ∧ Go.Lib.IsBuilderF 127 5 w.heap.size w.heap.size (Go.Lib.byteCells (layK n pos)) wr ∧ wr.heap[w.heap.size + 1]? = some (.stringIter (ba lets) pos) ∧ Below w.heap.size w wr)
    (fun _ wr => 6 - wr.iterPos (w.heap.size + 1))
  case atStart =>
    refine ⟨0, Nat.zero_le _, (Go.Lib.IsBuilderF.of (Go.Lib.fresh_isBuilder 127 5 w)).alloc _, ?_, ((Below.refl _ w).alloc (Nat.le_refl _) _).alloc (by simp) _⟩
    have := World.iter_heap (w.alloc (.cells #[.pointer none, .slice none 0 0] 127)) (ba lets) 0
    have e : ba lets = ⟨#[114, 119, 100, 120, 108, 115]⟩ := rfl
    rw [e] at this ⊢
    simpa using this
  case round =>
    obtain ⟨pos, hps, hI, hit, hbw⟩ := hrel
    have hlt : w.heap.size + 1 < wr.heap.size := (Array.getElem?_eq_some_iff.1 hit).1
    have hmu : wr.iterPos (w.heap.size + 1) = pos := by simp [World.iterPos, hit]
    by_cases hp : pos < 6
    · have hnx : ∀ ty, (Instr.next (.pointer (some ⟨w.heap.size + 1, 0, none⟩)) true ty).run Tryz.prog wr = Result.ok (Value.tuple #[Value.bool true, Value.int .i64 (pos : Int), Value.int .i32 ((decS lets pos).1 : Int)]) (wr.iterAt (w.heap.size + 1) (ba lets) (pos + (decS lets pos).2)) := fun ty => Go.Lib.run_next_any_at wr (w.heap.size + 1) (ba lets) pos ty hit (by show pos < 6; exact hp)
      have hd := dec_ok (s := lets) (pos := pos) hp
      have hI2 := hI.iterAt hit (pos + (decS lets pos).2)
      have hit2 := Go.Lib.iterAt_heap wr (w.heap.size + 1) (ba lets) pos (pos + (decS lets pos).2) hit
      have hbw2 := Go.Lib.below_iterAt hbw (k := w.heap.size + 1) (by omega) (ba lets) (pos + (decS lets pos).2)
      have hsz2 : w.heap.size + 1 < (wr.iterAt (w.heap.size + 1) (ba lets) (pos + (decS lets pos).2)).heap.size := by rw [Go.Lib.iterAt_size]; exact hlt
      generalize wr.iterAt (w.heap.size + 1) (ba lets) (pos + (decS lets pos).2) = W1 at hnx hI2 hit2 hbw2 hsz2
      have hrm := dec_max lets pos
      have hll := lay_len n pos
      cases hb : bitN n pos with
      | true =>
        have hbt := (bit_and h0 h1 pos).trans hb
        go_wp2_with (go_at_call 102; go_loud (refine (Tryz.WriteRune_k w.heap.size w.heap.size _ _ (by omega) (by omega) _ hI2 (by rw [Go.Lib.byteCells_length]; omega) (hbw2.size)).mono ?_); rintro e W3 ⟨rfl, h1, b1, k1⟩)
        go_wp2
        go_roundw
        case rel =>
          obtain ⟨d1, d2⟩ := dec_lets pos hp
          refine ⟨pos + (decS lets pos).2, by rw [d1]; exact hp, ?_, k1.iter hit2 (by omega), hbw2.trans b1⟩
          rw [d1] at h1 ⊢
          rw [lay_t hb, Go.Lib.byteCells_append]
          rw [← d2, Go.Lib.byteCells_encodeRune]; exact .inr h1
        case measure =>
          simp only [World.iterPos, k1.iter hit2 (by omega), hit]
          omega
      | false =>
        have hbt := (bit_and h0 h1 pos).trans hb
        go_wp2
        go_roundw
        case rel =>
          obtain ⟨d1, d2⟩ := dec_lets pos hp
          refine ⟨pos + (decS lets pos).2, by rw [d1]; exact hp, ?_, hit2, hbw2⟩
          rw [d1]
          rw [lay_f hb]; exact hI2
        case measure =>
          simp only [World.iterPos, hit2, hit]
          omega
    · have hnx : ∀ ty, (Instr.next (.pointer (some ⟨w.heap.size + 1, 0, none⟩)) true ty).run Tryz.prog wr = _ := fun ty => Go.Lib.run_next_end_at wr (w.heap.size + 1) (ba lets) pos ty hit (by show ¬ pos < 6; exact hp)
      go_wp2_with (go_at_call 101; refine (Tryz.Builder_String_any_k w.heap.size w.heap.size (layK n pos) wr hI hbw.size).mono ?_; rintro e W1 ⟨rfl, _, hb1, _⟩)
      go_wp2
      go_ret
      refine ⟨?_, hbw.trans hb1⟩
      rw [show pos = 6 by omega, lay_6 h0]; rfl
theorem lay_c (n : Int) : Pure Tryz.prog 85 [tc (u8 n)] (vc (st (layS n))) := by
  refine Pure.of_below ⟨_, Tryz.func85, by kernel_rfl, by kernel_rfl⟩ fun Γ w cargs hh hm => ?_
  obtain ⟨u, rfl, ⟨rfl, hu⟩⟩ := args1 hm
  rw [inR8_iff] at hu
  refine (lay_walk n hu.1 hu.2 w).mono ?_
  rintro e w' ⟨rfl, hb⟩
  have h := layS_len n
  exact ⟨_, rfl, hb, rfl, by simp only [maxLen]; omega⟩
end AL.Policy
namespace AL.Policy
open Go Go.Proofs AL AL.Rune
set_option linter.unusedVariables false
set_option linter.unusedSimpArgs false
theorem f67_body : Tryz.f67.body = some (.seq (.region 0 (rg Tryz.f67 0) false) (.seq (.seq (.region 1 (rg Tryz.f67 1) false) (.seq (.region 2 (rg Tryz.f67 2) false) (.cond (.tmp 11) (.seq (.region 3 (rg Tryz.f67 3) false) (.ret)) (.skip)))) (.seq (.region 4 (rg Tryz.f67 4) false) (.seq (.seq (.region 5 (rg Tryz.f67 5) false) (.block 0 (.loop (.seq (.region 6 (rg Tryz.f67 6) false) (.seq (.cond (.tmp 19) (.skip) (.exit 0)) (.seq (.block 1 (.seq (.region 7 (rg Tryz.f67 7) false) (.region 8 (rg Tryz.f67 8) true))) (.region 9 (rg Tryz.f67 9) false))))))) (.seq (.region 10 (rg Tryz.f67 10) false) (.ret)))))) := by kernel_rfl
set_option maxRecDepth 100000 in
set_option maxHeartbeats 8000000 in
theorem Text_c (l : List RuleV) : Pure Tryz.prog 67 [tc (slP l)] (AV.tup [tc (st ((textP l).1)), tc (i6 ((textP l).2))]) := by
 refine Pure.of_body Tryz.func67 f67_body (by kernel_rfl) Tryz.ntmps67 (by kernel_rfl) (by kernel_rfl) ?_
 refine AMx.sl 0 (l := l) rfl (fun hl => ?_)
 simp only [maxLen] at hl
 refine gS [] [] 36 [(0, vc (slP l))] [] trivial ?_
 refine gQ ?_
 refine gS [(1, CE.call [] [] (vc (i6 (checkP l))) [])] [Spec Tryz.prog 48 [tc (slP l)] (ofH []) (vc (i6 (checkP l))) (ofH [])] 36 [(0, vc (slP l)), (4, vc (i6 (checkP l)))] [] (Check_c l) ?_
 refine gS [] [] 36 [(0, vc (slP l)), (4, vc (i6 (checkP l))), (11, vc (bo (!decide (checkP l = 0))))] [] trivial ?_
 refine gN (checkP l = 0) (fun hc1 => ?_) fun hc1 => ?_
 ·
  refine gS [] [] 36 [(2, vc (st [])), (3, vc (i6 (checkP l)))] [] trivial ?_
  exact gT (AV.tup [tc (st []), tc (i6 (checkP l))]) (by rw [show textP l = ([], checkP l) from by first | rw [text_no (by assumption)] | (rw [text_ok (by assumption)]; rfl)])
 ·
  refine AMx.skip ?_
  refine gS [(2, CE.obj (AObj.grow 9 1 Bytes [] AL.Fnv.rowS (List.replicate (List.length l) [])))] [0 ≤ (List.length l : Int), (List.length l : Int) ≤ (List.length l : Int), (16 : Int) * (List.length l : Int) ≤ 281474976710656, (List.length l : Int) ≤ 9223372036854775807, MakeC (List.length l) [.s (st [])] (AObj.grow 9 1 Bytes [] AL.Fnv.rowS (List.replicate (List.length l) []))] 36 [(0, vc (slP l)), (5, vo 15)] [(15, AObj.grow 9 1 Bytes [] AL.Fnv.rowS (List.replicate (List.length l) []))] ⟨(show 0 ≤ (List.length l : Int) from (by omega)), (show (List.length l : Int) ≤ (List.length l : Int) from (by omega)), (show (16 : Int) * (List.length l : Int) ≤ 281474976710656 from (by first | omega | (have q1 := check_len (l := l) (by assumption); first | omega | ((try simp only [List.length_append, List.length_cons, List.length_nil, List.length_replicate, List.length_map, List.length_take, List.length_drop, pref_len, ruled_len]); omega)) | (have q4 := text_small (l := l) (by assumption); omega) | (have q1 := check_len (l := l) (by assumption); have q2 := ok_at (l := l) (k := k) (by assumption) (by omega); have q3 := layS_len (List.getD l k ([], 0)).2; (try simp only [List.length_append, List.length_cons, List.length_nil, List.length_replicate, List.length_map, List.length_take, List.length_drop, pref_len, ruled_len]); omega))), (show (List.length l : Int) ≤ 9223372036854775807 from (by omega)), (⟨_, rfl, rfl⟩)⟩ ?_
  refine gQ ?_
  refine gS [] [] 36 [(5, vo 15), (16, vc (slP l)), (17, vc (i6 (List.length l : Int))), (18, vc (i6 0))] [(15, AObj.grow 9 1 Bytes [] AL.Fnv.rowS (List.replicate (List.length l) []))] trivial ?_
  refine AMx.block ?_
  refine AMx.ent (s' := AS.lst 36 [(5, vo 15), (16, vc (slP l)), (17, vc (i6 (List.length l : Int))), (18, vc (i6 0))] [(15, AObj.grow 9 1 Bytes [] AL.Fnv.rowS (List.replicate (List.length l) []))]) (ent_proj [5, 16, 17, 18] [15]) ?_
  refine AMx.loop (fun mm ss => ∃ (k : Nat), (k ≤ l.length) ∧ mm = l.length - k ∧ ss = AS.lst 36 [(5, vo 15), (16, vc (slP l)), (17, vc (i6 (List.length l : Int))), (18, vc (i6 (k : Int)))] [(15, AObj.grow 9 1 Bytes [] AL.Fnv.rowS ((List.take k l).map pieceS ++ List.replicate (l.length - k) []))]) ⟨0, ?_, rfl, ?_⟩ ?_
  · omega
  · rfl
  rintro mm ss ⟨k, hI, rfl, rfl⟩
  refine gS [] [] 36 [(5, vo 15), (16, vc (slP l)), (17, vc (i6 (List.length l : Int))), (18, vc (i6 (k : Int))), (19, vc (bo (decide ((k : Int) < (List.length l : Int)))))] [(15, AObj.grow 9 1 Bytes [] AL.Fnv.rowS ((List.take k l).map pieceS ++ List.replicate (l.length - k) []))] trivial ?_
  refine gQ ?_
  refine gC ((k : Int) < (List.length l : Int)) (fun hc2 => ?_) fun hc2 => ?_
  ·
   refine AMx.skip ?_
   refine gQ ?_
   refine AMx.block ?_
   refine gS [] [(0 : Int) ≤ (k : Int), (k : Int) < List.length l] 36 [(5, vo 15), (6, vc (i6 (k : Int))), (7, vp 7 0), (16, vc (slP l)), (17, vc (i6 (List.length l : Int))), (18, vc (i6 (k : Int)))] [(7, AObj.row [.s (st ((List.getD l k ([], 0)).1)), .s (u8 ((List.getD l k ([], 0)).2))]), (15, AObj.grow 9 1 Bytes [] AL.Fnv.rowS ((List.take k l).map pieceS ++ List.replicate (l.length - k) []))] ⟨(show (0 : Int) ≤ (k : Int) from (by omega)), (show (k : Int) < List.length l from (by omega))⟩ ?_
   refine gX [(7, CE.call [] [] (vc (st (layS ((List.getD l k ([], 0)).2)))) []), (10, CE.obj (AObj.grow 9 1 Bytes [] AL.Fnv.rowS (List.set ((List.take k l).map pieceS ++ List.replicate (l.length - k) []) k ((((List.getD l k ([], 0)).1) ++ [58]) ++ (layS ((List.getD l k ([], 0)).2))))))] [(3, [7]), (6, [7]), (9, [15]), (10, [15])] [List.length ((List.getD l k ([], 0)).1 : List UInt8) + List.length ([58] : List UInt8) ≤ maxLen, Spec Tryz.prog 85 [tc (u8 ((List.getD l k ([], 0)).2))] (ofH []) (vc (st (layS ((List.getD l k ([], 0)).2)))) (ofH []), List.length (((List.getD l k ([], 0)).1) ++ [58] : List UInt8) + List.length (layS ((List.getD l k ([], 0)).2) : List UInt8) ≤ maxLen, (0 : Int) ≤ (k : Int), (k : Int) < List.length ((List.take k l).map pieceS ++ List.replicate (l.length - k) [] : List Bytes), StoreC k 0 [.s (st ((((List.getD l k ([], 0)).1) ++ [58]) ++ (layS ((List.getD l k ([], 0)).2))))] (AObj.grow 9 1 Bytes [] AL.Fnv.rowS ((List.take k l).map pieceS ++ List.replicate (l.length - k) [])) (AObj.grow 9 1 Bytes [] AL.Fnv.rowS (List.set ((List.take k l).map pieceS ++ List.replicate (l.length - k) []) k ((((List.getD l k ([], 0)).1) ++ [58]) ++ (layS ((List.getD l k ([], 0)).2)))))] 36 [(5, vo 15), (16, vc (slP l)), (17, vc (i6 (List.length l : Int))), (18, vc (i6 (k : Int)))] [(15, AObj.grow 9 1 Bytes [] AL.Fnv.rowS (List.set ((List.take k l).map pieceS ++ List.replicate (l.length - k) []) k ((((List.getD l k ([], 0)).1) ++ [58]) ++ (layS ((List.getD l k ([], 0)).2)))))] mixed ⟨(show List.length ((List.getD l k ([], 0)).1 : List UInt8) + List.length ([58] : List UInt8) ≤ maxLen from (by simp only [List.length_append, List.length_cons, List.length_nil, maxLen]; first | omega | (first | omega | (have q1 := check_len (l := l) (by assumption); first | omega | ((try simp only [List.length_append, List.length_cons, List.length_nil, List.length_replicate, List.length_map, List.length_take, List.length_drop, pref_len, ruled_len]); omega)) | (have q4 := text_small (l := l) (by assumption); omega) | (have q1 := check_len (l := l) (by assumption); have q2 := ok_at (l := l) (k := k) (by assumption) (by omega); have q3 := layS_len (List.getD l k ([], 0)).2; (try simp only [List.length_append, List.length_cons, List.length_nil, List.length_replicate, List.length_map, List.length_take, List.length_drop, pref_len, ruled_len]); omega)))), (lay_c ((List.getD l k ([], 0)).2)), (show List.length (((List.getD l k ([], 0)).1) ++ [58] : List UInt8) + List.length (layS ((List.getD l k ([], 0)).2) : List UInt8) ≤ maxLen from (by simp only [List.length_append, List.length_cons, List.length_nil, maxLen]; first | omega | (first | omega | (have q1 := check_len (l := l) (by assumption); first | omega | ((try simp only [List.length_append, List.length_cons, List.length_nil, List.length_replicate, List.length_map, List.length_take, List.length_drop, pref_len, ruled_len]); omega)) | (have q4 := text_small (l := l) (by assumption); omega) | (have q1 := check_len (l := l) (by assumption); have q2 := ok_at (l := l) (k := k) (by assumption) (by omega); have q3 := layS_len (List.getD l k ([], 0)).2; (try simp only [List.length_append, List.length_cons, List.length_nil, List.length_replicate, List.length_map, List.length_take, List.length_drop, pref_len, ruled_len]); omega)))), (show (0 : Int) ≤ (k : Int) from (by omega)), (show (k : Int) < List.length ((List.take k l).map pieceS ++ List.replicate (l.length - k) [] : List Bytes) from (by first | omega | (have q1 := check_len (l := l) (by assumption); first | omega | ((try simp only [List.length_append, List.length_cons, List.length_nil, List.length_replicate, List.length_map, List.length_take, List.length_drop, pref_len, ruled_len]); omega)) | (have q4 := text_small (l := l) (by assumption); omega) | (have q1 := check_len (l := l) (by assumption); have q2 := ok_at (l := l) (k := k) (by assumption) (by omega); have q3 := layS_len (List.getD l k ([], 0)).2; (try simp only [List.length_append, List.length_cons, List.length_nil, List.length_replicate, List.length_map, List.length_take, List.length_drop, pref_len, ruled_len]); omega))), (⟨(((List.getD l k ([], 0)).1) ++ [58]) ++ (layS ((List.getD l k ([], 0)).2)), rfl, by first | omega | (have q1 := check_len (l := l) (by assumption); first | omega | ((try simp only [List.length_append, List.length_cons, List.length_nil, List.length_replicate, List.length_map, List.length_take, List.length_drop, pref_len, ruled_len]); omega)) | (have q4 := text_small (l := l) (by assumption); omega) | (have q1 := check_len (l := l) (by assumption); have q2 := ok_at (l := l) (k := k) (by assumption) (by omega); have q3 := layS_len (List.getD l k ([], 0)).2; (try simp only [List.length_append, List.length_cons, List.length_nil, List.length_replicate, List.length_map, List.length_take, List.length_drop, pref_len, ruled_len]); omega), rfl⟩)⟩ ?_
   refine AMx.blk ?_
   refine gR [] [InR .i64 ((k : Int) + 1)] 36 [(5, vo 15), (16, vc (slP l)), (17, vc (i6 (List.length l : Int))), (18, vc (i6 ((k : Int) + 1)))] [(15, AObj.grow 9 1 Bytes [] AL.Fnv.rowS (List.set ((List.take k l).map pieceS ++ List.replicate (l.length - k) []) k ((((List.getD l k ([], 0)).1) ++ [58]) ++ (layS ((List.getD l k ([], 0)).2)))))] (show InR .i64 ((k : Int) + 1) from (inR64 (by omega) (by omega))) ?_
   refine AMx.ent_inv (s' := AS.lst 36 [(5, vo 15), (16, vc (slP l)), (17, vc (i6 (List.length l : Int))), (18, vc (i6 ((k : Int) + 1)))] [(15, AObj.grow 9 1 Bytes [] AL.Fnv.rowS (List.set ((List.take k l).map pieceS ++ List.replicate (l.length - k) []) k ((((List.getD l k ([], 0)).1) ++ [58]) ++ (layS ((List.getD l k ([], 0)).2)))))]) (ent_proj [5, 16, 17, 18] [15]) ?_
   refine AMx.inv ⟨_, ?_, k + 1, ?_, rfl, ?_⟩
   rotate_left
   · omega
   · rw [← piece_step l k (by omega)]; rfl
   · omega
  ·
   refine AMx.exit ?_
   refine AMx.code_exit ?_
   refine AMx.inv_exit ?_
   refine AMx.blk_exit ?_
   rw [show (List.take k l).map pieceS ++ List.replicate (l.length - k) [] = l.map pieceS from piece_end l k (by omega)]
   refine gS [(1, CE.call [15] [] (vc (st (AL.Sep.joinC 44 (l.map pieceS)))) [])] [Spec Tryz.prog 84 [tc (AL.Fnv.slS (l.map pieceS)), tc (st [44])] (ofH []) (vc (st (AL.Sep.joinC 44 (l.map pieceS)))) (ofH [])] 36 [(2, vc (st (AL.Sep.joinC 44 (l.map pieceS)))), (3, vc (i6 0))] [] (AL.Sep.Join_c 44 (l.map pieceS) (by first | omega | (have q1 := check_len (l := l) (by assumption); first | omega | ((try simp only [List.length_append, List.length_cons, List.length_nil, List.length_replicate, List.length_map, List.length_take, List.length_drop, pref_len, ruled_len]); omega)) | (have q4 := text_small (l := l) (by assumption); omega) | (have q1 := check_len (l := l) (by assumption); have q2 := ok_at (l := l) (k := k) (by assumption) (by omega); have q3 := layS_len (List.getD l k ([], 0)).2; (try simp only [List.length_append, List.length_cons, List.length_nil, List.length_replicate, List.length_map, List.length_take, List.length_drop, pref_len, ruled_len]); omega))) ?_
   exact gT (AV.tup [tc (st (AL.Sep.joinC 44 (l.map pieceS))), tc (i6 0)]) (by rw [show textP l = (AL.Sep.joinC 44 (l.map pieceS), 0) from by first | rw [text_no (by assumption)] | (rw [text_ok (by assumption)]; rfl)])
theorem f86_body : Tryz.f86.body = some (.seq (.region 0 (rg Tryz.f86 0) false) (.seq (.region 1 (rg Tryz.f86 1) false) (.seq (.region 2 (rg Tryz.f86 2) false) (.seq (.seq (.region 3 (rg Tryz.f86 3) false) (.block 0 (.loop (.seq (.seq (.region 4 (rg Tryz.f86 4) false) (.cond (.tmp 12) (.skip) (.exit 0))) (.seq (.block 1 (.seq (.seq (.region 6 (rg Tryz.f86 6) false) (.cond (.tmp 17) (.region 7 (rg Tryz.f86 7) false) (.skip))) (.region 8 (rg Tryz.f86 8) false))) (.region 5 (rg Tryz.f86 5) false)))))) (.seq (.region 9 (rg Tryz.f86 9) false) (.ret)))))) := by kernel_rfl
set_option maxRecDepth 100000 in
set_option maxHeartbeats 8000000 in
theorem one_c (x : RuleV) (hb : x.1.length ≤ 100000) : Pure Tryz.prog 86 [TV.agg [.s (st x.1), .s (u8 x.2)]] (vc (st (pieceS x))) := by
 refine Pure.of_body Tryz.func86 f86_body (by kernel_rfl) Tryz.ntmps86 (by kernel_rfl) (by kernel_rfl) ?_
 refine AMx.cell 0 1 rfl rfl (fun hr => ?_)
 rw [inR8_iff] at hr
 refine gS [] [] 27 [(1, vp 1 0)] [(1, AObj.row [.s (st x.1), .s (u8 x.2)])] trivial ?_
 refine gS [] [List.length x.1 + List.length ([58] : List UInt8) ≤ maxLen] 27 [(1, vp 1 0), (3, vc (st (x.1 ++ [58])))] [(1, AObj.row [.s (st x.1), .s (u8 x.2)])] (show List.length x.1 + List.length ([58] : List UInt8) ≤ maxLen from (by simp only [List.length_append, List.length_cons, List.length_nil, maxLen]; first | omega | (first | omega | (have q3 := lay_len x.2 i; simp only [List.length_append, List.length_cons, List.length_nil, List.length_replicate, List.length_map, List.length_take, List.length_drop, pref_len, ruled_len]; omega)))) ?_
 refine gS [] [] 27 [(3, vc (st (x.1 ++ [58]))), (4, vc (u8 x.2))] [] trivial ?_
 refine gQ ?_
 refine gS [] [] 27 [(3, vc (st (x.1 ++ [58]))), (4, vc (u8 x.2)), (5, vc (i6 0))] [] trivial ?_
 refine AMx.block ?_
 refine AMx.ent (s' := AS.lst 27 [(3, vc (st (x.1 ++ [58]))), (4, vc (u8 x.2)), (5, vc (i6 0))] []) (ent_proj [3, 4, 5] []) ?_
 refine AMx.loop (fun mm ss => ∃ (i : Nat), (i ≤ 6) ∧ mm = 6 - i ∧ ss = AS.lst 27 [(3, vc (st ((x.1 ++ [58]) ++ layK x.2 i))), (4, vc (u8 (shrN x.2 i))), (5, vc (i6 (i : Int)))] []) ⟨0, ?_, rfl, ?_⟩ ?_
 · omega
 · rw [shr_0]; show _ = AS.lst _ _ _; rw [show layK x.2 0 = [] from rfl, List.append_nil]; rfl
 rintro mm ss ⟨i, hI, rfl, rfl⟩
 refine gQ ?_
 refine gS [] [] 27 [(3, vc (st ((x.1 ++ [58]) ++ layK x.2 i))), (4, vc (u8 (shrN x.2 i))), (5, vc (i6 (i : Int))), (12, vc (bo (decide ((i : Int) < 6))))] [] trivial ?_
 refine gC ((i : Int) < 6) (fun hc1 => ?_) fun hc1 => ?_
 ·
  refine AMx.skip ?_
  refine gQ ?_
  refine AMx.block ?_
  refine gQ ?_
  refine gS [] [(2 : Int) ≠ 0] 27 [(3, vc (st ((x.1 ++ [58]) ++ layK x.2 i))), (4, vc (u8 (shrN x.2 i))), (5, vc (i6 (i : Int))), (17, vc (bo (decide (Int.tmod (shrN x.2 i) 2 = 1))))] [] (show (2 : Int) ≠ 0 from (by omega)) ?_
  refine gC (Int.tmod (shrN x.2 i) 2 = 1) (fun hc2 => ?_) fun hc2 => ?_
  ·
   refine gR [] [InR .i64 ((i : Int) + 1), 0 ≤ (i : Int) + 1, (i : Int) + 1 ≤ List.length ([114, 119, 100, 120, 108, 115] : List UInt8), 0 ≤ (i : Int), (i : Int) ≤ (i : Int) + 1, List.length ((x.1 ++ [58]) ++ layK x.2 i : List UInt8) + List.length (List.drop i (List.take (i + 1) [114, 119, 100, 120, 108, 115]) : List UInt8) ≤ maxLen] 27 [(3, vc (st (((x.1 ++ [58]) ++ layK x.2 i) ++ (List.drop i (List.take (i + 1) [114, 119, 100, 120, 108, 115]))))), (4, vc (u8 (shrN x.2 i))), (5, vc (i6 (i : Int)))] [] ⟨(show InR .i64 ((i : Int) + 1) from (inR64 (by omega) (by omega))), (show 0 ≤ (i : Int) + 1 from (by omega)), (show (i : Int) + 1 ≤ List.length ([114, 119, 100, 120, 108, 115] : List UInt8) from (by first | omega | (have q3 := lay_len x.2 i; simp only [List.length_append, List.length_cons, List.length_nil, List.length_replicate, List.length_map, List.length_take, List.length_drop, pref_len, ruled_len]; omega))), (show 0 ≤ (i : Int) from (by omega)), (show (i : Int) ≤ (i : Int) + 1 from (by omega)), (show List.length ((x.1 ++ [58]) ++ layK x.2 i : List UInt8) + List.length (List.drop i (List.take (i + 1) [114, 119, 100, 120, 108, 115]) : List UInt8) ≤ maxLen from (by simp only [List.length_append, List.length_cons, List.length_nil, maxLen]; first | omega | (first | omega | (have q3 := lay_len x.2 i; simp only [List.length_append, List.length_cons, List.length_nil, List.length_replicate, List.length_map, List.length_take, List.length_drop, pref_len, ruled_len]; omega))))⟩ ?_
   refine gR [] [(2 : Int) ≠ 0] 27 [(3, vc (st (((x.1 ++ [58]) ++ layK x.2 i) ++ (List.drop i (List.take (i + 1) [114, 119, 100, 120, 108, 115]))))), (4, vc (u8 (IntKind.wrap .u8 (Int.tdiv (shrN x.2 i) 2)))), (5, vc (i6 (i : Int)))] [] (show (2 : Int) ≠ 0 from (by omega)) ?_
   refine AMx.blk ?_
   refine gR [] [InR .i64 ((i : Int) + 1)] 27 [(3, vc (st (((x.1 ++ [58]) ++ layK x.2 i) ++ (List.drop i (List.take (i + 1) [114, 119, 100, 120, 108, 115]))))), (4, vc (u8 (IntKind.wrap .u8 (Int.tdiv (shrN x.2 i) 2)))), (5, vc (i6 ((i : Int) + 1)))] [] (show InR .i64 ((i : Int) + 1) from (inR64 (by omega) (by omega))) ?_
   refine AMx.ent_inv (s' := AS.lst 27 [(3, vc (st (((x.1 ++ [58]) ++ layK x.2 i) ++ (List.drop i (List.take (i + 1) [114, 119, 100, 120, 108, 115]))))), (4, vc (u8 (IntKind.wrap .u8 (Int.tdiv (shrN x.2 i) 2)))), (5, vc (i6 ((i : Int) + 1)))] []) (ent_proj [3, 4, 5] []) ?_
   refine AMx.inv ⟨_, ?_, i + 1, ?_, rfl, ?_⟩
   rotate_left
   · omega
   · rw [lay_t ((shr_bit (by omega) (by omega) i).1 hc2), ← List.append_assoc, ← lay_one i (by omega), ← shr_step (n := x.2) (by omega) (by omega) i]; rfl
   · omega
  ·
   refine AMx.skip ?_
   refine gR [] [(2 : Int) ≠ 0] 27 [(3, vc (st ((x.1 ++ [58]) ++ layK x.2 i))), (4, vc (u8 (IntKind.wrap .u8 (Int.tdiv (shrN x.2 i) 2)))), (5, vc (i6 (i : Int)))] [] (show (2 : Int) ≠ 0 from (by omega)) ?_
   refine AMx.blk ?_
   refine gR [] [InR .i64 ((i : Int) + 1)] 27 [(3, vc (st ((x.1 ++ [58]) ++ layK x.2 i))), (4, vc (u8 (IntKind.wrap .u8 (Int.tdiv (shrN x.2 i) 2)))), (5, vc (i6 ((i : Int) + 1)))] [] (show InR .i64 ((i : Int) + 1) from (inR64 (by omega) (by omega))) ?_
   refine AMx.ent_inv (s' := AS.lst 27 [(3, vc (st ((x.1 ++ [58]) ++ layK x.2 i))), (4, vc (u8 (IntKind.wrap .u8 (Int.tdiv (shrN x.2 i) 2)))), (5, vc (i6 ((i : Int) + 1)))] []) (ent_proj [3, 4, 5] []) ?_
   refine AMx.inv ⟨_, ?_, i + 1, ?_, rfl, ?_⟩
   rotate_left
   · omega
   · rw [lay_f (by cases q : bitN x.2 i with | false => rfl | true => exact absurd ((shr_bit (by omega) (by omega) i).2 q) hc2), ← shr_step (n := x.2) (by omega) (by omega) i]; rfl
   · omega
 ·
  refine AMx.exit ?_
  refine AMx.code_exit ?_
  refine AMx.inv_exit ?_
  refine AMx.blk_exit ?_
  refine gS [] [] 27 [(2, vc (st ((x.1 ++ [58]) ++ layK x.2 i)))] [] trivial ?_
  exact gT (vc (st ((x.1 ++ [58]) ++ layK x.2 i))) (by rw [show i = 6 by omega, lay_6 (by omega)]; rfl)
end AL.Policy
namespace AL.Policy
open Go Go.Proofs AL AL.Rune
set_option linter.unusedVariables false
set_option linter.unusedSimpArgs false
theorem f82_body : Tryz.f82.body = some (.seq (.region 0 (rg Tryz.f82 0) false) (.seq (.region 1 (rg Tryz.f82 1) false) (.seq (.region 2 (rg Tryz.f82 2) false) (.seq (.seq (.region 3 (rg Tryz.f82 3) false) (.block 0 (.loop (.seq (.region 4 (rg Tryz.f82 4) false) (.seq (.cond (.tmp 11) (.skip) (.exit 0)) (.block 1 (.seq (.region 5 (rg Tryz.f82 5) false) (.seq (.block 2 (.loop (.seq (.seq (.region 6 (rg Tryz.f82 6) false) (.cond (.tmp 21) (.skip) (.exit 2))) (.block 3 (.region 7 (rg Tryz.f82 7) false))))) (.seq (.seq (.region 8 (rg Tryz.f82 8) false) (.cond (.tmp 25) (.seq (.region 9 (rg Tryz.f82 9) false) (.ret)) (.skip))) (.seq (.region 10 (rg Tryz.f82 10) false) (.region 11 (rg Tryz.f82 11) false))))))))))) (.seq (.region 12 (rg Tryz.f82 12) false) (.ret)))))) := by kernel_rfl
set_option maxRecDepth 100000 in
set_option maxHeartbeats 8000000 in
theorem caps_c (s : Bytes) : Pure Tryz.prog 82 [tc (st s)] (AV.tup [tc (u8 ((capsR s).1)), tc (bo ((capsR s).2))]) := by
 refine Pure.of_body Tryz.func82 f82_body (by kernel_rfl) Tryz.ntmps82 (by kernel_rfl) (by kernel_rfl) ?_
 refine AMx.str 0 (b := s) rfl (fun hls => ?_)
 simp only [maxLen] at hls
 refine gS [] [] 33 [(0, vc (st s))] [] trivial ?_
 refine gS [] [] 33 [(0, vc (st s)), (4, vc (u8 0))] [] trivial ?_
 refine gS [] [] 33 [(0, vc (st s)), (4, vc (u8 0)), (5, vc (i6 0))] [] trivial ?_
 refine gQ ?_
 refine gS [] [] 33 [(4, vc (u8 0)), (5, vc (i6 0)), (9, vp 9 0)] [(9, AObj.iter s 0)] trivial ?_
 refine AMx.block ?_
 refine AMx.ent (s' := AS.lst 33 [(4, vc (u8 0)), (5, vc (i6 0)), (9, vp 9 0)] [(9, AObj.iter s 0)]) (ent_proj [4, 5, 9] [9]) ?_
 refine AMx.loop (fun mm ss => ∃ (pos : Nat) (out : Nat), (pos ≤ s.length ∧ out < 64 ∧ laysN out = List.take pos s) ∧ mm = s.length - pos ∧ ss = AS.lst 33 [(4, vc (u8 (out : Int))), (5, vc (i6 (atN out : Int))), (9, vp 9 0)] [(9, AObj.iter s pos)]) ⟨0, 0, ?_, rfl, ?_⟩ ?_
 · exact ⟨Nat.zero_le _, by omega, by rw [List.take_zero]; rfl⟩
 · rfl
 rintro mm ss ⟨pos, out, ⟨hI, hO, hS⟩, rfl, rfl⟩
 refine gQ ?_
 rcases Nat.lt_or_ge pos (List.length s) with hn1 | hn1
 ·
  have hd1 := AL.Rune.dec_ok hn1
  refine gR [(0, CE.str [])] [pos < List.length s, ((pos : Nat) : Int) ≤ 9223372036854775807] 33 [(4, vc (u8 (out : Int))), (5, vc (i6 (atN out : Int))), (9, vp 9 0), (10, AV.tup [tc (bo true), tc (i6 (pos : Int)), tc (i3 ((decS s pos).1 : Int))]), (11, vc (bo true))] [(9, AObj.iter s (pos + (decS s pos).2))] ⟨(show pos < List.length s from (by omega)), (show ((pos : Nat) : Int) ≤ 9223372036854775807 from (by omega))⟩ ?_
  refine gQ ?_
  refine gBt ?_
  refine AMx.skip ?_
  refine AMx.block ?_
  refine gS [] [] 33 [(4, vc (u8 (out : Int))), (5, vc (i6 (atN out : Int))), (7, vc (i3 ((decS s pos).1 : Int))), (9, vp 9 0)] [(9, AObj.iter s (pos + (decS s pos).2))] trivial ?_
  refine gQ ?_
  refine AMx.block ?_
  refine AMx.ent (s' := AS.lst 33 [(4, vc (u8 (out : Int))), (5, vc (i6 (atN out : Int))), (7, vc (i3 ((decS s pos).1 : Int))), (9, vp 9 0)] [(9, AObj.iter s (pos + (decS s pos).2))]) (ent_proj [4, 5, 7, 9] [9]) ?_
  refine AMx.loop (fun mm ss => ∃ (j : Nat), (atN out ≤ j ∧ j ≤ 6 ∧ ∀ m, atN out ≤ m → m < j → ¬ (List.getD lets m 0).toNat = (decS s pos).1) ∧ mm = 6 - j ∧ ss = AS.lst 33 [(4, vc (u8 (out : Int))), (5, vc (i6 (j : Int))), (7, vc (i3 ((decS s pos).1 : Int))), (9, vp 9 0)] [(9, AObj.iter s (pos + (decS s pos).2))]) ⟨atN out, ?_, rfl, ?_⟩ ?_
  · exact ⟨Nat.le_refl _, at_le out hO, fun m h1 h2 => by omega⟩
  · rfl
  rintro mm ss ⟨j, ⟨hA, hJ, hL⟩, rfl, rfl⟩
  refine gQ ?_
  refine gS [] [((decide ((j : Int) < 6)) = true) → allP [], ((decide ((j : Int) < 6)) = true) → allP [(decide ((j : Int) < 6)) = true, (0 : Int) ≤ (j : Int), (j : Int) < List.length ([114, 119, 100, 120, 108, 115] : List UInt8)], ((decide ((j : Int) < 6)) = true) → allP [(decide ((j : Int) < 6)) = true], ((decide ((j : Int) < 6)) = true) → allP [], ((decide ((j : Int) < 6)) = true) → allP [(decide ((j : Int) < 6)) = true, (decide ((j : Int) < 6)) = true], (decide ((j : Int) < 6)) = true → allP [(decide ((j : Int) < 6)) = true]] 33 [(4, vc (u8 (out : Int))), (5, vc (i6 (j : Int))), (7, vc (i3 ((decS s pos).1 : Int))), (9, vp 9 0), (21, vc (bo ((decide ((j : Int) < 6)) && (!decide (((List.getD ([114, 119, 100, 120, 108, 115] : List UInt8) j 0).toNat : Int) = ((decS s pos).1 : Int))))))] [(9, AObj.iter s (pos + (decS s pos).2))] ⟨(fun _ => trivial), (fun hp => by have hq := hp; (try simp only [decide_eq_true_eq, decide_eq_false_iff_not, Bool.and_eq_true, Bool.or_eq_true, Bool.and_eq_false_iff, Bool.or_eq_false_iff, Bool.not_eq_true', Bool.not_eq_false', Bool.not_eq_true, Bool.not_eq_false] at hq); exact ⟨hp, (show (0 : Int) ≤ (j : Int) from (by omega)), (show (j : Int) < List.length ([114, 119, 100, 120, 108, 115] : List UInt8) from (by omega))⟩), (fun hp => hp), (fun _ => trivial), (fun hp => ⟨hp, hp⟩), (fun hp2 => (by first | exact hp2 | exact ⟨hp, hp2⟩))⟩ ?_
  refine gB (((decide ((j : Int) < 6)) && (!decide (((List.getD ([114, 119, 100, 120, 108, 115] : List UInt8) j 0).toNat : Int) = ((decS s pos).1 : Int))))) (fun hc2 => ?_) fun hc2 => ?_
  ·
   try simp only [xT, xF, xA, xB, xN, xM] at hc2
   refine AMx.skip ?_
   refine AMx.block ?_
   refine gR [] [InR .i64 ((j : Int) + 1)] 33 [(4, vc (u8 (out : Int))), (5, vc (i6 ((j : Int) + 1))), (7, vc (i3 ((decS s pos).1 : Int))), (9, vp 9 0)] [(9, AObj.iter s (pos + (decS s pos).2))] (show InR .i64 ((j : Int) + 1) from (inR64 (by omega) (by omega))) ?_
   refine AMx.blk ?_
   refine AMx.ent_inv (s' := AS.lst 33 [(4, vc (u8 (out : Int))), (5, vc (i6 ((j : Int) + 1))), (7, vc (i3 ((decS s pos).1 : Int))), (9, vp 9 0)] [(9, AObj.iter s (pos + (decS s pos).2))]) (ent_proj [4, 5, 7, 9] [9]) ?_
   refine AMx.inv ⟨_, ?_, j + 1, ?_, rfl, ?_⟩
   rotate_left
   · exact ⟨by omega, by omega, fun m h1 h2 => by rcases Nat.lt_or_ge m j with q | q; exact hL m h1 q; rw [show m = j by omega]; exact fun q2 => hc2.2 (congrArg Int.ofNat q2)⟩
   · rfl
   · omega
  ·
   try simp only [xT, xF, xA, xB, xN, xM] at hc2
   refine AMx.exit ?_
   refine AMx.code_exit ?_
   refine AMx.inv_exit ?_
   refine AMx.blk_exit ?_
   refine gQ ?_
   refine gS [] [] 33 [(4, vc (u8 (out : Int))), (5, vc (i6 (j : Int))), (9, vp 9 0), (25, vc (bo (decide ((j : Int) = 6))))] [(9, AObj.iter s (pos + (decS s pos).2))] trivial ?_
   refine gC ((j : Int) = 6) (fun hc3 => ?_) fun hc3 => ?_
   ·
    refine gS [] [] 33 [(2, vc (u8 0)), (3, vc (bo false))] [] trivial ?_
    exact gT (AV.tup [tc (u8 0), tc (bo false)]) (by rw [show capsR s = (0, false) from by rw [caps_stop hO hS (by omega) (fun m h1 h2 => hL m h1 (by omega))]])
   ·
    refine AMx.skip ?_
    refine gS [] [(0 : Int) ≤ (j : Int)] 33 [(4, vc (u8 (IntKind.wrap .u8 ((BitVec.ofInt 8 (out : Int) ||| BitVec.ofInt 8 (IntKind.wrap .u8 (1 * 2 ^ (min ((j : Int) : Int).toNat (IntKind.bits .u8))))).toNat)))), (5, vc (i6 (j : Int))), (9, vp 9 0)] [(9, AObj.iter s (pos + (decS s pos).2))] (show (0 : Int) ≤ (j : Int) from (by omega)) ?_
    refine gR [] [InR .i64 ((j : Int) + 1)] 33 [(4, vc (u8 (IntKind.wrap .u8 ((BitVec.ofInt 8 (out : Int) ||| BitVec.ofInt 8 (IntKind.wrap .u8 (1 * 2 ^ (min ((j : Int) : Int).toNat (IntKind.bits .u8))))).toNat)))), (5, vc (i6 ((j : Int) + 1))), (9, vp 9 0)] [(9, AObj.iter s (pos + (decS s pos).2))] (show InR .i64 ((j : Int) + 1) from (inR64 (by omega) (by omega))) ?_
    refine AMx.blk ?_
    refine AMx.ent_inv (s' := AS.lst 33 [(4, vc (u8 (IntKind.wrap .u8 ((BitVec.ofInt 8 (out : Int) ||| BitVec.ofInt 8 (IntKind.wrap .u8 (1 * 2 ^ (min ((j : Int) : Int).toNat (IntKind.bits .u8))))).toNat)))), (5, vc (i6 ((j : Int) + 1))), (9, vp 9 0)] [(9, AObj.iter s (pos + (decS s pos).2))]) (ent_proj [4, 5, 9] [9]) ?_
    refine AMx.inv ⟨_, ?_, pos + (decS s pos).2, out + 2 ^ j, ?_, rfl, ?_⟩
    rotate_left
    · obtain ⟨g1, g2, _⟩ := caps_next hO hS (by omega) (show j < 6 by omega) hA (by rcases hc2 with q | q; exact absurd q (by omega); exact Int.ofNat.inj q); exact ⟨by omega, g1, g2⟩
    · rw [← (caps_grow out hO j (show j < 6 by omega) hA).2.2.2, (caps_grow out hO j (show j < 6 by omega) hA).2.2.1]; rfl
    · omega
 ·
  refine gR [] [List.length s ≤ pos] 33 [(4, vc (u8 (out : Int))), (5, vc (i6 (atN out : Int))), (9, vp 9 0), (10, AV.tup [tc (bo false)]), (11, vc (bo false))] [(9, AObj.iter s pos)] (show List.length s ≤ pos from (by omega)) ?_
  refine gQ ?_
  refine gBf ?_
  refine AMx.exit ?_
  refine AMx.code_exit ?_
  refine AMx.inv_exit ?_
  refine AMx.blk_exit ?_
  refine gS [] [] 33 [(2, vc (u8 (out : Int))), (3, vc (bo true))] [] trivial ?_
  exact gT (AV.tup [tc (u8 (out : Int)), tc (bo true)]) (by rw [show capsR s = ((out : Int), true) from by rw [caps_done hO hS (by omega)]])
theorem f60_body : Tryz.f60.body = some (.seq (.region 0 (rg Tryz.f60 0) false) (.seq (.seq (.region 1 (rg Tryz.f60 1) false) (.cond (.tmp 14) (.seq (.region 2 (rg Tryz.f60 2) false) (.ret)) (.skip))) (.seq (.region 3 (rg Tryz.f60 3) false) (.seq (.seq (.region 4 (rg Tryz.f60 4) false) (.block 0 (.loop (.seq (.region 5 (rg Tryz.f60 5) false) (.seq (.cond (.tmp 19) (.skip) (.exit 0)) (.seq (.block 1 (.seq (.region 6 (rg Tryz.f60 6) false) (.seq (.region 7 (rg Tryz.f60 7) false) (.seq (.region 8 (rg Tryz.f60 8) false) (.seq (.seq (.region 9 (rg Tryz.f60 9) false) (.cond (.tmp 38) (.seq (.region 10 (rg Tryz.f60 10) false) (.ret)) (.skip))) (.region 11 (rg Tryz.f60 11) false)))))) (.region 12 (rg Tryz.f60 12) false))))))) (.seq (.seq (.region 13 (rg Tryz.f60 13) false) (.seq (.region 14 (rg Tryz.f60 14) false) (.cond (.tmp 49) (.seq (.region 15 (rg Tryz.f60 15) false) (.ret)) (.skip)))) (.seq (.region 16 (rg Tryz.f60 16) false) (.ret))))))) := by kernel_rfl
set_option maxRecDepth 100000 in
set_option maxHeartbeats 8000000 in
theorem Parse_c (s : Bytes) (hb : s.length ≤ 100000) : Pure Tryz.prog 60 [tc (st s)] (AV.tup [tc (slP ((parseP s).1)), tc (i6 ((parseP s).2))]) := by
 refine Pure.of_body Tryz.func60 f60_body (by kernel_rfl) Tryz.ntmps60 (by kernel_rfl) (by kernel_rfl) ?_
 have hsl := split_le 44 s
 refine gS [] [] 52 [(0, vc (st s))] [] trivial ?_
 refine gQ ?_
 refine gS [] [] 52 [(0, vc (st s)), (14, vc (bo (decide (s = []))))] [] trivial ?_
 refine gC (s = []) (fun hc1 => ?_) fun hc1 => ?_
 ·
  refine gS [] [] 52 [(2, vc (SC.nilsl)), (3, vc (i6 0))] [] trivial ?_
  refine AMx.ent (ent_weak 2 (v' := vc (slP [])) (by kernel_rfl) (AV.le_t (TV.le_c AC.le_nil))) ?_
  exact gT (AV.tup [tc (slP []), tc (i6 0)]) (by rw [show parseP s = ([], 0) from by rw [hc1]; rfl])
 ·
  refine AMx.skip ?_
  refine gS [] [] 52 [(0, vc (st s)), (4, vc (SC.nilsl))] [] trivial ?_
  refine gQ ?_
  refine gS [(1, CE.call [] [] (vc (AL.Fnv.slS (AL.Sep.splitC 44 s))) [])] [Spec Tryz.prog 33 [tc (st s), tc (st [44])] (ofH []) (vc (AL.Fnv.slS (AL.Sep.splitC 44 s))) (ofH [])] 52 [(4, vc (SC.nilsl)), (16, vc (AL.Fnv.slS (AL.Sep.splitC 44 s))), (17, vc (i6 (List.length (AL.Sep.splitC 44 s : List Bytes) : Int))), (18, vc (i6 0))] [] (AL.Sep.Split_c 44 s (by omega)) ?_
  refine AMx.block ?_
  refine AMx.ent (s' := AS.lst 52 [(4, vo 4), (16, vc (AL.Fnv.slS (AL.Sep.splitC 44 s))), (17, vc (i6 (List.length (AL.Sep.splitC 44 s : List Bytes) : Int))), (18, vc (i6 0))] [(4, AObj.grow 77 2 RuleV ([], 0) rowP [])]) (ent_adopt (t := 4) (d := 4) 77 2 RuleV ([], 0) rowP (by kernel_rfl) (by kernel_rfl) (by kernel_rfl) (by kernel_rfl)) ?_
  refine AMx.ent (s' := AS.lst 52 [(4, vo 4), (16, vc (AL.Fnv.slS (AL.Sep.splitC 44 s))), (17, vc (i6 (List.length (AL.Sep.splitC 44 s : List Bytes) : Int))), (18, vc (i6 0))] [(4, AObj.grow 77 2 RuleV ([], 0) rowP [])]) (ent_proj [4, 16, 17, 18] [4]) ?_
  refine AMx.loop (fun mm ss => ∃ (k : Nat), (k ≤ (AL.Sep.splitC 44 s).length ∧ fineS (List.take k (AL.Sep.splitC 44 s)) = true) ∧ mm = (AL.Sep.splitC 44 s).length - k ∧ ss = AS.lst 52 [(4, vo 4), (16, vc (AL.Fnv.slS (AL.Sep.splitC 44 s))), (17, vc (i6 (List.length (AL.Sep.splitC 44 s : List Bytes) : Int))), (18, vc (i6 (k : Int)))] [(4, AObj.grow 77 2 RuleV ([], 0) rowP (ruled (List.take k (AL.Sep.splitC 44 s))))]) ⟨0, ?_, rfl, ?_⟩ ?_
  · exact ⟨Nat.zero_le _, rfl⟩
  · rfl
  rintro mm ss ⟨k, ⟨hI, hN⟩, rfl, rfl⟩
  refine gS [] [] 52 [(4, vo 4), (16, vc (AL.Fnv.slS (AL.Sep.splitC 44 s))), (17, vc (i6 (List.length (AL.Sep.splitC 44 s : List Bytes) : Int))), (18, vc (i6 (k : Int))), (19, vc (bo (decide ((k : Int) < (List.length (AL.Sep.splitC 44 s : List Bytes) : Int)))))] [(4, AObj.grow 77 2 RuleV ([], 0) rowP (ruled (List.take k (AL.Sep.splitC 44 s))))] trivial ?_
  refine gQ ?_
  refine gC ((k : Int) < (List.length (AL.Sep.splitC 44 s : List Bytes) : Int)) (fun hc2 => ?_) fun hc2 => ?_
  ·
   refine AMx.skip ?_
   refine gQ ?_
   refine AMx.block ?_
   refine gS [] [(0 : Int) ≤ (k : Int), (k : Int) < List.length (AL.Sep.splitC 44 s : List Bytes)] 52 [(4, vo 4), (6, vc (st (List.getD (AL.Sep.splitC 44 s) k []))), (16, vc (AL.Fnv.slS (AL.Sep.splitC 44 s))), (17, vc (i6 (List.length (AL.Sep.splitC 44 s : List Bytes) : Int))), (18, vc (i6 (k : Int)))] [(4, AObj.grow 77 2 RuleV ([], 0) rowP (ruled (List.take k (AL.Sep.splitC 44 s))))] ⟨(show (0 : Int) ≤ (k : Int) from (by omega)), (show (k : Int) < List.length (AL.Sep.splitC 44 s : List Bytes) from (by omega))⟩ ?_
   refine gS [(1, CE.call [] [] (AV.tup [tc (st ((AL.Sep.cutAt 58 (List.getD (AL.Sep.splitC 44 s) k [])).1)), tc (st ((AL.Sep.cutAt 58 (List.getD (AL.Sep.splitC 44 s) k [])).2.1)), tc (bo ((AL.Sep.cutAt 58 (List.getD (AL.Sep.splitC 44 s) k [])).2.2))]) [])] [Spec Tryz.prog 81 [tc (st (List.getD (AL.Sep.splitC 44 s) k [])), tc (st [58])] (ofH []) (AV.tup [tc (st ((AL.Sep.cutAt 58 (List.getD (AL.Sep.splitC 44 s) k [])).1)), tc (st ((AL.Sep.cutAt 58 (List.getD (AL.Sep.splitC 44 s) k [])).2.1)), tc (bo ((AL.Sep.cutAt 58 (List.getD (AL.Sep.splitC 44 s) k [])).2.2))]) (ofH [])] 52 [(4, vo 4), (7, vc (st ((AL.Sep.cutAt 58 (List.getD (AL.Sep.splitC 44 s) k [])).1))), (8, vc (st ((AL.Sep.cutAt 58 (List.getD (AL.Sep.splitC 44 s) k [])).2.1))), (9, vc (bo ((AL.Sep.cutAt 58 (List.getD (AL.Sep.splitC 44 s) k [])).2.2))), (16, vc (AL.Fnv.slS (AL.Sep.splitC 44 s))), (17, vc (i6 (List.length (AL.Sep.splitC 44 s : List Bytes) : Int))), (18, vc (i6 (k : Int)))] [(4, AObj.grow 77 2 RuleV ([], 0) rowP (ruled (List.take k (AL.Sep.splitC 44 s))))] (AL.Sep.Cut_c 58 (List.getD (AL.Sep.splitC 44 s) k [])) ?_
   refine gS [(1, CE.call [] [] (AV.tup [tc (u8 ((capsR ((AL.Sep.cutAt 58 (List.getD (AL.Sep.splitC 44 s) k [])).2.1)).1)), tc (bo ((capsR ((AL.Sep.cutAt 58 (List.getD (AL.Sep.splitC 44 s) k [])).2.1)).2))]) [])] [Spec Tryz.prog 82 [tc (st ((AL.Sep.cutAt 58 (List.getD (AL.Sep.splitC 44 s) k [])).2.1))] (ofH []) (AV.tup [tc (u8 ((capsR ((AL.Sep.cutAt 58 (List.getD (AL.Sep.splitC 44 s) k [])).2.1)).1)), tc (bo ((capsR ((AL.Sep.cutAt 58 (List.getD (AL.Sep.splitC 44 s) k [])).2.1)).2))]) (ofH [])] 52 [(4, vo 4), (7, vc (st ((AL.Sep.cutAt 58 (List.getD (AL.Sep.splitC 44 s) k [])).1))), (9, vc (bo ((AL.Sep.cutAt 58 (List.getD (AL.Sep.splitC 44 s) k [])).2.2))), (10, vc (u8 ((capsR ((AL.Sep.cutAt 58 (List.getD (AL.Sep.splitC 44 s) k [])).2.1)).1))), (11, vc (bo ((capsR ((AL.Sep.cutAt 58 (List.getD (AL.Sep.splitC 44 s) k [])).2.1)).2))), (16, vc (AL.Fnv.slS (AL.Sep.splitC 44 s))), (17, vc (i6 (List.length (AL.Sep.splitC 44 s : List Bytes) : Int))), (18, vc (i6 (k : Int)))] [(4, AObj.grow 77 2 RuleV ([], 0) rowP (ruled (List.take k (AL.Sep.splitC 44 s))))] (caps_c ((AL.Sep.cutAt 58 (List.getD (AL.Sep.splitC 44 s) k [])).2.1)) ?_
   refine gQ ?_
   refine gS [] [((!((AL.Sep.cutAt 58 (List.getD (AL.Sep.splitC 44 s) k [])).2.2)) = false) → allP [], ((!((AL.Sep.cutAt 58 (List.getD (AL.Sep.splitC 44 s) k [])).2.2)) = false) → allP [(!((AL.Sep.cutAt 58 (List.getD (AL.Sep.splitC 44 s) k [])).2.2)) = false], (!((AL.Sep.cutAt 58 (List.getD (AL.Sep.splitC 44 s) k [])).2.2)) = false → allP [(!((AL.Sep.cutAt 58 (List.getD (AL.Sep.splitC 44 s) k [])).2.2)) = false]] 52 [(4, vo 4), (7, vc (st ((AL.Sep.cutAt 58 (List.getD (AL.Sep.splitC 44 s) k [])).1))), (10, vc (u8 ((capsR ((AL.Sep.cutAt 58 (List.getD (AL.Sep.splitC 44 s) k [])).2.1)).1))), (16, vc (AL.Fnv.slS (AL.Sep.splitC 44 s))), (17, vc (i6 (List.length (AL.Sep.splitC 44 s : List Bytes) : Int))), (18, vc (i6 (k : Int))), (38, vc (bo ((!((AL.Sep.cutAt 58 (List.getD (AL.Sep.splitC 44 s) k [])).2.2)) || (!((capsR ((AL.Sep.cutAt 58 (List.getD (AL.Sep.splitC 44 s) k [])).2.1)).2)))))] [(4, AObj.grow 77 2 RuleV ([], 0) rowP (ruled (List.take k (AL.Sep.splitC 44 s))))] ⟨(fun _ => trivial), (fun hp => hp), (fun hp2 => (by first | exact hp2 | exact ⟨hp, hp2⟩))⟩ ?_
   refine gB (((!((AL.Sep.cutAt 58 (List.getD (AL.Sep.splitC 44 s) k [])).2.2)) || (!((capsR ((AL.Sep.cutAt 58 (List.getD (AL.Sep.splitC 44 s) k [])).2.1)).2)))) (fun hc3 => ?_) fun hc3 => ?_
   ·
    try simp only [xT, xF, xO, xP, xN, xM] at hc3
    refine gS [] [] 52 [(2, vc (SC.nilsl)), (3, vc (i6 4))] [] trivial ?_
    refine AMx.ent (ent_weak 2 (v' := vc (slP [])) (by kernel_rfl) (AV.le_t (TV.le_c AC.le_nil))) ?_
    exact gT (AV.tup [tc (slP []), tc (i6 4)]) (by rw [show parseP s = ([], 4) from by rw [parse_bad hc1 (fine_bad (k := k) (by omega) (by rw [scan_no (fun q => by rcases hc3 with z | z; rw [q.1] at z; cases z; rw [q.2] at z; cases z)]))]])
   ·
    try simp only [xT, xF, xO, xP, xN, xM] at hc3
    refine AMx.skip ?_
    refine gR [(4, CE.obj (AObj.grow 77 2 RuleV ([], 0) rowP [(((AL.Sep.cutAt 58 (List.getD (AL.Sep.splitC 44 s) k [])).1, (capsR ((AL.Sep.cutAt 58 (List.getD (AL.Sep.splitC 44 s) k [])).2.1)).1) : RuleV)])), (5, CE.obj (AObj.grow 77 2 RuleV ([], 0) rowP ((ruled (List.take k (AL.Sep.splitC 44 s))) ++ [(((AL.Sep.cutAt 58 (List.getD (AL.Sep.splitC 44 s) k [])).1, (capsR ((AL.Sep.cutAt 58 (List.getD (AL.Sep.splitC 44 s) k [])).2.1)).1) : RuleV)])))] [flat 2 rowP [(((AL.Sep.cutAt 58 (List.getD (AL.Sep.splitC 44 s) k [])).1, (capsR ((AL.Sep.cutAt 58 (List.getD (AL.Sep.splitC 44 s) k [])).2.1)).1) : RuleV)] = [.s (st ((AL.Sep.cutAt 58 (List.getD (AL.Sep.splitC 44 s) k [])).1)), .s (u8 ((capsR ((AL.Sep.cutAt 58 (List.getD (AL.Sep.splitC 44 s) k [])).2.1)).1))], List.length ([(((AL.Sep.cutAt 58 (List.getD (AL.Sep.splitC 44 s) k [])).1, (capsR ((AL.Sep.cutAt 58 (List.getD (AL.Sep.splitC 44 s) k [])).2.1)).1) : RuleV)] : List RuleV) = 1, AppC (flat 2 rowP [(((AL.Sep.cutAt 58 (List.getD (AL.Sep.splitC 44 s) k [])).1, (capsR ((AL.Sep.cutAt 58 (List.getD (AL.Sep.splitC 44 s) k [])).2.1)).1) : RuleV)]) (List.length ([(((AL.Sep.cutAt 58 (List.getD (AL.Sep.splitC 44 s) k [])).1, (capsR ((AL.Sep.cutAt 58 (List.getD (AL.Sep.splitC 44 s) k [])).2.1)).1) : RuleV)] : List RuleV)) 24 (AObj.grow 77 2 RuleV ([], 0) rowP (ruled (List.take k (AL.Sep.splitC 44 s)))) (AObj.grow 77 2 RuleV ([], 0) rowP ((ruled (List.take k (AL.Sep.splitC 44 s))) ++ [(((AL.Sep.cutAt 58 (List.getD (AL.Sep.splitC 44 s) k [])).1, (capsR ((AL.Sep.cutAt 58 (List.getD (AL.Sep.splitC 44 s) k [])).2.1)).1) : RuleV)]))] 52 [(4, vo 44), (16, vc (AL.Fnv.slS (AL.Sep.splitC 44 s))), (17, vc (i6 (List.length (AL.Sep.splitC 44 s : List Bytes) : Int))), (18, vc (i6 (k : Int)))] [(44, AObj.grow 77 2 RuleV ([], 0) rowP ((ruled (List.take k (AL.Sep.splitC 44 s))) ++ [(((AL.Sep.cutAt 58 (List.getD (AL.Sep.splitC 44 s) k [])).1, (capsR ((AL.Sep.cutAt 58 (List.getD (AL.Sep.splitC 44 s) k [])).2.1)).1) : RuleV)]))] ⟨rfl, rfl, (⟨_, rfl, rfl, rfl, by simp only [List.length_append, List.length_cons, List.length_nil, List.length_replicate, List.length_map, List.length_take, List.length_drop, pref_len, ruled_len]; omega, by simp only [maxLen, List.length_append, List.length_cons, List.length_nil, List.length_replicate, List.length_map, List.length_take, List.length_drop, pref_len, ruled_len]; omega⟩)⟩ ?_
    refine AMx.blk ?_
    refine gR [] [InR .i64 ((k : Int) + 1)] 52 [(4, vo 44), (16, vc (AL.Fnv.slS (AL.Sep.splitC 44 s))), (17, vc (i6 (List.length (AL.Sep.splitC 44 s : List Bytes) : Int))), (18, vc (i6 ((k : Int) + 1)))] [(44, AObj.grow 77 2 RuleV ([], 0) rowP ((ruled (List.take k (AL.Sep.splitC 44 s))) ++ [(((AL.Sep.cutAt 58 (List.getD (AL.Sep.splitC 44 s) k [])).1, (capsR ((AL.Sep.cutAt 58 (List.getD (AL.Sep.splitC 44 s) k [])).2.1)).1) : RuleV)]))] (show InR .i64 ((k : Int) + 1) from (inR64 (by omega) (by omega))) ?_
    refine AMx.ent_inv (s' := AS.lst 52 [(4, vo 4), (16, vc (AL.Fnv.slS (AL.Sep.splitC 44 s))), (17, vc (i6 (List.length (AL.Sep.splitC 44 s : List Bytes) : Int))), (18, vc (i6 ((k : Int) + 1)))] [(4, AObj.grow 77 2 RuleV ([], 0) rowP ((ruled (List.take k (AL.Sep.splitC 44 s))) ++ [(((AL.Sep.cutAt 58 (List.getD (AL.Sep.splitC 44 s) k [])).1, (capsR ((AL.Sep.cutAt 58 (List.getD (AL.Sep.splitC 44 s) k [])).2.1)).1) : RuleV)]))]) (ent_swap 44 4 (by kernel_rfl) (by kernel_rfl)) ?_
    refine AMx.ent_inv (s' := AS.lst 52 [(4, vo 4), (16, vc (AL.Fnv.slS (AL.Sep.splitC 44 s))), (17, vc (i6 (List.length (AL.Sep.splitC 44 s : List Bytes) : Int))), (18, vc (i6 ((k : Int) + 1)))] [(4, AObj.grow 77 2 RuleV ([], 0) rowP ((ruled (List.take k (AL.Sep.splitC 44 s))) ++ [(((AL.Sep.cutAt 58 (List.getD (AL.Sep.splitC 44 s) k [])).1, (capsR ((AL.Sep.cutAt 58 (List.getD (AL.Sep.splitC 44 s) k [])).2.1)).1) : RuleV)]))]) (ent_proj [4, 16, 17, 18] [4]) ?_
    refine AMx.inv ⟨_, ?_, k + 1, ?_, rfl, ?_⟩
    rotate_left
    · exact ⟨by omega, fine_step (by omega) hN (by rw [scan_ok hc3.1 hc3.2])⟩
    · rw [← ruled_step (AL.Sep.splitC 44 s) k (by omega), scan_ok hc3.1 hc3.2]; rfl
    · omega
  ·
   refine AMx.exit ?_
   refine AMx.code_exit ?_
   refine AMx.inv_exit ?_
   refine AMx.blk_exit ?_
   rw [show List.take k (AL.Sep.splitC 44 s) = AL.Sep.splitC 44 s from List.take_of_length_le (by omega)]
   refine gQ ?_
   refine gQ ?_
   refine AMx.ent (s' := AS.lst 52 [(4, vc (slP (ruled (AL.Sep.splitC 44 s)))), (16, vc (AL.Fnv.slS (AL.Sep.splitC 44 s))), (17, vc (i6 (List.length (AL.Sep.splitC 44 s : List Bytes) : Int))), (18, vc (i6 (k : Int))), (19, vc (bo (decide ((k : Int) < (List.length (AL.Sep.splitC 44 s : List Bytes) : Int)))))] []) (ent_freeze (id := 4) (T := 77) (by kernel_rfl)) ?_
   refine gR [(1, CE.call [] [] (vc (i6 (checkP (ruled (AL.Sep.splitC 44 s))))) [])] [Spec Tryz.prog 48 [tc (slP (ruled (AL.Sep.splitC 44 s)))] (ofH []) (vc (i6 (checkP (ruled (AL.Sep.splitC 44 s))))) (ofH [])] 52 [(4, vc (slP (ruled (AL.Sep.splitC 44 s)))), (12, vc (i6 (checkP (ruled (AL.Sep.splitC 44 s)))))] [] (Check_c (ruled (AL.Sep.splitC 44 s))) ?_
   refine gS [] [] 52 [(4, vc (slP (ruled (AL.Sep.splitC 44 s)))), (12, vc (i6 (checkP (ruled (AL.Sep.splitC 44 s))))), (49, vc (bo (!decide (checkP (ruled (AL.Sep.splitC 44 s)) = 0))))] [] trivial ?_
   refine gN (checkP (ruled (AL.Sep.splitC 44 s)) = 0) (fun hc4 => ?_) fun hc4 => ?_
   ·
    refine gS [] [] 52 [(2, vc (SC.nilsl)), (3, vc (i6 (checkP (ruled (AL.Sep.splitC 44 s)))))] [] trivial ?_
    refine AMx.ent (ent_weak 2 (v' := vc (slP [])) (by kernel_rfl) (AV.le_t (TV.le_c AC.le_nil))) ?_
    exact gT (AV.tup [tc (slP []), tc (i6 (checkP (ruled (AL.Sep.splitC 44 s))))]) (by rw [show parseP s = ([], checkP (ruled (AL.Sep.splitC 44 s))) from by have hf : fineS (Sep.splitC 44 s) = true := (by rw [← hN, List.take_of_length_le (by omega)]); rw [parse_no hc1 hf (by assumption)]])
   ·
    refine AMx.skip ?_
    refine gS [] [] 52 [(2, vc (slP (ruled (AL.Sep.splitC 44 s)))), (3, vc (i6 0))] [] trivial ?_
    exact gT (AV.tup [tc (slP (ruled (AL.Sep.splitC 44 s))), tc (i6 0)]) (by rw [show parseP s = (ruled (AL.Sep.splitC 44 s), 0) from by have hf : fineS (Sep.splitC 44 s) = true := (by rw [← hN, List.take_of_length_le (by omega)]); rw [parse_ok hc1 hf (by assumption)]])
end AL.Policy
namespace AL.Policy
open Go Go.Proofs AL AL.Rune
set_option linter.unusedVariables false
set_option linter.unusedSimpArgs false
theorem f39_body : Tryz.f39.body = some (.seq (.region 0 (rg Tryz.f39 0) false) (.seq (.region 1 (rg Tryz.f39 1) false) (.seq (.seq (.region 2 (rg Tryz.f39 2) false) (.block 0 (.loop (.seq (.seq (.region 3 (rg Tryz.f39 3) false) (.cond (.tmp 8) (.skip) (.exit 0))) (.seq (.block 1 (.region 5 (rg Tryz.f39 5) false)) (.region 4 (rg Tryz.f39 4) false)))))) (.seq (.region 6 (rg Tryz.f39 6) false) (.ret))))) := by kernel_rfl
set_option maxRecDepth 100000 in
set_option maxHeartbeats 8000000 in
theorem Back_c (l : List RuleV) (hl : l.length ≤ 100000) : Pure Tryz.prog 39 [tc (slP l)] (vc (slP l)) := by
 refine Pure.of_body Tryz.func39 f39_body (by kernel_rfl) Tryz.ntmps39 (by kernel_rfl) (by kernel_rfl) ?_
 refine gS [] [] 19 [(0, vc (slP l))] [] trivial ?_
 refine gS [] [] 19 [(0, vc (slP l)), (3, vc (SC.nilsl))] [] trivial ?_
 refine gQ ?_
 refine gS [] [] 19 [(0, vc (slP l)), (3, vc (SC.nilsl)), (4, vc (i6 0))] [] trivial ?_
 refine AMx.block ?_
 refine AMx.ent (s' := AS.lst 19 [(0, vc (slP l)), (3, vo 3), (4, vc (i6 0))] [(3, AObj.grow 72 2 RuleV ([], 0) rowP [])]) (ent_adopt (t := 3) (d := 3) 72 2 RuleV ([], 0) rowP (by kernel_rfl) (by kernel_rfl) (by kernel_rfl) (by kernel_rfl)) ?_
 refine AMx.ent (s' := AS.lst 19 [(0, vc (slP l)), (3, vo 3), (4, vc (i6 0))] [(3, AObj.grow 72 2 RuleV ([], 0) rowP [])]) (ent_proj [0, 3, 4] [3]) ?_
 refine AMx.loop (fun mm ss => ∃ (i : Nat), (i ≤ l.length) ∧ mm = l.length - i ∧ ss = AS.lst 19 [(0, vc (slP l)), (3, vo 3), (4, vc (i6 (i : Int)))] [(3, AObj.grow 72 2 RuleV ([], 0) rowP (List.take i l))]) ⟨0, ?_, rfl, ?_⟩ ?_
 · omega
 · rfl
 rintro mm ss ⟨i, hI, rfl, rfl⟩
 refine gQ ?_
 refine gS [] [] 19 [(0, vc (slP l)), (3, vo 3), (4, vc (i6 (i : Int))), (8, vc (bo (decide ((i : Int) < (List.length l : Int)))))] [(3, AObj.grow 72 2 RuleV ([], 0) rowP (List.take i l))] trivial ?_
 refine gC ((i : Int) < (List.length l : Int)) (fun hc1 => ?_) fun hc1 => ?_
 ·
  refine AMx.skip ?_
  refine gQ ?_
  refine AMx.block ?_
  refine gR [(5, CE.obj (AObj.grow 72 2 RuleV ([], 0) rowP [(List.getD l i ([], 0))])), (6, CE.obj (AObj.grow 72 2 RuleV ([], 0) rowP ((List.take i l) ++ [(List.getD l i ([], 0))])))] [(0 : Int) ≤ (i : Int), (i : Int) < List.length l, flat 2 rowP [(List.getD l i ([], 0))] = [.s (st ((List.getD l i ([], 0)).1)), .s (u8 ((List.getD l i ([], 0)).2))], List.length ([(List.getD l i ([], 0))] : List RuleV) = 1, AppC (flat 2 rowP [(List.getD l i ([], 0))]) (List.length ([(List.getD l i ([], 0))] : List RuleV)) 24 (AObj.grow 72 2 RuleV ([], 0) rowP (List.take i l)) (AObj.grow 72 2 RuleV ([], 0) rowP ((List.take i l) ++ [(List.getD l i ([], 0))]))] 19 [(0, vc (slP l)), (3, vo 17), (4, vc (i6 (i : Int)))] [(17, AObj.grow 72 2 RuleV ([], 0) rowP ((List.take i l) ++ [(List.getD l i ([], 0))]))] ⟨(show (0 : Int) ≤ (i : Int) from (by omega)), (show (i : Int) < List.length l from (by omega)), rfl, rfl, (⟨_, rfl, rfl, rfl, by simp only [List.length_take, List.length_cons, List.length_nil]; omega, by simp only [maxLen, List.length_take, List.length_cons, List.length_nil]; omega⟩)⟩ ?_
  refine AMx.blk ?_
  refine gR [] [InR .i64 ((i : Int) + 1)] 19 [(0, vc (slP l)), (3, vo 17), (4, vc (i6 ((i : Int) + 1)))] [(17, AObj.grow 72 2 RuleV ([], 0) rowP ((List.take i l) ++ [(List.getD l i ([], 0))]))] (show InR .i64 ((i : Int) + 1) from (inR64 (by omega) (by omega))) ?_
  refine AMx.ent_inv (s' := AS.lst 19 [(0, vc (slP l)), (3, vo 3), (4, vc (i6 ((i : Int) + 1)))] [(3, AObj.grow 72 2 RuleV ([], 0) rowP ((List.take i l) ++ [(List.getD l i ([], 0))]))]) (ent_swap 17 3 (by kernel_rfl) (by kernel_rfl)) ?_
  refine AMx.ent_inv (s' := AS.lst 19 [(0, vc (slP l)), (3, vo 3), (4, vc (i6 ((i : Int) + 1)))] [(3, AObj.grow 72 2 RuleV ([], 0) rowP ((List.take i l) ++ [(List.getD l i ([], 0))]))]) (ent_proj [0, 3, 4] [3]) ?_
  refine AMx.inv ⟨_, ?_, i + 1, ?_, rfl, ?_⟩
  rotate_left
  · omega
  · rw [Lib.take_succ ([], 0) l i (by omega)]; rfl
  · omega
 ·
  refine AMx.exit ?_
  refine AMx.code_exit ?_
  refine AMx.inv_exit ?_
  refine AMx.blk_exit ?_
  refine gS [] [] 19 [(2, vo 3)] [(3, AObj.grow 72 2 RuleV ([], 0) rowP (List.take i l))] trivial ?_
  refine AMx.ent (s' := AS.lst 19 [(2, vc (slP (List.take i l)))] []) (ent_freeze (id := 3) (T := 72) (by kernel_rfl)) ?_
  exact gT (vc (slP (List.take i l))) (by rw [List.take_of_length_le (by omega)])
end AL.Policy
