/- The proof library and the contracts that the law reaches: joined by a program. No condition. -/
import Derived.Test.YtlgmdlckjinfcaaGreatDoorTDb
namespace AL.Rows
open Go Go.Proofs AL
set_option linter.unusedVariables false
set_option linter.unusedSimpArgs false
theorem f100_body : Tryz.f100.body = some (.seq (.region 0 (rg Tryz.f100 0) false) (.seq (.seq (.region 1 (rg Tryz.f100 1) false) (.cond (.tmp 11) (.seq (.region 2 (rg Tryz.f100 2) false) (.ret)) (.skip))) (.seq (.seq (.region 3 (rg Tryz.f100 3) false) (.block 0 (.loop (.seq (.region 4 (rg Tryz.f100 4) false) (.seq (.cond (.tmp 15) (.skip) (.exit 0)) (.block 1 (.seq (.region 5 (rg Tryz.f100 5) false) (.seq (.region 6 (rg Tryz.f100 6) false) (.cond (.tmp 30) (.seq (.region 7 (rg Tryz.f100 7) false) (.ret)) (.skip)))))))))) (.seq (.region 8 (rg Tryz.f100 8) false) (.ret))))) := by kernel_rfl
set_option maxRecDepth 100000 in
set_option maxHeartbeats 8000000 in
theorem named_c (s : Bytes) : Pure Tryz.prog 100 [tc (st s)] (vc (bo (namedS s))) := by
 refine Pure.of_body Tryz.func100 f100_body (by kernel_rfl) Tryz.ntmps100 (by kernel_rfl) (by kernel_rfl) ?_
 refine gS [] [] 31 [(0, vc (st s))] [] trivial ?_
 refine gQ ?_
 refine gS [] [((decide (s = [])) = false) → allP [], ((decide (s = [])) = false) → allP [(decide (s = [])) = false], ((decide (s = [])) = false) → allP [(decide (s = [])) = false], (decide (s = [])) = false → allP [(decide (s = [])) = false]] 31 [(0, vc (st s)), (11, vc (bo ((decide (s = [])) || (decide (8 < (List.length s : Int))))))] [] ⟨(fun _ => trivial), (fun hp => hp), (fun hp => hp), (fun hp2 => (by first | exact hp2 | exact ⟨hp, hp2⟩))⟩ ?_
 refine gB (((decide (s = [])) || (decide (8 < (List.length s : Int))))) (fun hc1 => ?_) fun hc1 => ?_
 ·
  try simp only [xT, xF, xO, xP] at hc1
  refine gS [] [] 31 [(2, vc (bo false))] [] trivial ?_
  exact gT (vc (bo false)) (by first | rw [nm_bad (by omega) (by assumption)] | rw [named_size (by rcases hc1 with h | h; exact .inl h; exact .inr (by omega))])
 ·
  try simp only [xT, xF, xO, xP] at hc1
  refine AMx.skip ?_
  refine gQ ?_
  refine gS [] [] 31 [(13, vp 13 0)] [(13, AObj.iter s 0)] trivial ?_
  refine AMx.block ?_
  refine AMx.ent (s' := AS.lst 31 [(13, vp 13 0)] [(13, AObj.iter s 0)]) (ent_proj [13] [13]) ?_
  refine AMx.loop (fun mm ss => ∃ (pos : Nat), (pos ≤ s.length ∧ LeftNm s pos) ∧ mm = s.length - pos ∧ ss = AS.lst 31 [(13, vp 13 0)] [(13, AObj.iter s pos)]) ⟨0, ?_, rfl, ?_⟩ ?_
  · exact ⟨Nat.zero_le _, nm_0 s⟩
  · rfl
  rintro mm ss ⟨pos, ⟨hI, hN⟩, rfl, rfl⟩
  refine gQ ?_
  rcases Nat.lt_or_ge pos (List.length s) with hn1 | hn1
  ·
   have hd1 := AL.Rune.dec_ok hn1
   refine gR [(0, CE.str [])] [pos < List.length s, ((pos : Nat) : Int) ≤ 9223372036854775807] 31 [(13, vp 13 0), (14, AV.tup [tc (bo true), tc (i6 (pos : Int)), tc (i3 ((decS s pos).1 : Int))]), (15, vc (bo true))] [(13, AObj.iter s (pos + (decS s pos).2))] ⟨(show pos < List.length s from (by omega)), (show ((pos : Nat) : Int) ≤ 9223372036854775807 from (by omega))⟩ ?_
   refine gQ ?_
   refine gBt ?_
   refine AMx.skip ?_
   refine AMx.block ?_
   refine gS [] [] 31 [(4, vc (i3 ((decS s pos).1 : Int))), (13, vp 13 0)] [(13, AObj.iter s (pos + (decS s pos).2))] trivial ?_
   refine gS [] [((decide (((decS s pos).1 : Int) < 97)) = false) → allP [], ((decide (((decS s pos).1 : Int) < 97)) = false) → allP [(decide (((decS s pos).1 : Int) < 97)) = false], (decide (((decS s pos).1 : Int) < 97)) = false → allP [(decide (((decS s pos).1 : Int) < 97)) = false], (((decide (((decS s pos).1 : Int) < 97)) || (decide (122 < ((decS s pos).1 : Int)))) = true) → allP [], (((decide (((decS s pos).1 : Int) < 97)) || (decide (122 < ((decS s pos).1 : Int)))) = true) → allP [((decide (((decS s pos).1 : Int) < 97)) || (decide (122 < ((decS s pos).1 : Int)))) = true], (((decide (((decS s pos).1 : Int) < 97)) || (decide (122 < ((decS s pos).1 : Int)))) = true) → allP [((decide (((decS s pos).1 : Int) < 97)) || (decide (122 < ((decS s pos).1 : Int)))) = true], ((((decide (((decS s pos).1 : Int) < 97)) || (decide (122 < ((decS s pos).1 : Int)))) = true) ∧ (decide (((decS s pos).1 : Int) < 48)) = false) → allP [], ((((decide (((decS s pos).1 : Int) < 97)) || (decide (122 < ((decS s pos).1 : Int)))) = true) ∧ (decide (((decS s pos).1 : Int) < 48)) = false) → allP [(((decide (((decS s pos).1 : Int) < 97)) || (decide (122 < ((decS s pos).1 : Int)))) = true) ∧ (decide (((decS s pos).1 : Int) < 48)) = false], (((decide (((decS s pos).1 : Int) < 97)) || (decide (122 < ((decS s pos).1 : Int)))) = true) → allP [((decide (((decS s pos).1 : Int) < 97)) || (decide (122 < ((decS s pos).1 : Int)))) = true, (decide (((decS s pos).1 : Int) < 48)) = false → allP [(((decide (((decS s pos).1 : Int) < 97)) || (decide (122 < ((decS s pos).1 : Int)))) = true) ∧ (decide (((decS s pos).1 : Int) < 48)) = false]], ((decide (((decS s pos).1 : Int) < 97)) || (decide (122 < ((decS s pos).1 : Int)))) = true → allP [((decide (((decS s pos).1 : Int) < 97)) || (decide (122 < ((decS s pos).1 : Int)))) = true]] 31 [(13, vp 13 0), (30, vc (bo (((decide (((decS s pos).1 : Int) < 97)) || (decide (122 < ((decS s pos).1 : Int)))) && ((decide (((decS s pos).1 : Int) < 48)) || (decide (57 < ((decS s pos).1 : Int)))))))] [(13, AObj.iter s (pos + (decS s pos).2))] ⟨(fun _ => trivial), (fun hp => hp), (fun hp2 => (by first | exact hp2 | exact ⟨hp, hp2⟩)), (fun _ => trivial), (fun hp => hp), (fun hp => hp), (fun _ => trivial), (fun hp => hp), (fun hp => by have hq := hp; (try simp only [decide_eq_true_eq, decide_eq_false_iff_not, Bool.and_eq_true, Bool.or_eq_true, Bool.and_eq_false_iff, Bool.or_eq_false_iff, Bool.not_eq_true', Bool.not_eq_false', Bool.not_eq_true, Bool.not_eq_false] at hq); exact ⟨hp, (fun hp2 => (by first | exact hp2 | exact ⟨hp, hp2⟩))⟩), (fun hp2 => (by first | exact hp2 | exact ⟨hp, hp2⟩))⟩ ?_
   refine gB ((((decide (((decS s pos).1 : Int) < 97)) || (decide (122 < ((decS s pos).1 : Int)))) && ((decide (((decS s pos).1 : Int) < 48)) || (decide (57 < ((decS s pos).1 : Int)))))) (fun hc3 => ?_) fun hc3 => ?_
   ·
    try simp only [xT, xF, xA, xB, xO, xP] at hc3
    refine gS [] [] 31 [(2, vc (bo false))] [] trivial ?_
    exact gT (vc (bo false)) (by first | rw [nm_bad (by omega) (by assumption)] | rw [named_size (by rcases hc1 with h | h; exact .inl h; exact .inr (by omega))])
   ·
    try simp only [xT, xF, xA, xB, xO, xP] at hc3
    refine AMx.skip ?_
    refine AMx.blk ?_
    refine AMx.ent_inv (s' := AS.lst 31 [(13, vp 13 0)] [(13, AObj.iter s (pos + (decS s pos).2))]) (ent_proj [13] [13]) ?_
    refine AMx.inv ⟨_, ?_, pos + (decS s pos).2, ?_, rfl, ?_⟩
    rotate_left
    · exact ⟨by omega, nm_step (by omega) hN (by omega)⟩
    · rfl
    · omega
  ·
   refine gR [] [List.length s ≤ pos] 31 [(13, vp 13 0), (14, AV.tup [tc (bo false)]), (15, vc (bo false))] [(13, AObj.iter s pos)] (show List.length s ≤ pos from (by omega)) ?_
   refine gQ ?_
   refine gBf ?_
   refine AMx.exit ?_
   refine AMx.code_exit ?_
   refine AMx.inv_exit ?_
   refine AMx.blk_exit ?_
   refine gS [] [] 31 [(2, vc (bo true))] [] trivial ?_
   exact gT (vc (bo true)) (by rw [nm_end (by omega) hN hc1.1 (by omega)])
theorem f43_body : Tryz.f43.body = some (.seq (.region 0 (rg Tryz.f43 0) false) (.seq (.seq (.region 1 (rg Tryz.f43 1) false) (.cond (.tmp 11) (.seq (.region 2 (rg Tryz.f43 2) false) (.ret)) (.skip))) (.seq (.seq (.region 3 (rg Tryz.f43 3) false) (.block 0 (.loop (.seq (.seq (.region 4 (rg Tryz.f43 4) false) (.cond (.tmp 15) (.skip) (.exit 0))) (.seq (.block 1 (.seq (.region 6 (rg Tryz.f43 6) false) (.cond (.tmp 39) (.seq (.region 7 (rg Tryz.f43 7) false) (.ret)) (.skip)))) (.region 5 (rg Tryz.f43 5) false)))))) (.seq (.region 8 (rg Tryz.f43 8) false) (.ret))))) := by kernel_rfl
set_option maxRecDepth 100000 in
set_option maxHeartbeats 8000000 in
theorem Name_c (s : Bytes) : Pure Tryz.prog 43 [tc (st s)] (vc (bo (namedS s))) := by
 refine Pure.of_body Tryz.func43 f43_body (by kernel_rfl) Tryz.ntmps43 (by kernel_rfl) (by kernel_rfl) ?_
 refine gS [] [] 40 [(0, vc (st s))] [] trivial ?_
 refine gQ ?_
 refine gS [] [((decide ((List.length s : Int) < 1)) = false) → allP [], ((decide ((List.length s : Int) < 1)) = false) → allP [(decide ((List.length s : Int) < 1)) = false], ((decide ((List.length s : Int) < 1)) = false) → allP [(decide ((List.length s : Int) < 1)) = false], (decide ((List.length s : Int) < 1)) = false → allP [(decide ((List.length s : Int) < 1)) = false]] 40 [(0, vc (st s)), (11, vc (bo ((decide ((List.length s : Int) < 1)) || (decide (8 < (List.length s : Int))))))] [] ⟨(fun _ => trivial), (fun hp => hp), (fun hp => hp), (fun hp2 => (by first | exact hp2 | exact ⟨hp, hp2⟩))⟩ ?_
 refine gB (((decide ((List.length s : Int) < 1)) || (decide (8 < (List.length s : Int))))) (fun hc1 => ?_) fun hc1 => ?_
 ·
  try simp only [xT, xF, xO, xP] at hc1
  refine gS [] [] 40 [(2, vc (bo false))] [] trivial ?_
  exact gT (vc (bo false)) (by first | rw [nm_not (pos := i) (by omega) (by rw [Bool.eq_false_iff, Ne, nameB_iff]; omega)] | rw [named_size (by rcases hc1 with h | h; exact .inl (List.eq_nil_of_length_eq_zero (by omega)); exact .inr (by omega))])
 ·
  try simp only [xT, xF, xO, xP] at hc1
  refine AMx.skip ?_
  refine gQ ?_
  refine gS [] [] 40 [(0, vc (st s)), (3, vc (i6 0))] [] trivial ?_
  refine AMx.block ?_
  refine AMx.ent (s' := AS.lst 40 [(0, vc (st s)), (3, vc (i6 0))] []) (ent_proj [0, 3] []) ?_
  refine AMx.loop (fun mm ss => ∃ (i : Nat), (i ≤ s.length ∧ LeftNm s i) ∧ mm = s.length - i ∧ ss = AS.lst 40 [(0, vc (st s)), (3, vc (i6 (i : Int)))] []) ⟨0, ?_, rfl, ?_⟩ ?_
  · exact ⟨Nat.zero_le _, nm_0 s⟩
  · rfl
  rintro mm ss ⟨i, ⟨hI, hN⟩, rfl, rfl⟩
  refine gQ ?_
  refine gS [] [] 40 [(0, vc (st s)), (3, vc (i6 (i : Int))), (15, vc (bo (decide ((i : Int) < (List.length s : Int)))))] [] trivial ?_
  refine gC ((i : Int) < (List.length s : Int)) (fun hc2 => ?_) fun hc2 => ?_
  ·
   refine AMx.skip ?_
   refine gQ ?_
   refine AMx.block ?_
   refine gS [] [(0 : Int) ≤ (i : Int), (i : Int) < List.length s, ((decide (((List.getD s i 0).toNat : Int) < 97)) = false) → allP [], ((decide (((List.getD s i 0).toNat : Int) < 97)) = false) → allP [], ((decide (((List.getD s i 0).toNat : Int) < 97)) = false) → allP [(decide (((List.getD s i 0).toNat : Int) < 97)) = false, (decide (((List.getD s i 0).toNat : Int) < 97)) = false, (0 : Int) ≤ (i : Int), (i : Int) < List.length s], ((decide (((List.getD s i 0).toNat : Int) < 97)) = false) → allP [(decide (((List.getD s i 0).toNat : Int) < 97)) = false], (decide (((List.getD s i 0).toNat : Int) < 97)) = false → allP [(decide (((List.getD s i 0).toNat : Int) < 97)) = false], (((decide (((List.getD s i 0).toNat : Int) < 97)) || (decide (122 < ((List.getD s i 0).toNat : Int)))) = true) → allP [], (((decide (((List.getD s i 0).toNat : Int) < 97)) || (decide (122 < ((List.getD s i 0).toNat : Int)))) = true) → allP [], (((decide (((List.getD s i 0).toNat : Int) < 97)) || (decide (122 < ((List.getD s i 0).toNat : Int)))) = true) → allP [((decide (((List.getD s i 0).toNat : Int) < 97)) || (decide (122 < ((List.getD s i 0).toNat : Int)))) = true, ((decide (((List.getD s i 0).toNat : Int) < 97)) || (decide (122 < ((List.getD s i 0).toNat : Int)))) = true, (0 : Int) ≤ (i : Int), (i : Int) < List.length s], (((decide (((List.getD s i 0).toNat : Int) < 97)) || (decide (122 < ((List.getD s i 0).toNat : Int)))) = true) → allP [((decide (((List.getD s i 0).toNat : Int) < 97)) || (decide (122 < ((List.getD s i 0).toNat : Int)))) = true], (((decide (((List.getD s i 0).toNat : Int) < 97)) || (decide (122 < ((List.getD s i 0).toNat : Int)))) = true) → allP [((decide (((List.getD s i 0).toNat : Int) < 97)) || (decide (122 < ((List.getD s i 0).toNat : Int)))) = true], ((((decide (((List.getD s i 0).toNat : Int) < 97)) || (decide (122 < ((List.getD s i 0).toNat : Int)))) = true) ∧ (decide (((List.getD s i 0).toNat : Int) < 48)) = false) → allP [], ((((decide (((List.getD s i 0).toNat : Int) < 97)) || (decide (122 < ((List.getD s i 0).toNat : Int)))) = true) ∧ (decide (((List.getD s i 0).toNat : Int) < 48)) = false) → allP [], ((((decide (((List.getD s i 0).toNat : Int) < 97)) || (decide (122 < ((List.getD s i 0).toNat : Int)))) = true) ∧ (decide (((List.getD s i 0).toNat : Int) < 48)) = false) → allP [(((decide (((List.getD s i 0).toNat : Int) < 97)) || (decide (122 < ((List.getD s i 0).toNat : Int)))) = true) ∧ (decide (((List.getD s i 0).toNat : Int) < 48)) = false, (((decide (((List.getD s i 0).toNat : Int) < 97)) || (decide (122 < ((List.getD s i 0).toNat : Int)))) = true) ∧ (decide (((List.getD s i 0).toNat : Int) < 48)) = false, (0 : Int) ≤ (i : Int), (i : Int) < List.length s], ((((decide (((List.getD s i 0).toNat : Int) < 97)) || (decide (122 < ((List.getD s i 0).toNat : Int)))) = true) ∧ (decide (((List.getD s i 0).toNat : Int) < 48)) = false) → allP [(((decide (((List.getD s i 0).toNat : Int) < 97)) || (decide (122 < ((List.getD s i 0).toNat : Int)))) = true) ∧ (decide (((List.getD s i 0).toNat : Int) < 48)) = false], (((decide (((List.getD s i 0).toNat : Int) < 97)) || (decide (122 < ((List.getD s i 0).toNat : Int)))) = true) → allP [((decide (((List.getD s i 0).toNat : Int) < 97)) || (decide (122 < ((List.getD s i 0).toNat : Int)))) = true, (decide (((List.getD s i 0).toNat : Int) < 48)) = false → allP [(((decide (((List.getD s i 0).toNat : Int) < 97)) || (decide (122 < ((List.getD s i 0).toNat : Int)))) = true) ∧ (decide (((List.getD s i 0).toNat : Int) < 48)) = false]], ((decide (((List.getD s i 0).toNat : Int) < 97)) || (decide (122 < ((List.getD s i 0).toNat : Int)))) = true → allP [((decide (((List.getD s i 0).toNat : Int) < 97)) || (decide (122 < ((List.getD s i 0).toNat : Int)))) = true]] 40 [(0, vc (st s)), (3, vc (i6 (i : Int))), (39, vc (bo (((decide (((List.getD s i 0).toNat : Int) < 97)) || (decide (122 < ((List.getD s i 0).toNat : Int)))) && ((decide (((List.getD s i 0).toNat : Int) < 48)) || (decide (57 < ((List.getD s i 0).toNat : Int)))))))] [] ⟨(show (0 : Int) ≤ (i : Int) from (by omega)), (show (i : Int) < List.length s from (by omega)), (fun _ => trivial), (fun _ => trivial), (fun hp => by have hq := hp; (try simp only [decide_eq_true_eq, decide_eq_false_iff_not, Bool.and_eq_true, Bool.or_eq_true, Bool.and_eq_false_iff, Bool.or_eq_false_iff, Bool.not_eq_true', Bool.not_eq_false', Bool.not_eq_true, Bool.not_eq_false] at hq); exact ⟨hp, hp, (show (0 : Int) ≤ (i : Int) from (by omega)), (show (i : Int) < List.length s from (by omega))⟩), (fun hp => hp), (fun hp2 => (by first | exact hp2 | exact ⟨hp, hp2⟩)), (fun _ => trivial), (fun _ => trivial), (fun hp => by have hq := hp; (try simp only [decide_eq_true_eq, decide_eq_false_iff_not, Bool.and_eq_true, Bool.or_eq_true, Bool.and_eq_false_iff, Bool.or_eq_false_iff, Bool.not_eq_true', Bool.not_eq_false', Bool.not_eq_true, Bool.not_eq_false] at hq); exact ⟨hp, hp, (show (0 : Int) ≤ (i : Int) from (by omega)), (show (i : Int) < List.length s from (by omega))⟩), (fun hp => hp), (fun hp => hp), (fun _ => trivial), (fun _ => trivial), (fun hp => by have hq := hp; (try simp only [decide_eq_true_eq, decide_eq_false_iff_not, Bool.and_eq_true, Bool.or_eq_true, Bool.and_eq_false_iff, Bool.or_eq_false_iff, Bool.not_eq_true', Bool.not_eq_false', Bool.not_eq_true, Bool.not_eq_false] at hq); exact ⟨hp, hp, (show (0 : Int) ≤ (i : Int) from (by omega)), (show (i : Int) < List.length s from (by omega))⟩), (fun hp => hp), (fun hp => by have hq := hp; (try simp only [decide_eq_true_eq, decide_eq_false_iff_not, Bool.and_eq_true, Bool.or_eq_true, Bool.and_eq_false_iff, Bool.or_eq_false_iff, Bool.not_eq_true', Bool.not_eq_false', Bool.not_eq_true, Bool.not_eq_false] at hq); exact ⟨hp, (fun hp2 => (by first | exact hp2 | exact ⟨hp, hp2⟩))⟩), (fun hp2 => (by first | exact hp2 | exact ⟨hp, hp2⟩))⟩ ?_
   refine gB ((((decide (((List.getD s i 0).toNat : Int) < 97)) || (decide (122 < ((List.getD s i 0).toNat : Int)))) && ((decide (((List.getD s i 0).toNat : Int) < 48)) || (decide (57 < ((List.getD s i 0).toNat : Int)))))) (fun hc3 => ?_) fun hc3 => ?_
   ·
    try simp only [xT, xF, xA, xB, xO, xP] at hc3
    refine gS [] [] 40 [(2, vc (bo false))] [] trivial ?_
    exact gT (vc (bo false)) (by first | rw [nm_not (pos := i) (by omega) (by rw [Bool.eq_false_iff, Ne, nameB_iff]; omega)] | rw [named_size (by rcases hc1 with h | h; exact .inl (List.eq_nil_of_length_eq_zero (by omega)); exact .inr (by omega))])
   ·
    try simp only [xT, xF, xA, xB, xO, xP] at hc3
    refine AMx.skip ?_
    refine AMx.blk ?_
    refine gR [] [InR .i64 ((i : Int) + 1)] 40 [(0, vc (st s)), (3, vc (i6 ((i : Int) + 1)))] [] (show InR .i64 ((i : Int) + 1) from (inR64 (by omega) (by omega))) ?_
    refine AMx.ent_inv (s' := AS.lst 40 [(0, vc (st s)), (3, vc (i6 ((i : Int) + 1)))] []) (ent_proj [0, 3] []) ?_
    refine AMx.inv ⟨_, ?_, i + 1, ?_, rfl, ?_⟩
    rotate_left
    · exact ⟨by omega, nm_byte (by omega) hN (nameB_iff.2 (by omega))⟩
    · rfl
    · omega
  ·
   refine AMx.exit ?_
   refine AMx.code_exit ?_
   refine AMx.inv_exit ?_
   refine AMx.blk_exit ?_
   refine gS [] [] 40 [(2, vc (bo true))] [] trivial ?_
   exact gT (vc (bo true)) (by rw [nm_end (by omega) hN (fun e => by subst e; simp at hc1) (by omega)])
end AL.Rows
namespace AL.Rows
open Go Go.Proofs AL
set_option linter.unusedVariables false
set_option linter.unusedSimpArgs false
theorem f72_body : Tryz.f72.body = some (.seq (.region 0 (rg Tryz.f72 0) false) (.seq (.region 1 (rg Tryz.f72 1) false) (.seq (.seq (.region 2 (rg Tryz.f72 2) false) (.block 0 (.seq (.region 4 (rg Tryz.f72 4) false) (.cond (.tmp 9) (.region 5 (rg Tryz.f72 5) false) (.seq (.region 6 (rg Tryz.f72 6) false) (.cond (.tmp 18) (.region 7 (rg Tryz.f72 7) false) (.seq (.region 8 (rg Tryz.f72 8) false) (.cond (.tmp 34) (.region 9 (rg Tryz.f72 9) false) (.seq (.seq (.region 10 (rg Tryz.f72 10) false) (.cond (.tmp 42) (.skip) (.region 11 (rg Tryz.f72 11) false))) (.cond (.tmp 42) (.region 12 (rg Tryz.f72 12) false) (.seq (.region 3 (rg Tryz.f72 3) false) (.ret)))))))))))) (.seq (.seq (.region 13 (rg Tryz.f72 13) false) (.cond (.tmp 52) (.seq (.region 14 (rg Tryz.f72 14) false) (.ret)) (.skip))) (.seq (.region 15 (rg Tryz.f72 15) false) (.ret)))))) := by kernel_rfl
set_option maxRecDepth 100000 in
set_option maxHeartbeats 8000000 in
theorem Check_c (k : KeyV) : Pure Tryz.prog 72 [TV.agg [.s (u8 k.1), .s (st k.2.1), .s (i6 k.2.2)]] (vc (i6 (checkK k))) := by
 refine Pure.of_body Tryz.func72 f72_body (by kernel_rfl) Tryz.ntmps72 (by kernel_rfl) (by kernel_rfl) ?_
 refine gS [] [] 53 [(1, vp 1 0)] [(1, AObj.row [.s (u8 k.1), .s (st k.2.1), .s (i6 k.2.2)])] trivial ?_
 refine gS [] [] 53 [(1, vp 1 0), (3, vc (bo (decide (k.2.2 = 0))))] [(1, AObj.row [.s (u8 k.1), .s (st k.2.1), .s (i6 k.2.2)])] trivial ?_
 refine gQ ?_
 refine gS [] [] 53 [(1, vp 1 0), (3, vc (bo (decide (k.2.2 = 0)))), (8, vc (u8 k.1))] [(1, AObj.row [.s (u8 k.1), .s (st k.2.1), .s (i6 k.2.2)])] trivial ?_
 refine AMx.block ?_
 refine gS [] [] 53 [(1, vp 1 0), (3, vc (bo (decide (k.2.2 = 0)))), (8, vc (u8 k.1)), (9, vc (bo (decide (k.1 = 1))))] [(1, AObj.row [.s (u8 k.1), .s (st k.2.1), .s (i6 k.2.2)])] trivial ?_
 refine gC (k.1 = 1) (fun hc1 => ?_) fun hc1 => ?_
 ·
  refine gR [(4, CE.call [] [] (vc (i6 (Route.checkS k.2.1))) [])] [((decide (k.2.2 = 0)) = true) → allP [], ((decide (k.2.2 = 0)) = true) → allP [(decide (k.2.2 = 0)) = true], ((decide (k.2.2 = 0)) = true) → allP [(decide (k.2.2 = 0)) = true, Spec Tryz.prog 99 [tc (st k.2.1)] (ofH []) (vc (i6 (Route.checkS k.2.1))) (ofH [])], ((decide (k.2.2 = 0)) = true) → allP [(decide (k.2.2 = 0)) = true], (decide (k.2.2 = 0)) = true → allP [(decide (k.2.2 = 0)) = true]] 53 [(3, vc (bo ((decide (k.2.2 = 0)) && (decide (Route.checkS k.2.1 = 0)))))] [] ⟨(fun _ => trivial), (fun hp => hp), (fun hp => by have hq := hp; (try simp only [decide_eq_true_eq, decide_eq_false_iff_not, Bool.and_eq_true, Bool.or_eq_true, Bool.and_eq_false_iff, Bool.or_eq_false_iff, Bool.not_eq_true', Bool.not_eq_false', Bool.not_eq_true, Bool.not_eq_false] at hq); exact ⟨hp, (Route.Check_c k.2.1)⟩), (fun hp => hp), (fun hp2 => (by first | exact hp2 | exact ⟨hp, hp2⟩))⟩ ?_
  refine AMx.blk ?_
  refine gQ ?_
  refine gS [] [] 53 [(52, vc (bo (!((decide (k.2.2 = 0)) && (decide (Route.checkS k.2.1 = 0))))))] [] trivial ?_
  refine gB (!((decide (k.2.2 = 0)) && (decide (Route.checkS k.2.1 = 0)))) (fun hc2 => ?_) fun hc2 => ?_
  ·
   try simp only [xT, xF, xA, xB, xN, xM] at hc2
   refine gS [] [] 53 [(2, vc (i6 2))] [] trivial ?_
   exact gT (vc (i6 2)) (by rw [show checkK k = 2 from by unfold checkK MayK; grind])
  ·
   try simp only [xT, xF, xA, xB, xN, xM] at hc2
   refine AMx.skip ?_
   refine gS [] [] 53 [(2, vc (i6 0))] [] trivial ?_
   exact gT (vc (i6 0)) (by rw [show checkK k = 0 from by unfold checkK MayK; grind])
 ·
  refine gS [] [] 53 [(1, vp 1 0), (3, vc (bo (decide (k.2.2 = 0)))), (8, vc (u8 k.1)), (18, vc (bo (decide (k.1 = 2))))] [(1, AObj.row [.s (u8 k.1), .s (st k.2.1), .s (i6 k.2.2)])] trivial ?_
  refine gC (k.1 = 2) (fun hc3 => ?_) fun hc3 => ?_
  ·
   refine gR [(11, CE.call [] [] (vc (i6 (Route.checkS k.2.1))) [])] [((decide (1 ≤ k.2.2)) = true) → allP [], ((decide (1 ≤ k.2.2)) = true) → allP [(decide (1 ≤ k.2.2)) = true], ((decide (1 ≤ k.2.2)) = true) → allP [(decide (1 ≤ k.2.2)) = true], (decide (1 ≤ k.2.2)) = true → allP [(decide (1 ≤ k.2.2)) = true], (((decide (1 ≤ k.2.2)) && (decide (k.2.2 ≤ 30))) = true) → allP [], (((decide (1 ≤ k.2.2)) && (decide (k.2.2 ≤ 30))) = true) → allP [((decide (1 ≤ k.2.2)) && (decide (k.2.2 ≤ 30))) = true], (((decide (1 ≤ k.2.2)) && (decide (k.2.2 ≤ 30))) = true) → allP [((decide (1 ≤ k.2.2)) && (decide (k.2.2 ≤ 30))) = true, Spec Tryz.prog 99 [tc (st k.2.1)] (ofH []) (vc (i6 (Route.checkS k.2.1))) (ofH [])], (((decide (1 ≤ k.2.2)) && (decide (k.2.2 ≤ 30))) = true) → allP [((decide (1 ≤ k.2.2)) && (decide (k.2.2 ≤ 30))) = true], ((decide (1 ≤ k.2.2)) && (decide (k.2.2 ≤ 30))) = true → allP [((decide (1 ≤ k.2.2)) && (decide (k.2.2 ≤ 30))) = true]] 53 [(3, vc (bo (((decide (1 ≤ k.2.2)) && (decide (k.2.2 ≤ 30))) && (decide (Route.checkS k.2.1 = 0)))))] [] ⟨(fun _ => trivial), (fun hp => hp), (fun hp => hp), (fun hp2 => (by first | exact hp2 | exact ⟨hp, hp2⟩)), (fun _ => trivial), (fun hp => hp), (fun hp => by have hq := hp; (try simp only [decide_eq_true_eq, decide_eq_false_iff_not, Bool.and_eq_true, Bool.or_eq_true, Bool.and_eq_false_iff, Bool.or_eq_false_iff, Bool.not_eq_true', Bool.not_eq_false', Bool.not_eq_true, Bool.not_eq_false] at hq); exact ⟨hp, (Route.Check_c k.2.1)⟩), (fun hp => hp), (fun hp2 => (by first | exact hp2 | exact ⟨hp, hp2⟩))⟩ ?_
   refine AMx.blk ?_
   refine gQ ?_
   refine gS [] [] 53 [(52, vc (bo (!(((decide (1 ≤ k.2.2)) && (decide (k.2.2 ≤ 30))) && (decide (Route.checkS k.2.1 = 0))))))] [] trivial ?_
   refine gB (!(((decide (1 ≤ k.2.2)) && (decide (k.2.2 ≤ 30))) && (decide (Route.checkS k.2.1 = 0)))) (fun hc4 => ?_) fun hc4 => ?_
   ·
    try simp only [xT, xF, xA, xB, xN, xM] at hc4
    refine gS [] [] 53 [(2, vc (i6 2))] [] trivial ?_
    exact gT (vc (i6 2)) (by rw [show checkK k = 2 from by unfold checkK MayK; grind])
   ·
    try simp only [xT, xF, xA, xB, xN, xM] at hc4
    refine AMx.skip ?_
    refine gS [] [] 53 [(2, vc (i6 0))] [] trivial ?_
    exact gT (vc (i6 0)) (by rw [show checkK k = 0 from by unfold checkK MayK; grind])
  ·
   refine gS [] [] 53 [(1, vp 1 0), (3, vc (bo (decide (k.2.2 = 0)))), (8, vc (u8 k.1)), (34, vc (bo (decide (k.1 = 3))))] [(1, AObj.row [.s (u8 k.1), .s (st k.2.1), .s (i6 k.2.2)])] trivial ?_
   refine gC (k.1 = 3) (fun hc5 => ?_) fun hc5 => ?_
   ·
    refine gR [(4, CE.call [] [] (vc (bo (namedS k.2.1))) [])] [((decide (k.2.2 = 0)) = true) → allP [], ((decide (k.2.2 = 0)) = true) → allP [(decide (k.2.2 = 0)) = true], ((decide (k.2.2 = 0)) = true) → allP [(decide (k.2.2 = 0)) = true, Spec Tryz.prog 100 [tc (st k.2.1)] (ofH []) (vc (bo (namedS k.2.1))) (ofH [])], (decide (k.2.2 = 0)) = true → allP [(decide (k.2.2 = 0)) = true]] 53 [(3, vc (bo ((decide (k.2.2 = 0)) && (namedS k.2.1))))] [] ⟨(fun _ => trivial), (fun hp => hp), (fun hp => by have hq := hp; (try simp only [decide_eq_true_eq, decide_eq_false_iff_not, Bool.and_eq_true, Bool.or_eq_true, Bool.and_eq_false_iff, Bool.or_eq_false_iff, Bool.not_eq_true', Bool.not_eq_false', Bool.not_eq_true, Bool.not_eq_false] at hq); exact ⟨hp, (named_c k.2.1)⟩), (fun hp2 => (by first | exact hp2 | exact ⟨hp, hp2⟩))⟩ ?_
    refine AMx.blk ?_
    refine gQ ?_
    refine gS [] [] 53 [(52, vc (bo (!((decide (k.2.2 = 0)) && (namedS k.2.1)))))] [] trivial ?_
    refine gB (!((decide (k.2.2 = 0)) && (namedS k.2.1))) (fun hc6 => ?_) fun hc6 => ?_
    ·
     try simp only [xT, xF, xA, xB, xN, xM] at hc6
     refine gS [] [] 53 [(2, vc (i6 2))] [] trivial ?_
     exact gT (vc (i6 2)) (by rw [show checkK k = 2 from by unfold checkK MayK; grind])
    ·
     try simp only [xT, xF, xA, xB, xN, xM] at hc6
     refine AMx.skip ?_
     refine gS [] [] 53 [(2, vc (i6 0))] [] trivial ?_
     exact gT (vc (i6 0)) (by rw [show checkK k = 0 from by unfold checkK MayK; grind])
   ·
    refine gQ ?_
    refine gS [] [] 53 [(1, vp 1 0), (3, vc (bo (decide (k.2.2 = 0)))), (8, vc (u8 k.1)), (42, vc (bo (decide (k.1 = 4))))] [(1, AObj.row [.s (u8 k.1), .s (st k.2.1), .s (i6 k.2.2)])] trivial ?_
    refine gC (k.1 = 4) (fun hc7 => ?_) fun hc7 => ?_
    ·
     refine AMx.skip ?_
     refine gC (k.1 = 4) (fun hc8 => ?_) fun hc8 => ?_
     ·
      refine gR [] [((decide (k.2.2 = 0)) = true) → allP [], ((decide (k.2.2 = 0)) = true) → allP [(decide (k.2.2 = 0)) = true], ((decide (k.2.2 = 0)) = true) → allP [(decide (k.2.2 = 0)) = true], (decide (k.2.2 = 0)) = true → allP [(decide (k.2.2 = 0)) = true]] 53 [(3, vc (bo ((decide (k.2.2 = 0)) && (decide (k.2.1 = [])))))] [] ⟨(fun _ => trivial), (fun hp => hp), (fun hp => hp), (fun hp2 => (by first | exact hp2 | exact ⟨hp, hp2⟩))⟩ ?_
      refine AMx.blk ?_
      refine gQ ?_
      refine gS [] [] 53 [(52, vc (bo (!((decide (k.2.2 = 0)) && (decide (k.2.1 = []))))))] [] trivial ?_
      refine gB (!((decide (k.2.2 = 0)) && (decide (k.2.1 = [])))) (fun hc9 => ?_) fun hc9 => ?_
      ·
       try simp only [xT, xF, xA, xB, xN, xM] at hc9
       refine gS [] [] 53 [(2, vc (i6 2))] [] trivial ?_
       exact gT (vc (i6 2)) (by rw [show checkK k = 2 from by unfold checkK MayK; grind])
      ·
       try simp only [xT, xF, xA, xB, xN, xM] at hc9
       refine AMx.skip ?_
       refine gS [] [] 53 [(2, vc (i6 0))] [] trivial ?_
       exact gT (vc (i6 0)) (by rw [show checkK k = 0 from by unfold checkK MayK; grind])
     ·
      refine gS [] [] 53 [(2, vc (i6 22))] [] trivial ?_
      exact gT (vc (i6 22)) (by rw [show checkK k = 22 from by unfold checkK MayK; grind])
    ·
     refine gR [] [] 53 [(1, vp 1 0), (3, vc (bo (decide (k.2.2 = 0)))), (42, vc (bo (decide (k.1 = 5))))] [(1, AObj.row [.s (u8 k.1), .s (st k.2.1), .s (i6 k.2.2)])] trivial ?_
     refine gC (k.1 = 5) (fun hc10 => ?_) fun hc10 => ?_
     ·
      refine gR [] [((decide (k.2.2 = 0)) = true) → allP [], ((decide (k.2.2 = 0)) = true) → allP [(decide (k.2.2 = 0)) = true], ((decide (k.2.2 = 0)) = true) → allP [(decide (k.2.2 = 0)) = true], (decide (k.2.2 = 0)) = true → allP [(decide (k.2.2 = 0)) = true]] 53 [(3, vc (bo ((decide (k.2.2 = 0)) && (decide (k.2.1 = [])))))] [] ⟨(fun _ => trivial), (fun hp => hp), (fun hp => hp), (fun hp2 => (by first | exact hp2 | exact ⟨hp, hp2⟩))⟩ ?_
      refine AMx.blk ?_
      refine gQ ?_
      refine gS [] [] 53 [(52, vc (bo (!((decide (k.2.2 = 0)) && (decide (k.2.1 = []))))))] [] trivial ?_
      refine gB (!((decide (k.2.2 = 0)) && (decide (k.2.1 = [])))) (fun hc11 => ?_) fun hc11 => ?_
      ·
       try simp only [xT, xF, xA, xB, xN, xM] at hc11
       refine gS [] [] 53 [(2, vc (i6 2))] [] trivial ?_
       exact gT (vc (i6 2)) (by rw [show checkK k = 2 from by unfold checkK MayK; grind])
      ·
       try simp only [xT, xF, xA, xB, xN, xM] at hc11
       refine AMx.skip ?_
       refine gS [] [] 53 [(2, vc (i6 0))] [] trivial ?_
       exact gT (vc (i6 0)) (by rw [show checkK k = 0 from by unfold checkK MayK; grind])
     ·
      refine gS [] [] 53 [(2, vc (i6 22))] [] trivial ?_
      exact gT (vc (i6 22)) (by rw [show checkK k = 22 from by unfold checkK MayK; grind])
end AL.Rows
namespace AL.Sep
open Go Go.Proofs Go.RowKit AL
set_option linter.unusedVariables false
set_option linter.unusedSimpArgs false
theorem Count_c (k : UInt8) (s : Bytes) : Pure Tryz.prog 147 [tc (st s), tc (st [k])] (vc (i6 ((s.count k : Nat) : Int))) := by
  refine Pure.of_calls ⟨_, Tryz.func147, by kernel_rfl, by kernel_rfl⟩ fun Γ w cargs hm => ?_
  obtain ⟨u, v, rfl, ⟨rfl, hu⟩, ⟨rfl, hv⟩⟩ := args2 hm
  refine (Tryz.strings_Count_one (ba s) k w).mono ?_
  rintro e w' ⟨rfl, rfl⟩
  have h1 : s.count k ≤ s.length := List.count_le_length
  simp only [maxLen] at hu
  exact ⟨_, rfl, rfl, rfl, inR64 (by omega) (by omega)⟩
theorem Index_c (k : UInt8) (s : Bytes) : Pure Tryz.prog 148 [tc (st s), tc (st [k])] (vc (i6 (Go.Lib.indexByte s k))) := by
  refine Pure.of_calls ⟨_, Tryz.func148, by kernel_rfl, by kernel_rfl⟩ fun Γ w cargs hm => ?_
  obtain ⟨u, v, rfl, ⟨rfl, hu⟩, ⟨rfl, hv⟩⟩ := args2 hm
  refine (Tryz.strings_Index_one (ba s) k w).mono ?_
  rintro e w' ⟨rfl, rfl⟩
  have := index_rng k s
  simp only [maxLen] at hu
  exact ⟨_, rfl, rfl, rfl, inR64 (by omega) (by omega)⟩
theorem IndexL_c (k : UInt8) (s : Bytes) : Pure Tryz.prog 149 [tc (st s), tc (st [k])] (vc (i6 (Go.Lib.indexByte s k))) := by
  refine Pure.of_calls ⟨_, Tryz.func149, by kernel_rfl, by kernel_rfl⟩ fun Γ w cargs hm => ?_
  obtain ⟨u, v, rfl, ⟨rfl, hu⟩, ⟨rfl, hv⟩⟩ := args2 hm
  refine (Tryz.stringslite_Index_one (ba s) k w).mono ?_
  rintro e w' ⟨rfl, rfl⟩
  have := index_rng k s
  simp only [maxLen] at hu
  exact ⟨_, rfl, rfl, rfl, inR64 (by omega) (by omega)⟩
theorem lib_join (c : UInt8) : ∀ (l : List Bytes), Go.Lib.join l [c] = joinC c l
  | [] => rfl
  | [p] => Go.Lib.join_one p [c]
  | p :: q :: l => by
    have ih := lib_join c (q :: l)
    unfold Go.Lib.join at ih ⊢
    show _ = p ++ c :: joinC c (q :: l)
    rw [← ih]
    simp [List.intercalate, List.intersperse]
theorem Join_c (c : UInt8) (l : List Bytes) (hb : (joinC c l).length ≤ 100000) : Pure Tryz.prog 88 [tc (AL.Fnv.slS l), tc (st [c])] (vc (st (joinC c l))) := by
  refine Pure.of_below ⟨_, Tryz.func88, by kernel_rfl, by kernel_rfl⟩ fun Γ w cargs hh hm => ?_
  obtain ⟨u, v, rfl, hu, ⟨rfl, hv⟩⟩ := args2 hm
  obtain ⟨a, cap, rfl, h1, h2, h3⟩ := hu
  have fin : MV Γ H0 w (vc (st (joinC c l))) (.string (ba (joinC c l))) := ⟨rfl, by simp only [maxLen]; omega⟩
  rcases h3 with ⟨rfl, h3⟩ | ⟨b, off, rfl, hI, hc⟩
  · refine (Tryz.strings_Join_none a cap (ba [c]) w).mono ?_
    rintro e w' ⟨rfl, rfl⟩
    exact ⟨_, rfl, Below.refl _ _, rfl, Nat.zero_le _⟩
  · have hcells : ∀ (j : Nat) x, (l.map ba)[j]? = some x → w.cell? ⟨b, off + j, none⟩ = some (.string x) := by
      intro j x hx
      rw [List.getElem?_map, Option.map_eq_some_iff] at hx
      obtain ⟨y, hy, rfl⟩ := hx
      obtain ⟨u, hu, hmu⟩ := hc j y hy 0 (by omega)
      obtain ⟨rfl, _⟩ := (show u = .string (ba y) ∧ _ from hmu)
      rw [Nat.mul_one, Nat.add_zero] at hu
      exact hu
    have hl : ((l.map ba).map (·.data.toList)) = l := by
      rw [List.map_map]
      conv => rhs; rw [← List.map_id l]
      exact List.map_congr_left fun x _ => rfl
    have hlen : (l.map ba).length = l.length := List.length_map _
    have hj : Go.Lib.join ((l.map ba).map (·.data.toList)) (ba [c]).data.toList = joinC c l := by rw [hl]; exact lib_join c l
    have := Tryz.strings_Join b off cap (l.map ba) (ba [c]) w hcells (hh.ilt b hI) (by have := join_count c l; rw [hlen]; omega) (by rw [hlen]; exact h1) (by rw [hj]; omega)
    rw [hlen, hj] at this
    refine this.mono ?_
    rintro e w' ⟨rfl, hbel⟩
    exact ⟨_, rfl, hbel, rfl, by simp only [maxLen]; omega⟩
end AL.Sep
namespace AL.Sep
open Go Go.Proofs AL
set_option linter.unusedVariables false
set_option linter.unusedSimpArgs false
theorem f127_body : Tryz.f127.body = some (.seq (.region 0 (rg Tryz.f127 0) false) (.seq (.seq (.region 1 (rg Tryz.f127 1) false) (.cond (.tmp 13) (.seq (.region 2 (rg Tryz.f127 2) false) (.ret)) (.skip))) (.seq (.seq (.region 3 (rg Tryz.f127 3) false) (.cond (.tmp 15) (.seq (.region 4 (rg Tryz.f127 4) false) (.ret)) (.skip))) (.seq (.seq (.region 5 (rg Tryz.f127 5) false) (.cond (.tmp 20) (.region 6 (rg Tryz.f127 6) false) (.skip))) (.seq (.region 7 (rg Tryz.f127 7) false) (.seq (.region 8 (rg Tryz.f127 8) false) (.seq (.region 9 (rg Tryz.f127 9) false) (.seq (.region 10 (rg Tryz.f127 10) false) (.seq (.block 0 (.loop (.seq (.seq (.region 11 (rg Tryz.f127 11) false) (.cond (.tmp 36) (.skip) (.exit 0))) (.block 1 (.seq (.region 12 (rg Tryz.f127 12) false) (.seq (.seq (.region 13 (rg Tryz.f127 13) false) (.cond (.tmp 41) (.exit 0) (.skip))) (.seq (.region 14 (rg Tryz.f127 14) false) (.seq (.region 15 (rg Tryz.f127 15) false) (.region 16 (rg Tryz.f127 16) false))))))))) (.seq (.region 17 (rg Tryz.f127 17) false) (.seq (.region 18 (rg Tryz.f127 18) false) (.ret)))))))))))) := by kernel_rfl
set_option maxRecDepth 100000 in
set_option maxHeartbeats 8000000 in
theorem genSplit_c (k : UInt8) (s : Bytes) (hb : s.length ≤ 100000) : Pure Tryz.prog 127 [tc (st s), tc (st [k]), tc (i6 0), tc (i6 (-1))] (vc (AL.Fnv.slS (splitC k s))) := by
 refine Pure.of_body Tryz.func127 f127_body (by kernel_rfl) Tryz.ntmps127 (by kernel_rfl) (by kernel_rfl) ?_
 have hn := gen_n k s
 have hcn : List.count k s ≤ s.length := List.count_le_length
 refine gS [] [] 66 [(0, vc (st s)), (1, vc (st [k])), (2, vc (i6 0)), (3, vc (i6 (-1)))] [] trivial ?_
 refine gQ ?_
 refine gS [] [] 66 [(0, vc (st s)), (1, vc (st [k])), (2, vc (i6 0)), (3, vc (i6 (-1))), (13, vc (bo false))] [] trivial ?_
 refine gBf ?_
 refine AMx.skip ?_
 refine gQ ?_
 refine gS [] [] 66 [(0, vc (st s)), (1, vc (st [k])), (2, vc (i6 0)), (3, vc (i6 (-1))), (15, vc (bo false))] [] trivial ?_
 refine gBf ?_
 refine AMx.skip ?_
 refine gQ ?_
 refine gS [] [] 66 [(0, vc (st s)), (1, vc (st [k])), (2, vc (i6 0)), (3, vc (i6 (-1))), (20, vc (bo true))] [] trivial ?_
 refine gBt ?_
 refine gR [(2, CE.call [] [] (vc (i6 ((List.count (k : UInt8) s : Nat) : Int))) [])] [Spec Tryz.prog 147 [tc (st s), tc (st [k])] (ofH []) (vc (i6 ((List.count (k : UInt8) s : Nat) : Int))) (ofH []), InR .i64 (((List.count (k : UInt8) s : Nat) : Int) + 1)] 66 [(0, vc (st s)), (1, vc (st [k])), (2, vc (i6 0)), (3, vc (i6 (((List.count (k : UInt8) s : Nat) : Int) + 1)))] [] ⟨(AL.Sep.Count_c k s), (show InR .i64 (((List.count (k : UInt8) s : Nat) : Int) + 1) from (inR64 (by first | omega | (have hx := index_rng k c; first | omega | (simp only [List.length_cons, List.length_nil]; omega) | (have hz := gen_le hP; first | omega | (simp only [List.length_append, List.length_replicate, List.length_set]; omega)))) (by first | omega | (have hx := index_rng k c; first | omega | (simp only [List.length_cons, List.length_nil]; omega) | (have hz := gen_le hP; first | omega | (simp only [List.length_append, List.length_replicate, List.length_set]; omega))))))⟩ ?_
 refine gS [] [InR .i64 ((List.length s : Int) + 1)] 66 [(0, vc (st s)), (1, vc (st [k])), (2, vc (i6 0)), (3, vc (i6 (min (((List.count (k : UInt8) s : Nat) : Int) + 1) ((List.length s : Int) + 1))))] [] (show InR .i64 ((List.length s : Int) + 1) from (inR64 (by first | omega | (have hx := index_rng k c; first | omega | (simp only [List.length_cons, List.length_nil]; omega) | (have hz := gen_le hP; first | omega | (simp only [List.length_append, List.length_replicate, List.length_set]; omega)))) (by first | omega | (have hx := index_rng k c; first | omega | (simp only [List.length_cons, List.length_nil]; omega) | (have hz := gen_le hP; first | omega | (simp only [List.length_append, List.length_replicate, List.length_set]; omega)))))) ?_
 refine gS [(1, CE.obj (AObj.grow 9 1 Bytes [] AL.Fnv.rowS (List.replicate (min (((List.count (k : UInt8) s : Nat) : Int) + 1) ((List.length s : Int) + 1)).toNat [])))] [0 ≤ min (((List.count (k : UInt8) s : Nat) : Int) + 1) ((List.length s : Int) + 1), min (((List.count (k : UInt8) s : Nat) : Int) + 1) ((List.length s : Int) + 1) ≤ min (((List.count (k : UInt8) s : Nat) : Int) + 1) ((List.length s : Int) + 1), (16 : Int) * (min (((List.count (k : UInt8) s : Nat) : Int) + 1) ((List.length s : Int) + 1)) ≤ 281474976710656, min (((List.count (k : UInt8) s : Nat) : Int) + 1) ((List.length s : Int) + 1) ≤ 9223372036854775807, MakeC (min (((List.count (k : UInt8) s : Nat) : Int) + 1) ((List.length s : Int) + 1)).toNat [.s (st [])] (AObj.grow 9 1 Bytes [] AL.Fnv.rowS (List.replicate (min (((List.count (k : UInt8) s : Nat) : Int) + 1) ((List.length s : Int) + 1)).toNat []))] 66 [(0, vc (st s)), (1, vc (st [k])), (2, vc (i6 0)), (3, vc (i6 (min (((List.count (k : UInt8) s : Nat) : Int) + 1) ((List.length s : Int) + 1)))), (9, vo 31)] [(31, AObj.grow 9 1 Bytes [] AL.Fnv.rowS (List.replicate (min (((List.count (k : UInt8) s : Nat) : Int) + 1) ((List.length s : Int) + 1)).toNat []))] ⟨(show 0 ≤ min (((List.count (k : UInt8) s : Nat) : Int) + 1) ((List.length s : Int) + 1) from (by first | omega | (have hx := index_rng k c; first | omega | (simp only [List.length_cons, List.length_nil]; omega) | (have hz := gen_le hP; first | omega | (simp only [List.length_append, List.length_replicate, List.length_set]; omega))))), (show min (((List.count (k : UInt8) s : Nat) : Int) + 1) ((List.length s : Int) + 1) ≤ min (((List.count (k : UInt8) s : Nat) : Int) + 1) ((List.length s : Int) + 1) from (by first | omega | (have hx := index_rng k c; first | omega | (simp only [List.length_cons, List.length_nil]; omega) | (have hz := gen_le hP; first | omega | (simp only [List.length_append, List.length_replicate, List.length_set]; omega))))), (show (16 : Int) * (min (((List.count (k : UInt8) s : Nat) : Int) + 1) ((List.length s : Int) + 1)) ≤ 281474976710656 from (by first | omega | (have hx := index_rng k c; first | omega | (simp only [List.length_cons, List.length_nil]; omega) | (have hz := gen_le hP; first | omega | (simp only [List.length_append, List.length_replicate, List.length_set]; omega))))), (show min (((List.count (k : UInt8) s : Nat) : Int) + 1) ((List.length s : Int) + 1) ≤ 9223372036854775807 from (by first | omega | (have hx := index_rng k c; first | omega | (simp only [List.length_cons, List.length_nil]; omega) | (have hz := gen_le hP; first | omega | (simp only [List.length_append, List.length_replicate, List.length_set]; omega))))), (⟨_, rfl, rfl⟩)⟩ ?_
 refine gS [] [InR .i64 ((min (((List.count (k : UInt8) s : Nat) : Int) + 1) ((List.length s : Int) + 1)) - 1)] 66 [(0, vc (st s)), (1, vc (st [k])), (2, vc (i6 0)), (3, vc (i6 ((min (((List.count (k : UInt8) s : Nat) : Int) + 1) ((List.length s : Int) + 1)) - 1))), (9, vo 31)] [(31, AObj.grow 9 1 Bytes [] AL.Fnv.rowS (List.replicate (min (((List.count (k : UInt8) s : Nat) : Int) + 1) ((List.length s : Int) + 1)).toNat []))] (show InR .i64 ((min (((List.count (k : UInt8) s : Nat) : Int) + 1) ((List.length s : Int) + 1)) - 1) from (inR64 (by first | omega | (have hx := index_rng k c; first | omega | (simp only [List.length_cons, List.length_nil]; omega) | (have hz := gen_le hP; first | omega | (simp only [List.length_append, List.length_replicate, List.length_set]; omega)))) (by first | omega | (have hx := index_rng k c; first | omega | (simp only [List.length_cons, List.length_nil]; omega) | (have hz := gen_le hP; first | omega | (simp only [List.length_append, List.length_replicate, List.length_set]; omega)))))) ?_
 refine gS [] [] 66 [(0, vc (st s)), (1, vc (st [k])), (2, vc (i6 0)), (3, vc (i6 ((min (((List.count (k : UInt8) s : Nat) : Int) + 1) ((List.length s : Int) + 1)) - 1))), (9, vo 31), (10, vc (i6 0))] [(31, AObj.grow 9 1 Bytes [] AL.Fnv.rowS (List.replicate (min (((List.count (k : UInt8) s : Nat) : Int) + 1) ((List.length s : Int) + 1)).toNat []))] trivial ?_
 refine gQ ?_
 refine AMx.block ?_
 refine AMx.ent (s' := AS.lst 66 [(0, vc (st s)), (1, vc (st [k])), (2, vc (i6 0)), (3, vc (i6 ((min (((List.count (k : UInt8) s : Nat) : Int) + 1) ((List.length s : Int) + 1)) - 1))), (9, vo 31), (10, vc (i6 0))] [(31, AObj.grow 9 1 Bytes [] AL.Fnv.rowS (List.replicate (min (((List.count (k : UInt8) s : Nat) : Int) + 1) ((List.length s : Int) + 1)).toNat []))]) (ent_proj [0, 1, 2, 3, 9, 10] [31]) ?_
 refine AMx.loop (fun mm ss => ∃ (o : List Bytes) (c : Bytes), (splitC k s = o ++ splitC k c ∧ c.length ≤ s.length) ∧ mm = c.length ∧ ss = AS.lst 66 [(0, vc (st c)), (1, vc (st [k])), (2, vc (i6 0)), (3, vc (i6 ((min (((List.count (k : UInt8) s : Nat) : Int) + 1) ((List.length s : Int) + 1)) - 1))), (9, vo 31), (10, vc (i6 (List.length o : Int)))] [(31, AObj.grow 9 1 Bytes [] AL.Fnv.rowS (o ++ List.replicate (splitC k c).length []))]) ⟨[], s, ?_, rfl, ?_⟩ ?_
 · exact ⟨rfl, Nat.le_refl _⟩
 · rw [hn]; rfl
 rintro mm ss ⟨o, c, ⟨hP, hL⟩, rfl, rfl⟩
 refine gQ ?_
 refine gS [] [] 66 [(0, vc (st c)), (1, vc (st [k])), (2, vc (i6 0)), (3, vc (i6 ((min (((List.count (k : UInt8) s : Nat) : Int) + 1) ((List.length s : Int) + 1)) - 1))), (9, vo 31), (10, vc (i6 (List.length o : Int))), (36, vc (bo (decide ((List.length o : Int) < (min (((List.count (k : UInt8) s : Nat) : Int) + 1) ((List.length s : Int) + 1)) - 1))))] [(31, AObj.grow 9 1 Bytes [] AL.Fnv.rowS (o ++ List.replicate (splitC k c).length []))] trivial ?_
 refine gC ((List.length o : Int) < (min (((List.count (k : UInt8) s : Nat) : Int) + 1) ((List.length s : Int) + 1)) - 1) (fun hc4 => ?_) fun hc4 => ?_
 ·
  refine AMx.skip ?_
  refine AMx.block ?_
  refine gS [(2, CE.call [] [] (vc (i6 (Go.Lib.indexByte c k))) [])] [Spec Tryz.prog 148 [tc (st c), tc (st [k])] (ofH []) (vc (i6 (Go.Lib.indexByte c k))) (ofH [])] 66 [(0, vc (st c)), (1, vc (st [k])), (2, vc (i6 0)), (3, vc (i6 ((min (((List.count (k : UInt8) s : Nat) : Int) + 1) ((List.length s : Int) + 1)) - 1))), (9, vo 31), (10, vc (i6 (List.length o : Int))), (11, vc (i6 (Go.Lib.indexByte c k)))] [(31, AObj.grow 9 1 Bytes [] AL.Fnv.rowS (o ++ List.replicate (splitC k c).length []))] (AL.Sep.Index_c k c) ?_
  refine gQ ?_
  refine gS [] [] 66 [(0, vc (st c)), (1, vc (st [k])), (2, vc (i6 0)), (3, vc (i6 ((min (((List.count (k : UInt8) s : Nat) : Int) + 1) ((List.length s : Int) + 1)) - 1))), (9, vo 31), (10, vc (i6 (List.length o : Int))), (11, vc (i6 (Go.Lib.indexByte c k))), (41, vc (bo (decide (Go.Lib.indexByte c k < 0))))] [(31, AObj.grow 9 1 Bytes [] AL.Fnv.rowS (o ++ List.replicate (splitC k c).length []))] trivial ?_
  refine gC (Go.Lib.indexByte c k < 0) (fun hc5 => ?_) fun hc5 => ?_
  ·
   refine AMx.exit ?_
   refine AMx.code_exit ?_
   refine AMx.blk_pass rfl ?_
   refine AMx.inv_exit ?_
   refine AMx.blk_exit ?_
   refine gS [(4, CE.obj (AObj.grow 9 1 Bytes [] AL.Fnv.rowS (List.set (o ++ List.replicate (splitC k c).length []) (List.length o) c)))] [(0 : Int) ≤ (List.length o : Int), (List.length o : Int) < List.length (o ++ List.replicate (splitC k c).length [] : List Bytes), StoreC (List.length o) 0 [.s (st c)] (AObj.grow 9 1 Bytes [] AL.Fnv.rowS (o ++ List.replicate (splitC k c).length [])) (AObj.grow 9 1 Bytes [] AL.Fnv.rowS (List.set (o ++ List.replicate (splitC k c).length []) (List.length o) c))] 66 [(9, vo 31), (10, vc (i6 (List.length o : Int)))] [(31, AObj.grow 9 1 Bytes [] AL.Fnv.rowS (List.set (o ++ List.replicate (splitC k c).length []) (List.length o) c))] ⟨(show (0 : Int) ≤ (List.length o : Int) from (by first | omega | (have hx := index_rng k c; first | omega | (simp only [List.length_cons, List.length_nil]; omega) | (have hz := gen_le hP; first | omega | (simp only [List.length_append, List.length_replicate, List.length_set]; omega))))), (show (List.length o : Int) < List.length (o ++ List.replicate (splitC k c).length [] : List Bytes) from (by first | omega | (have hx := index_rng k c; first | omega | (simp only [List.length_cons, List.length_nil]; omega) | (have hz := gen_le hP; first | omega | (simp only [List.length_append, List.length_replicate, List.length_set]; omega))))), (⟨c, rfl, by first | omega | (have hx := index_rng k c; first | omega | (simp only [List.length_cons, List.length_nil]; omega) | (have hz := gen_le hP; first | omega | (simp only [List.length_append, List.length_replicate, List.length_set]; omega))), rfl⟩)⟩ ?_
   refine gS [] [InR .i64 ((List.length o : Int) + 1), 0 ≤ (List.length o : Int) + 1, (List.length o : Int) + 1 ≤ (List.length (List.set (o ++ List.replicate (splitC k c).length []) (List.length o) c : List Bytes) : Int)] 66 [(8, vo 65)] [(65, AObj.grow 9 1 Bytes [] AL.Fnv.rowS (List.take ((List.length o) + 1) (List.set (o ++ List.replicate (splitC k c).length []) (List.length o) c)))] ⟨(show InR .i64 ((List.length o : Int) + 1) from (inR64 (by first | omega | (have hx := index_rng k c; first | omega | (simp only [List.length_cons, List.length_nil]; omega) | (have hz := gen_le hP; first | omega | (simp only [List.length_append, List.length_replicate, List.length_set]; omega)))) (by first | omega | (have hx := index_rng k c; first | omega | (simp only [List.length_cons, List.length_nil]; omega) | (have hz := gen_le hP; first | omega | (simp only [List.length_append, List.length_replicate, List.length_set]; omega)))))), (show 0 ≤ (List.length o : Int) + 1 from (by first | omega | (have hx := index_rng k c; first | omega | (simp only [List.length_cons, List.length_nil]; omega) | (have hz := gen_le hP; first | omega | (simp only [List.length_append, List.length_replicate, List.length_set]; omega))))), (show (List.length o : Int) + 1 ≤ (List.length (List.set (o ++ List.replicate (splitC k c).length []) (List.length o) c : List Bytes) : Int) from (by first | omega | (have hx := index_rng k c; first | omega | (simp only [List.length_cons, List.length_nil]; omega) | (have hz := gen_le hP; first | omega | (simp only [List.length_append, List.length_replicate, List.length_set]; omega)))))⟩ ?_
   refine AMx.ent (s' := AS.lst 66 [(8, vc (AL.Fnv.slS (List.take ((List.length o) + 1) (List.set (o ++ List.replicate (splitC k c).length []) (List.length o) c))))] []) (ent_freeze (id := 65) (T := 9) (by kernel_rfl)) ?_
   exact gT (vc (AL.Fnv.slS (List.take ((List.length o) + 1) (List.set (o ++ List.replicate (splitC k c).length []) (List.length o) c)))) (by rw [gen_end hP (by first | exact index_none (by omega) | exact gen_last hP (by omega))])
  ·
   refine AMx.skip ?_
   refine gS [(8, CE.obj (AObj.grow 9 1 Bytes [] AL.Fnv.rowS (List.set (o ++ List.replicate (splitC k c).length []) (List.length o) (List.take ((Go.Lib.indexByte c k) + 0).toNat c))))] [InR .i64 ((Go.Lib.indexByte c k) + 0), 0 ≤ (Go.Lib.indexByte c k) + 0, (Go.Lib.indexByte c k) + 0 ≤ List.length c, (0 : Int) ≤ (List.length o : Int), (List.length o : Int) < List.length (o ++ List.replicate (splitC k c).length [] : List Bytes), StoreC (List.length o) 0 [.s (st (List.take ((Go.Lib.indexByte c k) + 0).toNat c))] (AObj.grow 9 1 Bytes [] AL.Fnv.rowS (o ++ List.replicate (splitC k c).length [])) (AObj.grow 9 1 Bytes [] AL.Fnv.rowS (List.set (o ++ List.replicate (splitC k c).length []) (List.length o) (List.take ((Go.Lib.indexByte c k) + 0).toNat c)))] 66 [(0, vc (st c)), (1, vc (st [k])), (2, vc (i6 0)), (3, vc (i6 ((min (((List.count (k : UInt8) s : Nat) : Int) + 1) ((List.length s : Int) + 1)) - 1))), (9, vo 31), (10, vc (i6 (List.length o : Int))), (11, vc (i6 (Go.Lib.indexByte c k)))] [(31, AObj.grow 9 1 Bytes [] AL.Fnv.rowS (List.set (o ++ List.replicate (splitC k c).length []) (List.length o) (List.take ((Go.Lib.indexByte c k) + 0).toNat c)))] ⟨(show InR .i64 ((Go.Lib.indexByte c k) + 0) from (inR64 (by first | omega | (have hx := index_rng k c; first | omega | (simp only [List.length_cons, List.length_nil]; omega) | (have hz := gen_le hP; first | omega | (simp only [List.length_append, List.length_replicate, List.length_set]; omega)))) (by first | omega | (have hx := index_rng k c; first | omega | (simp only [List.length_cons, List.length_nil]; omega) | (have hz := gen_le hP; first | omega | (simp only [List.length_append, List.length_replicate, List.length_set]; omega)))))), (show 0 ≤ (Go.Lib.indexByte c k) + 0 from (by first | omega | (have hx := index_rng k c; first | omega | (simp only [List.length_cons, List.length_nil]; omega) | (have hz := gen_le hP; first | omega | (simp only [List.length_append, List.length_replicate, List.length_set]; omega))))), (show (Go.Lib.indexByte c k) + 0 ≤ List.length c from (by first | omega | (have hx := index_rng k c; first | omega | (simp only [List.length_cons, List.length_nil]; omega) | (have hz := gen_le hP; first | omega | (simp only [List.length_append, List.length_replicate, List.length_set]; omega))))), (show (0 : Int) ≤ (List.length o : Int) from (by first | omega | (have hx := index_rng k c; first | omega | (simp only [List.length_cons, List.length_nil]; omega) | (have hz := gen_le hP; first | omega | (simp only [List.length_append, List.length_replicate, List.length_set]; omega))))), (show (List.length o : Int) < List.length (o ++ List.replicate (splitC k c).length [] : List Bytes) from (by first | omega | (have hx := index_rng k c; first | omega | (simp only [List.length_cons, List.length_nil]; omega) | (have hz := gen_le hP; first | omega | (simp only [List.length_append, List.length_replicate, List.length_set]; omega))))), (⟨List.take ((Go.Lib.indexByte c k) + 0).toNat c, rfl, by first | omega | (have hx := index_rng k c; first | omega | (simp only [List.length_cons, List.length_nil]; omega) | (have hz := gen_le hP; first | omega | (simp only [List.length_append, List.length_replicate, List.length_set]; omega))), rfl⟩)⟩ ?_
   refine gS [] [InR .i64 ((Go.Lib.indexByte c k) + (List.length ([k] : List UInt8) : Int)), 0 ≤ (Go.Lib.indexByte c k) + (List.length ([k] : List UInt8) : Int), (Go.Lib.indexByte c k) + (List.length ([k] : List UInt8) : Int) ≤ List.length c] 66 [(0, vc (st (List.drop ((Go.Lib.indexByte c k) + (List.length ([k] : List UInt8) : Int)).toNat c))), (1, vc (st [k])), (2, vc (i6 0)), (3, vc (i6 ((min (((List.count (k : UInt8) s : Nat) : Int) + 1) ((List.length s : Int) + 1)) - 1))), (9, vo 31), (10, vc (i6 (List.length o : Int)))] [(31, AObj.grow 9 1 Bytes [] AL.Fnv.rowS (List.set (o ++ List.replicate (splitC k c).length []) (List.length o) (List.take ((Go.Lib.indexByte c k) + 0).toNat c)))] ⟨(show InR .i64 ((Go.Lib.indexByte c k) + (List.length ([k] : List UInt8) : Int)) from (inR64 (by first | omega | (have hx := index_rng k c; first | omega | (simp only [List.length_cons, List.length_nil]; omega) | (have hz := gen_le hP; first | omega | (simp only [List.length_append, List.length_replicate, List.length_set]; omega)))) (by first | omega | (have hx := index_rng k c; first | omega | (simp only [List.length_cons, List.length_nil]; omega) | (have hz := gen_le hP; first | omega | (simp only [List.length_append, List.length_replicate, List.length_set]; omega)))))), (show 0 ≤ (Go.Lib.indexByte c k) + (List.length ([k] : List UInt8) : Int) from (by first | omega | (have hx := index_rng k c; first | omega | (simp only [List.length_cons, List.length_nil]; omega) | (have hz := gen_le hP; first | omega | (simp only [List.length_append, List.length_replicate, List.length_set]; omega))))), (show (Go.Lib.indexByte c k) + (List.length ([k] : List UInt8) : Int) ≤ List.length c from (by first | omega | (have hx := index_rng k c; first | omega | (simp only [List.length_cons, List.length_nil]; omega) | (have hz := gen_le hP; first | omega | (simp only [List.length_append, List.length_replicate, List.length_set]; omega)))))⟩ ?_
   refine gR [] [InR .i64 ((List.length o : Int) + 1)] 66 [(0, vc (st (List.drop ((Go.Lib.indexByte c k) + (List.length ([k] : List UInt8) : Int)).toNat c))), (1, vc (st [k])), (2, vc (i6 0)), (3, vc (i6 ((min (((List.count (k : UInt8) s : Nat) : Int) + 1) ((List.length s : Int) + 1)) - 1))), (9, vo 31), (10, vc (i6 ((List.length o : Int) + 1)))] [(31, AObj.grow 9 1 Bytes [] AL.Fnv.rowS (List.set (o ++ List.replicate (splitC k c).length []) (List.length o) (List.take ((Go.Lib.indexByte c k) + 0).toNat c)))] (show InR .i64 ((List.length o : Int) + 1) from (inR64 (by first | omega | (have hx := index_rng k c; first | omega | (simp only [List.length_cons, List.length_nil]; omega) | (have hz := gen_le hP; first | omega | (simp only [List.length_append, List.length_replicate, List.length_set]; omega)))) (by first | omega | (have hx := index_rng k c; first | omega | (simp only [List.length_cons, List.length_nil]; omega) | (have hz := gen_le hP; first | omega | (simp only [List.length_append, List.length_replicate, List.length_set]; omega)))))) ?_
   refine AMx.blk ?_
   refine AMx.ent_inv (s' := AS.lst 66 [(0, vc (st (List.drop ((Go.Lib.indexByte c k) + (List.length ([k] : List UInt8) : Int)).toNat c))), (1, vc (st [k])), (2, vc (i6 0)), (3, vc (i6 ((min (((List.count (k : UInt8) s : Nat) : Int) + 1) ((List.length s : Int) + 1)) - 1))), (9, vo 31), (10, vc (i6 ((List.length o : Int) + 1)))] [(31, AObj.grow 9 1 Bytes [] AL.Fnv.rowS (List.set (o ++ List.replicate (splitC k c).length []) (List.length o) (List.take ((Go.Lib.indexByte c k) + 0).toNat c)))]) (ent_proj [0, 1, 2, 3, 9, 10] [31]) ?_
   refine AMx.inv ⟨_, ?_, o ++ [List.take (Go.Lib.indexByte c k).toNat c], List.drop ((Go.Lib.indexByte c k).toNat + 1) c, ?_, rfl, ?_⟩
   rotate_left
   · exact ⟨gen_inv hP (by omega), by rw [List.length_drop]; omega⟩
   · rw [show (Go.Lib.indexByte c k + (0 : Int)).toNat = (Go.Lib.indexByte c k).toNat by omega, show (Go.Lib.indexByte c k + (List.length ([k] : List UInt8) : Int)).toNat = (Go.Lib.indexByte c k).toNat + 1 by simp only [List.length_cons, List.length_nil]; omega, gen_step (by omega), List.length_append]; rfl
   · have hx := index_some (s := c) (c := k) (by omega); rw [List.length_drop]; omega
 ·
  refine AMx.exit ?_
  refine AMx.code_exit ?_
  refine AMx.inv_exit ?_
  refine AMx.blk_exit ?_
  refine gS [(4, CE.obj (AObj.grow 9 1 Bytes [] AL.Fnv.rowS (List.set (o ++ List.replicate (splitC k c).length []) (List.length o) c)))] [(0 : Int) ≤ (List.length o : Int), (List.length o : Int) < List.length (o ++ List.replicate (splitC k c).length [] : List Bytes), StoreC (List.length o) 0 [.s (st c)] (AObj.grow 9 1 Bytes [] AL.Fnv.rowS (o ++ List.replicate (splitC k c).length [])) (AObj.grow 9 1 Bytes [] AL.Fnv.rowS (List.set (o ++ List.replicate (splitC k c).length []) (List.length o) c))] 66 [(9, vo 31), (10, vc (i6 (List.length o : Int)))] [(31, AObj.grow 9 1 Bytes [] AL.Fnv.rowS (List.set (o ++ List.replicate (splitC k c).length []) (List.length o) c))] ⟨(show (0 : Int) ≤ (List.length o : Int) from (by first | omega | (have hx := index_rng k c; first | omega | (simp only [List.length_cons, List.length_nil]; omega) | (have hz := gen_le hP; first | omega | (simp only [List.length_append, List.length_replicate, List.length_set]; omega))))), (show (List.length o : Int) < List.length (o ++ List.replicate (splitC k c).length [] : List Bytes) from (by first | omega | (have hx := index_rng k c; first | omega | (simp only [List.length_cons, List.length_nil]; omega) | (have hz := gen_le hP; first | omega | (simp only [List.length_append, List.length_replicate, List.length_set]; omega))))), (⟨c, rfl, by first | omega | (have hx := index_rng k c; first | omega | (simp only [List.length_cons, List.length_nil]; omega) | (have hz := gen_le hP; first | omega | (simp only [List.length_append, List.length_replicate, List.length_set]; omega))), rfl⟩)⟩ ?_
  refine gS [] [InR .i64 ((List.length o : Int) + 1), 0 ≤ (List.length o : Int) + 1, (List.length o : Int) + 1 ≤ (List.length (List.set (o ++ List.replicate (splitC k c).length []) (List.length o) c : List Bytes) : Int)] 66 [(8, vo 65)] [(65, AObj.grow 9 1 Bytes [] AL.Fnv.rowS (List.take ((List.length o) + 1) (List.set (o ++ List.replicate (splitC k c).length []) (List.length o) c)))] ⟨(show InR .i64 ((List.length o : Int) + 1) from (inR64 (by first | omega | (have hx := index_rng k c; first | omega | (simp only [List.length_cons, List.length_nil]; omega) | (have hz := gen_le hP; first | omega | (simp only [List.length_append, List.length_replicate, List.length_set]; omega)))) (by first | omega | (have hx := index_rng k c; first | omega | (simp only [List.length_cons, List.length_nil]; omega) | (have hz := gen_le hP; first | omega | (simp only [List.length_append, List.length_replicate, List.length_set]; omega)))))), (show 0 ≤ (List.length o : Int) + 1 from (by first | omega | (have hx := index_rng k c; first | omega | (simp only [List.length_cons, List.length_nil]; omega) | (have hz := gen_le hP; first | omega | (simp only [List.length_append, List.length_replicate, List.length_set]; omega))))), (show (List.length o : Int) + 1 ≤ (List.length (List.set (o ++ List.replicate (splitC k c).length []) (List.length o) c : List Bytes) : Int) from (by first | omega | (have hx := index_rng k c; first | omega | (simp only [List.length_cons, List.length_nil]; omega) | (have hz := gen_le hP; first | omega | (simp only [List.length_append, List.length_replicate, List.length_set]; omega)))))⟩ ?_
  refine AMx.ent (s' := AS.lst 66 [(8, vc (AL.Fnv.slS (List.take ((List.length o) + 1) (List.set (o ++ List.replicate (splitC k c).length []) (List.length o) c))))] []) (ent_freeze (id := 65) (T := 9) (by kernel_rfl)) ?_
  exact gT (vc (AL.Fnv.slS (List.take ((List.length o) + 1) (List.set (o ++ List.replicate (splitC k c).length []) (List.length o) c)))) (by rw [gen_end hP (by first | exact index_none (by omega) | exact gen_last hP (by omega))])
theorem f94_body : Tryz.f94.body = some (.seq (.region 0 (rg Tryz.f94 0) false) (.seq (.region 1 (rg Tryz.f94 1) false) (.ret))) := by kernel_rfl
set_option maxRecDepth 100000 in
set_option maxHeartbeats 8000000 in
theorem Split_c (k : UInt8) (s : Bytes) (hb : s.length ≤ 100000) : Pure Tryz.prog 94 [tc (st s), tc (st [k])] (vc (AL.Fnv.slS (splitC k s))) := by
 refine Pure.of_body Tryz.func94 f94_body (by kernel_rfl) Tryz.ntmps94 (by kernel_rfl) (by kernel_rfl) ?_
 refine gS [] [] 8 [(0, vc (st s)), (1, vc (st [k]))] [] trivial ?_
 refine gS [(2, CE.call [] [] (vc (AL.Fnv.slS (AL.Sep.splitC k s))) [])] [Spec Tryz.prog 127 [tc (st s), tc (st [k]), tc (i6 0), tc (i6 (-1))] (ofH []) (vc (AL.Fnv.slS (AL.Sep.splitC k s))) (ofH [])] 8 [(4, vc (AL.Fnv.slS (AL.Sep.splitC k s)))] [] (AL.Sep.genSplit_c k s (by omega)) ?_
 exact gT (vc (AL.Fnv.slS (AL.Sep.splitC k s))) rfl
theorem f128_body : Tryz.f128.body = some (.seq (.region 0 (rg Tryz.f128 0) false) (.seq (.seq (.region 1 (rg Tryz.f128 1) false) (.seq (.region 2 (rg Tryz.f128 2) false) (.cond (.tmp 12) (.seq (.region 3 (rg Tryz.f128 3) true) (.ret)) (.skip)))) (.seq (.region 4 (rg Tryz.f128 4) false) (.ret)))) := by kernel_rfl
set_option maxRecDepth 100000 in
set_option maxHeartbeats 8000000 in
theorem LCut_c (k : UInt8) (s : Bytes) : Pure Tryz.prog 128 [tc (st s), tc (st [k])] (AV.tup [tc (st ((cutAt k s).1)), tc (st ((cutAt k s).2.1)), tc (bo ((cutAt k s).2.2))]) := by
 refine Pure.of_body Tryz.func128 f128_body (by kernel_rfl) Tryz.ntmps128 (by kernel_rfl) (by kernel_rfl) ?_
 refine AMx.str 0 (b := s) rfl (fun hl => ?_)
 simp only [maxLen] at hl
 refine gS [] [] 23 [(0, vc (st s)), (1, vc (st [k]))] [] trivial ?_
 refine gQ ?_
 refine gS [(2, CE.call [] [] (vc (i6 (Go.Lib.indexByte s k))) [])] [Spec Tryz.prog 149 [tc (st s), tc (st [k])] (ofH []) (vc (i6 (Go.Lib.indexByte s k))) (ofH [])] 23 [(0, vc (st s)), (1, vc (st [k])), (7, vc (i6 (Go.Lib.indexByte s k)))] [] (AL.Sep.IndexL_c k s) ?_
 refine gS [] [] 23 [(0, vc (st s)), (1, vc (st [k])), (7, vc (i6 (Go.Lib.indexByte s k))), (12, vc (bo (decide (0 ≤ Go.Lib.indexByte s k))))] [] trivial ?_
 refine gC (0 ≤ Go.Lib.indexByte s k) (fun hc1 => ?_) fun hc1 => ?_
 ·
  refine gY [] [] [0 ≤ Go.Lib.indexByte s k, Go.Lib.indexByte s k ≤ List.length s, InR .i64 ((Go.Lib.indexByte s k) + (List.length ([k] : List UInt8) : Int)), 0 ≤ (Go.Lib.indexByte s k) + (List.length ([k] : List UInt8) : Int), (Go.Lib.indexByte s k) + (List.length ([k] : List UInt8) : Int) ≤ List.length s] 23 [(4, vc (st (List.take (Go.Lib.indexByte s k).toNat s))), (5, vc (st (List.drop ((Go.Lib.indexByte s k) + (List.length ([k] : List UInt8) : Int)).toNat s))), (6, vc (bo true))] [] mixed ⟨(show 0 ≤ Go.Lib.indexByte s k from (by first | omega | (have hi := index_rng k s; have h1 : List.length ([k] : List UInt8) = 1 := rfl; omega))), (show Go.Lib.indexByte s k ≤ List.length s from (by first | omega | (have hi := index_rng k s; have h1 : List.length ([k] : List UInt8) = 1 := rfl; omega))), (show InR .i64 ((Go.Lib.indexByte s k) + (List.length ([k] : List UInt8) : Int)) from (inR64 (by first | omega | (have hi := index_rng k s; have h1 : List.length ([k] : List UInt8) = 1 := rfl; omega)) (by first | omega | (have hi := index_rng k s; have h1 : List.length ([k] : List UInt8) = 1 := rfl; omega)))), (show 0 ≤ (Go.Lib.indexByte s k) + (List.length ([k] : List UInt8) : Int) from (by first | omega | (have hi := index_rng k s; have h1 : List.length ([k] : List UInt8) = 1 := rfl; omega))), (show (Go.Lib.indexByte s k) + (List.length ([k] : List UInt8) : Int) ≤ List.length s from (by first | omega | (have hi := index_rng k s; have h1 : List.length ([k] : List UInt8) = 1 := rfl; omega)))⟩ ?_
  exact gT (AV.tup [tc (st (List.take (Go.Lib.indexByte s k).toNat s)), tc (st (List.drop ((Go.Lib.indexByte s k) + (List.length ([k] : List UInt8) : Int)).toNat s)), tc (bo true)]) (by rw [show cutAt k s = (List.take (Go.Lib.indexByte s k).toNat s, List.drop ((Go.Lib.indexByte s k) + (List.length ([k] : List UInt8) : Int)).toNat s, true) from by unfold cutAt; first | (rw [if_pos (by assumption), show (Go.Lib.indexByte s k + (List.length ([k] : List UInt8) : Int)).toNat = (Go.Lib.indexByte s k).toNat + 1 by simp only [List.length_cons, List.length_nil]; omega]; done) | (rw [if_neg (by assumption)])])
 ·
  refine AMx.skip ?_
  refine gS [] [] 23 [(4, vc (st s)), (5, vc (st [])), (6, vc (bo false))] [] trivial ?_
  exact gT (AV.tup [tc (st s), tc (st []), tc (bo false)]) (by rw [show cutAt k s = (s, [], false) from by unfold cutAt; first | (rw [if_pos (by assumption), show (Go.Lib.indexByte s k + (List.length ([k] : List UInt8) : Int)).toNat = (Go.Lib.indexByte s k).toNat + 1 by simp only [List.length_cons, List.length_nil]; omega]; done) | (rw [if_neg (by assumption)])])
theorem f95_body : Tryz.f95.body = some (.seq (.region 0 (rg Tryz.f95 0) false) (.seq (.region 1 (rg Tryz.f95 1) false) (.ret))) := by kernel_rfl
set_option maxRecDepth 100000 in
set_option maxHeartbeats 8000000 in
theorem Cut_c (k : UInt8) (s : Bytes) : Pure Tryz.prog 95 [tc (st s), tc (st [k])] (AV.tup [tc (st ((cutAt k s).1)), tc (st ((cutAt k s).2.1)), tc (bo ((cutAt k s).2.2))]) := by
 refine Pure.of_body Tryz.func95 f95_body (by kernel_rfl) Tryz.ntmps95 (by kernel_rfl) (by kernel_rfl) ?_
 refine AMx.str 0 (b := s) rfl (fun hl => ?_)
 simp only [maxLen] at hl
 refine gS [] [] 13 [(0, vc (st s)), (1, vc (st [k]))] [] trivial ?_
 refine gS [(2, CE.call [] [] (AV.tup [tc (st ((AL.Sep.cutAt k s).1)), tc (st ((AL.Sep.cutAt k s).2.1)), tc (bo ((AL.Sep.cutAt k s).2.2))]) [])] [Spec Tryz.prog 128 [tc (st s), tc (st [k])] (ofH []) (AV.tup [tc (st ((AL.Sep.cutAt k s).1)), tc (st ((AL.Sep.cutAt k s).2.1)), tc (bo ((AL.Sep.cutAt k s).2.2))]) (ofH [])] 13 [(4, vc (st ((AL.Sep.cutAt k s).1))), (5, vc (st ((AL.Sep.cutAt k s).2.1))), (6, vc (bo ((AL.Sep.cutAt k s).2.2)))] [] (AL.Sep.LCut_c k s) ?_
 exact gT (AV.tup [tc (st ((AL.Sep.cutAt k s).1)), tc (st ((AL.Sep.cutAt k s).2.1)), tc (bo ((AL.Sep.cutAt k s).2.2))]) rfl
end AL.Sep
namespace AL.Under
open Go Go.Proofs AL AL.Fnv
set_option linter.unusedVariables false
set_option linter.unusedSimpArgs false
theorem f119_body : Tryz.f119.body = some (.seq (.region 0 (rg Tryz.f119 0) false) (.seq (.seq (.region 1 (rg Tryz.f119 1) false) (.cond (.tmp 10) (.seq (.region 2 (rg Tryz.f119 2) false) (.ret)) (.skip))) (.seq (.seq (.region 3 (rg Tryz.f119 3) false) (.block 0 (.loop (.seq (.seq (.region 4 (rg Tryz.f119 4) false) (.cond (.tmp 14) (.skip) (.exit 0))) (.seq (.block 1 (.seq (.region 6 (rg Tryz.f119 6) true) (.cond (.tmp 23) (.seq (.region 7 (rg Tryz.f119 7) false) (.ret)) (.skip)))) (.region 5 (rg Tryz.f119 5) false)))))) (.seq (.region 8 (rg Tryz.f119 8) false) (.ret))))) := by kernel_rfl
set_option maxRecDepth 100000 in
set_option maxHeartbeats 8000000 in
theorem RBegins_c (s t : Bytes) : Pure Tryz.prog 119 [tc (st s), tc (st t)] (vc (bo (hasP s t))) := by
 refine Pure.of_body Tryz.func119 f119_body (by kernel_rfl) Tryz.ntmps119 (by kernel_rfl) (by kernel_rfl) ?_
 refine AMx.str 0 (b := s) rfl (fun hls => ?_)
 simp only [maxLen] at hls
 refine AMx.str 1 (b := t) rfl (fun hlt => ?_)
 simp only [maxLen] at hlt
 refine gS [] [] 24 [(0, vc (st s)), (1, vc (st t))] [] trivial ?_
 refine gQ ?_
 refine gS [] [] 24 [(0, vc (st s)), (1, vc (st t)), (10, vc (bo (decide ((List.length s : Int) < (List.length t : Int)))))] [] trivial ?_
 refine gC ((List.length s : Int) < (List.length t : Int)) (fun hc1 => ?_) fun hc1 => ?_
 ·
  refine gS [] [] 24 [(4, vc (bo false))] [] trivial ?_
  exact gT (vc (bo false)) (by first | rw [hasP_long (by omega)] | rw [hasP_ne (i := k) (by omega) (by assumption)])
 ·
  refine AMx.skip ?_
  refine gQ ?_
  refine gS [] [] 24 [(0, vc (st s)), (1, vc (st t)), (5, vc (i6 0))] [] trivial ?_
  refine AMx.block ?_
  refine AMx.ent (s' := AS.lst 24 [(0, vc (st s)), (1, vc (st t)), (5, vc (i6 0))] []) (ent_proj [0, 1, 5] []) ?_
  refine AMx.loop (fun mm ss => ∃ (k : Nat), (k ≤ t.length ∧ t.length ≤ s.length ∧ List.take k s = List.take k t) ∧ mm = t.length - k ∧ ss = AS.lst 24 [(0, vc (st s)), (1, vc (st t)), (5, vc (i6 (k : Int)))] []) ⟨0, ?_, rfl, ?_⟩ ?_
  · exact ⟨by omega, by omega, rfl⟩
  · rfl
  rintro mm ss ⟨k, ⟨hI, hS, hE⟩, rfl, rfl⟩
  refine gQ ?_
  refine gS [] [] 24 [(0, vc (st s)), (1, vc (st t)), (5, vc (i6 (k : Int))), (14, vc (bo (decide ((k : Int) < (List.length t : Int)))))] [] trivial ?_
  refine gC ((k : Int) < (List.length t : Int)) (fun hc2 => ?_) fun hc2 => ?_
  ·
   refine AMx.skip ?_
   refine gQ ?_
   refine AMx.block ?_
   refine gY [] [] [(0 : Int) ≤ (k : Int), (k : Int) < List.length s, (0 : Int) ≤ (k : Int), (k : Int) < List.length t] 24 [(0, vc (st s)), (1, vc (st t)), (5, vc (i6 (k : Int))), (23, vc (bo (!decide (((List.getD s k 0).toNat : Int) = ((List.getD t k 0).toNat : Int)))))] [] mixed ⟨(show (0 : Int) ≤ (k : Int) from (by omega)), (show (k : Int) < List.length s from (by omega)), (show (0 : Int) ≤ (k : Int) from (by omega)), (show (k : Int) < List.length t from (by omega))⟩ ?_
   refine gN (((List.getD s k 0).toNat : Int) = ((List.getD t k 0).toNat : Int)) (fun hc3 => ?_) fun hc3 => ?_
   ·
    refine gS [] [] 24 [(4, vc (bo false))] [] trivial ?_
    exact gT (vc (bo false)) (by first | rw [hasP_long (by omega)] | rw [hasP_ne (i := k) (by omega) (by assumption)])
   ·
    refine AMx.skip ?_
    refine AMx.blk ?_
    refine gR [] [InR .i64 ((k : Int) + 1)] 24 [(0, vc (st s)), (1, vc (st t)), (5, vc (i6 ((k : Int) + 1)))] [] (show InR .i64 ((k : Int) + 1) from (inR64 (by omega) (by omega))) ?_
    refine AMx.ent_inv (s' := AS.lst 24 [(0, vc (st s)), (1, vc (st t)), (5, vc (i6 ((k : Int) + 1)))] []) (ent_proj [0, 1, 5] []) ?_
    refine AMx.inv ⟨_, ?_, k + 1, ?_, rfl, ?_⟩
    rotate_left
    · exact ⟨by omega, by omega, take_byte (by omega) (by omega) hE (by assumption)⟩
    · rfl
    · omega
  ·
   refine AMx.exit ?_
   refine AMx.code_exit ?_
   refine AMx.inv_exit ?_
   refine AMx.blk_exit ?_
   refine gS [] [] 24 [(4, vc (bo true))] [] trivial ?_
   exact gT (vc (bo true)) (by rw [hasP_end (by omega) hS hE])
theorem f85_body : Tryz.f85.body = some (.seq (.region 0 (rg Tryz.f85 0) false) (.seq (.region 1 (rg Tryz.f85 1) false) (.ret))) := by kernel_rfl
set_option maxRecDepth 100000 in
set_option maxHeartbeats 8000000 in
theorem RWithin_c (s top : Bytes) (hb : top.length ≤ 100000) : Pure Tryz.prog 85 [tc (st s), tc (st top)] (vc (bo (withinS s top))) := by
 refine Pure.of_body Tryz.func85 f85_body (by kernel_rfl) Tryz.ntmps85 (by kernel_rfl) (by kernel_rfl) ?_
 refine gS [] [] 18 [(0, vc (st s)), (1, vc (st top))] [] trivial ?_
 refine gS [(11, CE.call [] [] (vc (bo (hasP s (top ++ [47])))) [])] [((decide (top = [])) = false) → allP [], ((decide (top = [])) = false) → allP [], ((decide (top = [])) = false) → allP [(decide (top = [])) = false, (decide (top = [])) = false], (decide (top = [])) = false → allP [(decide (top = [])) = false], (((decide (top = [])) || (decide (s = top))) = false) → allP [], (((decide (top = [])) || (decide (s = top))) = false) → allP [], (((decide (top = [])) || (decide (s = top))) = false) → allP [((decide (top = [])) || (decide (s = top))) = false, List.length top + List.length ([47] : List UInt8) ≤ maxLen], (((decide (top = [])) || (decide (s = top))) = false) → allP [((decide (top = [])) || (decide (s = top))) = false, ((decide (top = [])) || (decide (s = top))) = false, Spec Tryz.prog 119 [tc (st s), tc (st (top ++ [47]))] (ofH []) (vc (bo (hasP s (top ++ [47])))) (ofH [])], ((decide (top = [])) || (decide (s = top))) = false → allP [((decide (top = [])) || (decide (s = top))) = false]] 18 [(4, vc (bo (((decide (top = [])) || (decide (s = top))) || (hasP s (top ++ [47])))))] [] ⟨(fun _ => trivial), (fun _ => trivial), (fun hp => ⟨hp, hp⟩), (fun hp2 => (by first | exact hp2 | exact ⟨hp, hp2⟩)), (fun _ => trivial), (fun _ => trivial), (fun hp => by have hq := hp; (try simp only [decide_eq_true_eq, decide_eq_false_iff_not, Bool.and_eq_true, Bool.or_eq_true, Bool.and_eq_false_iff, Bool.or_eq_false_iff, Bool.not_eq_true', Bool.not_eq_false', Bool.not_eq_true, Bool.not_eq_false] at hq); exact ⟨hp, (show List.length top + List.length ([47] : List UInt8) ≤ maxLen from (by simp only [List.length_append, List.length_cons, List.length_nil, maxLen]; omega))⟩), (fun hp => by have hq := hp; (try simp only [decide_eq_true_eq, decide_eq_false_iff_not, Bool.and_eq_true, Bool.or_eq_true, Bool.and_eq_false_iff, Bool.or_eq_false_iff, Bool.not_eq_true', Bool.not_eq_false', Bool.not_eq_true, Bool.not_eq_false] at hq); exact ⟨hp, hp, (RBegins_c s (top ++ [47]))⟩), (fun hp2 => (by first | exact hp2 | exact ⟨hp, hp2⟩))⟩ ?_
 exact gT (vc (bo (((decide (top = [])) || (decide (s = top))) || (hasP s (top ++ [47]))))) (by rw [within_ref])
end AL.Under
namespace AL.Policy
open Go Go.Proofs AL AL.Rune
set_option linter.unusedVariables false
set_option linter.unusedSimpArgs false
theorem f102_body : Tryz.f102.body = some (.seq (.region 0 (rg Tryz.f102 0) false) (.seq (.region 1 (rg Tryz.f102 1) false) (.ret))) := by kernel_rfl
set_option maxRecDepth 100000 in
set_option maxHeartbeats 8000000 in
theorem same_c (x : RuleV) (p : Bytes) (n : Int) : Pure Tryz.prog 102 [TV.agg [.s (st x.1), .s (u8 x.2)], tc (SC.ref 2 (rl [st p, u8 n]))] (vc (bo (decide (x.1 = p)))) := by
 refine Pure.of_body Tryz.func102 f102_body (by kernel_rfl) Tryz.ntmps102 (by kernel_rfl) (by kernel_rfl) ?_
 refine gS [] [] 9 [(1, vc (SC.ref 2 (rl [st p, u8 n]))), (2, vp 2 0)] [(2, AObj.row [.s (st x.1), .s (u8 x.2)])] trivial ?_
 refine gS [] [] 9 [(3, vc (bo (decide (x.1 = p))))] [] trivial ?_
 exact gT (vc (bo (decide (x.1 = p)))) rfl
theorem f132_body : Tryz.f132.body = some (.seq (.region 0 (rg Tryz.f132 0) false) (.seq (.seq (.region 1 (rg Tryz.f132 1) false) (.block 0 (.loop (.seq (.region 2 (rg Tryz.f132 2) false) (.seq (.cond (.tmp 9) (.skip) (.exit 0)) (.seq (.block 1 (.seq (.region 3 (rg Tryz.f132 3) false) (.seq (.region 4 (rg Tryz.f132 4) false) (.cond (.tmp 16) (.seq (.region 5 (rg Tryz.f132 5) false) (.ret)) (.skip))))) (.region 6 (rg Tryz.f132 6) false))))))) (.seq (.region 7 (rg Tryz.f132 7) false) (.ret)))) := by kernel_rfl
set_option maxRecDepth 100000 in
set_option maxHeartbeats 8000000 in
theorem Index_c (f : FuncId) (caps : List Cap) (p : RuleV → Bool) (hf : ∀ x : RuleV, Pure Tryz.prog f ([TV.agg [.s (st x.1), .s (u8 x.2)]] ++ List.map capT caps) (vc (bo (p x)))) (l : List RuleV) : Pure Tryz.prog 132 [tc (slP l), TV.c (.fn f caps)] (vc (i6 (Lib.idxS p l))) := by
 refine Pure.of_body Tryz.func132 f132_body (by kernel_rfl) Tryz.ntmps132 (by kernel_rfl) (by kernel_rfl) ?_
 refine AMx.sl 0 (l := l) rfl (fun hl => ?_)
 simp only [maxLen] at hl
 refine gS [] [] 19 [(0, vc (slP l)), (1, AV.t (TV.c (.fn f caps)))] [] trivial ?_
 refine gQ ?_
 refine gS [] [] 19 [(0, vc (slP l)), (1, AV.t (TV.c (.fn f caps))), (7, vc (i6 (List.length l : Int))), (8, vc (i6 0))] [] trivial ?_
 refine AMx.block ?_
 refine AMx.ent (s' := AS.lst 19 [(0, vc (slP l)), (1, AV.t (TV.c (.fn f caps))), (7, vc (i6 (List.length l : Int))), (8, vc (i6 0))] []) (ent_proj [0, 1, 7, 8] []) ?_
 refine AMx.loop (fun mm ss => ∃ (k : Nat), (k ≤ l.length ∧ ∀ x ∈ List.take k l, p x = false) ∧ mm = l.length - k ∧ ss = AS.lst 19 [(0, vc (slP l)), (1, AV.t (TV.c (.fn f caps))), (7, vc (i6 (List.length l : Int))), (8, vc (i6 (k : Int)))] []) ⟨0, ?_, rfl, ?_⟩ ?_
 · exact ⟨by omega, fun x hx => by simp at hx⟩
 · rfl
 rintro mm ss ⟨k, ⟨hI, hN⟩, rfl, rfl⟩
 refine gS [] [] 19 [(0, vc (slP l)), (1, AV.t (TV.c (.fn f caps))), (7, vc (i6 (List.length l : Int))), (8, vc (i6 (k : Int))), (9, vc (bo (decide ((k : Int) < (List.length l : Int)))))] [] trivial ?_
 refine gQ ?_
 refine gC ((k : Int) < (List.length l : Int)) (fun hc1 => ?_) fun hc1 => ?_
 ·
  refine AMx.skip ?_
  refine gQ ?_
  refine AMx.block ?_
  refine gS [] [] 19 [(0, vc (slP l)), (1, AV.t (TV.c (.fn f caps))), (5, vc (i6 (k : Int))), (7, vc (i6 (List.length l : Int))), (8, vc (i6 (k : Int)))] [] trivial ?_
  refine gS [(5, CE.call [] [] (vc (bo (p (List.getD l k ([], 0))))) [])] [(0 : Int) ≤ (k : Int), (k : Int) < List.length l, Spec Tryz.prog f ([TV.agg [.s (st ((List.getD l k ([], 0)).1)), .s (u8 ((List.getD l k ([], 0)).2))]] ++ List.map capT caps) (ofH []) (vc (bo (p (List.getD l k ([], 0))))) (ofH [])] 19 [(0, vc (slP l)), (1, AV.t (TV.c (.fn f caps))), (5, vc (i6 (k : Int))), (7, vc (i6 (List.length l : Int))), (8, vc (i6 (k : Int))), (16, vc (bo (p (List.getD l k ([], 0)))))] [] ⟨(show (0 : Int) ≤ (k : Int) from (by omega)), (show (k : Int) < List.length l from (by omega)), (hf (List.getD l k ([], 0)))⟩ ?_
  refine gB (p (List.getD l k ([], 0))) (fun hc2 => ?_) fun hc2 => ?_
  ·
   try simp only [xT, xF] at hc2
   refine gS [] [] 19 [(4, vc (i6 (k : Int)))] [] trivial ?_
   exact gT (vc (i6 (k : Int))) (by rw [Lib.idx_hit ([], 0) l k (by omega) hN (by assumption)])
  ·
   try simp only [xT, xF] at hc2
   refine AMx.skip ?_
   refine AMx.blk ?_
   refine gR [] [InR .i64 ((k : Int) + 1)] 19 [(0, vc (slP l)), (1, AV.t (TV.c (.fn f caps))), (7, vc (i6 (List.length l : Int))), (8, vc (i6 ((k : Int) + 1)))] [] (show InR .i64 ((k : Int) + 1) from (inR64 (by omega) (by omega))) ?_
   refine AMx.ent_inv (s' := AS.lst 19 [(0, vc (slP l)), (1, AV.t (TV.c (.fn f caps))), (7, vc (i6 (List.length l : Int))), (8, vc (i6 ((k : Int) + 1)))] []) (ent_proj [0, 1, 7, 8] []) ?_
   refine AMx.inv ⟨_, ?_, k + 1, ?_, rfl, ?_⟩
   rotate_left
   · exact ⟨by omega, Lib.all_step ([], 0) l k (by omega) hN (by assumption)⟩
   · rfl
   · omega
 ·
  refine AMx.exit ?_
  refine AMx.code_exit ?_
  refine AMx.inv_exit ?_
  refine AMx.blk_exit ?_
  refine gS [] [] 19 [(4, vc (i6 (-1)))] [] trivial ?_
  exact gT (vc (i6 (-1))) (by rw [Lib.idx_none (fun x hx => hN x (by rwa [List.take_of_length_le (by omega)]))])
theorem f101_body : Tryz.f101.body = some (.seq (.region 0 (rg Tryz.f101 0) false) (.seq (.region 1 (rg Tryz.f101 1) false) (.ret))) := by kernel_rfl
set_option maxRecDepth 100000 in
set_option maxHeartbeats 8000000 in
theorem Contains_c (f : FuncId) (caps : List Cap) (p : RuleV → Bool) (hf : ∀ x : RuleV, Pure Tryz.prog f ([TV.agg [.s (st x.1), .s (u8 x.2)]] ++ List.map capT caps) (vc (bo (p x)))) (l : List RuleV) : Pure Tryz.prog 101 [tc (slP l), TV.c (.fn f caps)] (vc (bo (decide (0 ≤ Lib.idxS p l)))) := by
 refine Pure.of_body Tryz.func101 f101_body (by kernel_rfl) Tryz.ntmps101 (by kernel_rfl) (by kernel_rfl) ?_
 refine gS [] [] 9 [(0, vc (slP l)), (1, AV.t (TV.c (.fn f caps)))] [] trivial ?_
 refine gS [(2, CE.call [] [] (vc (i6 (Lib.idxS p l))) [])] [Spec Tryz.prog 132 [tc (slP l), TV.c (.fn f caps)] (ofH []) (vc (i6 (Lib.idxS p l))) (ofH [])] 9 [(4, vc (bo (decide (0 ≤ Lib.idxS p l))))] [] (Index_c f caps p hf l) ?_
 exact gT (vc (bo (decide (0 ≤ Lib.idxS p l)))) rfl
theorem f73_body : Tryz.f73.body = some (.seq (.region 0 (rg Tryz.f73 0) false) (.seq (.seq (.region 1 (rg Tryz.f73 1) false) (.cond (.tmp 8) (.seq (.region 2 (rg Tryz.f73 2) false) (.seq (.region 3 (rg Tryz.f73 3) false) (.cond (.tmp 13) (.seq (.region 4 (rg Tryz.f73 4) false) (.ret)) (.skip)))) (.skip))) (.seq (.seq (.region 5 (rg Tryz.f73 5) false) (.cond (.tmp 17) (.seq (.region 6 (rg Tryz.f73 6) false) (.ret)) (.skip))) (.seq (.seq (.region 7 (rg Tryz.f73 7) false) (.cond (.tmp 20) (.seq (.region 8 (rg Tryz.f73 8) false) (.ret)) (.skip))) (.seq (.region 9 (rg Tryz.f73 9) false) (.ret)))))) := by kernel_rfl
set_option maxRecDepth 100000 in
set_option maxHeartbeats 8000000 in
theorem check1_c (z : RuleV) (ahead : List RuleV) : Pure Tryz.prog 73 [TV.agg [.s (st z.1), .s (u8 z.2)], tc (slP ahead)] (vc (i6 (oneC ahead z))) := by
 refine Pure.of_body Tryz.func73 f73_body (by kernel_rfl) Tryz.ntmps73 (by kernel_rfl) (by kernel_rfl) ?_
 refine gS [] [] 21 [(1, vc (slP ahead)), (2, vp 2 0)] [(2, AObj.row [.s (st z.1), .s (u8 z.2)])] trivial ?_
 refine gQ ?_
 refine gS [] [] 21 [(1, vc (slP ahead)), (2, vp 2 0), (8, vc (bo (!decide (z.1 = []))))] [(2, AObj.row [.s (st z.1), .s (u8 z.2)])] trivial ?_
 refine gN (z.1 = []) (fun hc1 => ?_) fun hc1 => ?_
 ·
  refine gS [(2, CE.call [] [] (vc (i6 (Route.checkS z.1))) [])] [Spec Tryz.prog 99 [tc (st z.1)] (ofH []) (vc (i6 (Route.checkS z.1))) (ofH [])] 21 [(1, vc (slP ahead)), (2, vp 2 0), (5, vc (i6 (Route.checkS z.1)))] [(2, AObj.row [.s (st z.1), .s (u8 z.2)])] (Route.Check_c z.1) ?_
  refine gS [] [] 21 [(1, vc (slP ahead)), (2, vp 2 0), (5, vc (i6 (Route.checkS z.1))), (13, vc (bo (!decide (Route.checkS z.1 = 0))))] [(2, AObj.row [.s (st z.1), .s (u8 z.2)])] trivial ?_
  refine gN (Route.checkS z.1 = 0) (fun hc2 => ?_) fun hc2 => ?_
  ·
   refine gS [] [] 21 [(4, vc (i6 (Route.checkS z.1)))] [] trivial ?_
   exact gT (vc (i6 (Route.checkS z.1))) (by rw [show oneC ahead z = Route.checkS z.1 from by unfold oneC; rw [← there_idx] <;> grind])
  ·
   refine AMx.skip ?_
   refine gQ ?_
   refine gS [] [] 21 [(1, vc (slP ahead)), (2, vp 2 0), (17, vc (bo (decide (63 < z.2))))] [(2, AObj.row [.s (st z.1), .s (u8 z.2)])] trivial ?_
   refine gC (63 < z.2) (fun hc3 => ?_) fun hc3 => ?_
   ·
    refine gS [] [] 21 [(4, vc (i6 2))] [] trivial ?_
    exact gT (vc (i6 2)) (by rw [show oneC ahead z = 2 from by unfold oneC; rw [← there_idx] <;> grind])
   ·
    refine AMx.skip ?_
    refine gQ ?_
    refine gS [(2, CE.call [2] [] (vc (bo (decide (0 ≤ Lib.idxS (fun x : RuleV => decide (x.1 = z.1)) ahead)))) [])] [Spec Tryz.prog 101 [tc (slP ahead), TV.c (.fn 102 [.s (SC.ref 2 (rl [st z.1, u8 z.2]))])] (ofH []) (vc (bo (decide (0 ≤ Lib.idxS (fun x : RuleV => decide (x.1 = z.1)) ahead)))) (ofH [])] 21 [(20, vc (bo (decide (0 ≤ Lib.idxS (fun x : RuleV => decide (x.1 = z.1)) ahead))))] [] (Contains_c 102 [.s (SC.ref 2 (rl [st z.1, u8 z.2]))] (fun x : RuleV => decide (x.1 = z.1)) (fun x => same_c x z.1 z.2) ahead) ?_
    refine gC (0 ≤ Lib.idxS (fun x : RuleV => decide (x.1 = z.1)) ahead) (fun hc4 => ?_) fun hc4 => ?_
    ·
     refine gS [] [] 21 [(4, vc (i6 20))] [] trivial ?_
     exact gT (vc (i6 20)) (by rw [show oneC ahead z = 20 from by unfold oneC; rw [← there_idx] <;> grind])
    ·
     refine AMx.skip ?_
     refine gS [] [] 21 [(4, vc (i6 0))] [] trivial ?_
     exact gT (vc (i6 0)) (by rw [show oneC ahead z = 0 from by unfold oneC; rw [← there_idx] <;> grind])
 ·
  refine AMx.skip ?_
  refine gQ ?_
  refine gS [] [] 21 [(1, vc (slP ahead)), (2, vp 2 0), (17, vc (bo (decide (63 < z.2))))] [(2, AObj.row [.s (st z.1), .s (u8 z.2)])] trivial ?_
  refine gC (63 < z.2) (fun hc5 => ?_) fun hc5 => ?_
  ·
   refine gS [] [] 21 [(4, vc (i6 2))] [] trivial ?_
   exact gT (vc (i6 2)) (by rw [show oneC ahead z = 2 from by unfold oneC; rw [← there_idx] <;> grind])
  ·
   refine AMx.skip ?_
   refine gQ ?_
   refine gS [(2, CE.call [2] [] (vc (bo (decide (0 ≤ Lib.idxS (fun x : RuleV => decide (x.1 = z.1)) ahead)))) [])] [Spec Tryz.prog 101 [tc (slP ahead), TV.c (.fn 102 [.s (SC.ref 2 (rl [st z.1, u8 z.2]))])] (ofH []) (vc (bo (decide (0 ≤ Lib.idxS (fun x : RuleV => decide (x.1 = z.1)) ahead)))) (ofH [])] 21 [(20, vc (bo (decide (0 ≤ Lib.idxS (fun x : RuleV => decide (x.1 = z.1)) ahead))))] [] (Contains_c 102 [.s (SC.ref 2 (rl [st z.1, u8 z.2]))] (fun x : RuleV => decide (x.1 = z.1)) (fun x => same_c x z.1 z.2) ahead) ?_
   refine gC (0 ≤ Lib.idxS (fun x : RuleV => decide (x.1 = z.1)) ahead) (fun hc6 => ?_) fun hc6 => ?_
   ·
    refine gS [] [] 21 [(4, vc (i6 20))] [] trivial ?_
    exact gT (vc (i6 20)) (by rw [show oneC ahead z = 20 from by unfold oneC; rw [← there_idx] <;> grind])
   ·
    refine AMx.skip ?_
    refine gS [] [] 21 [(4, vc (i6 0))] [] trivial ?_
    exact gT (vc (i6 0)) (by rw [show oneC ahead z = 0 from by unfold oneC; rw [← there_idx] <;> grind])
theorem f41_body : Tryz.f41.body = some (.seq (.region 0 (rg Tryz.f41 0) false) (.seq (.seq (.region 1 (rg Tryz.f41 1) false) (.cond (.tmp 8) (.seq (.region 2 (rg Tryz.f41 2) false) (.ret)) (.skip))) (.seq (.seq (.region 3 (rg Tryz.f41 3) false) (.block 0 (.loop (.seq (.region 4 (rg Tryz.f41 4) false) (.seq (.cond (.tmp 12) (.skip) (.exit 0)) (.seq (.block 1 (.seq (.region 5 (rg Tryz.f41 5) false) (.seq (.region 6 (rg Tryz.f41 6) true) (.seq (.region 7 (rg Tryz.f41 7) false) (.cond (.tmp 22) (.seq (.region 8 (rg Tryz.f41 8) false) (.ret)) (.skip)))))) (.region 9 (rg Tryz.f41 9) false))))))) (.seq (.region 10 (rg Tryz.f41 10) false) (.ret))))) := by kernel_rfl
set_option maxRecDepth 100000 in
set_option maxHeartbeats 8000000 in
theorem Check_c (l : List RuleV) : Pure Tryz.prog 41 [tc (slP l)] (vc (i6 (checkP l))) := by
 refine Pure.of_body Tryz.func41 f41_body (by kernel_rfl) Tryz.ntmps41 (by kernel_rfl) (by kernel_rfl) ?_
 refine AMx.sl 0 (l := l) rfl (fun hl => ?_)
 simp only [maxLen] at hl
 refine gS [] [] 25 [(0, vc (slP l))] [] trivial ?_
 refine gQ ?_
 refine gS [] [] 25 [(0, vc (slP l)), (8, vc (bo (decide (4 < (List.length l : Int)))))] [] trivial ?_
 refine gC (4 < (List.length l : Int)) (fun hc1 => ?_) fun hc1 => ?_
 ·
  refine gS [] [] 25 [(2, vc (i6 24))] [] trivial ?_
  exact gT (vc (i6 24)) (by rw [show checkP l = 24 from by first | exact chk_many (by omega) | exact chk_bad (by omega) (by omega) hN (by assumption) | exact chk_end (by omega) (by omega) hN])
 ·
  refine AMx.skip ?_
  refine gQ ?_
  refine gS [] [] 25 [(0, vc (slP l)), (9, vc (slP l)), (10, vc (i6 (List.length l : Int))), (11, vc (i6 0))] [] trivial ?_
  refine AMx.block ?_
  refine AMx.ent (s' := AS.lst 25 [(0, vc (slP l)), (9, vc (slP l)), (10, vc (i6 (List.length l : Int))), (11, vc (i6 0))] []) (ent_proj [0, 9, 10, 11] []) ?_
  refine AMx.loop (fun mm ss => ∃ (k : Nat), (k ≤ l.length ∧ ChkAt l k) ∧ mm = l.length - k ∧ ss = AS.lst 25 [(0, vc (slP l)), (9, vc (slP l)), (10, vc (i6 (List.length l : Int))), (11, vc (i6 (k : Int)))] []) ⟨0, ?_, rfl, ?_⟩ ?_
  · exact ⟨Nat.zero_le _, chk_0 l⟩
  · rfl
  rintro mm ss ⟨k, ⟨hI, hN⟩, rfl, rfl⟩
  refine gS [] [] 25 [(0, vc (slP l)), (9, vc (slP l)), (10, vc (i6 (List.length l : Int))), (11, vc (i6 (k : Int))), (12, vc (bo (decide ((k : Int) < (List.length l : Int)))))] [] trivial ?_
  refine gQ ?_
  refine gC ((k : Int) < (List.length l : Int)) (fun hc2 => ?_) fun hc2 => ?_
  ·
   refine AMx.skip ?_
   refine gQ ?_
   refine AMx.block ?_
   refine gS [] [(0 : Int) ≤ (k : Int), (k : Int) < List.length l] 25 [(0, vc (slP l)), (3, vc (i6 (k : Int))), (4, vp 4 0), (9, vc (slP l)), (10, vc (i6 (List.length l : Int))), (11, vc (i6 (k : Int)))] [(4, AObj.row [.s (st ((List.getD l k ([], 0)).1)), .s (u8 ((List.getD l k ([], 0)).2))])] ⟨(show (0 : Int) ≤ (k : Int) from (by omega)), (show (k : Int) < List.length l from (by omega))⟩ ?_
   refine gY [(4, CE.call [] [] (vc (i6 (oneC (List.take k l) (List.getD l k ([], 0))))) [])] [(0, [4])] [0 ≤ (k : Int), (k : Int) ≤ List.length l, Spec Tryz.prog 73 [TV.agg [.s (st ((List.getD l k ([], 0)).1)), .s (u8 ((List.getD l k ([], 0)).2))], tc (slP (List.take k l))] (ofH []) (vc (i6 (oneC (List.take k l) (List.getD l k ([], 0))))) (ofH [])] 25 [(0, vc (slP l)), (5, vc (i6 (oneC (List.take k l) (List.getD l k ([], 0))))), (9, vc (slP l)), (10, vc (i6 (List.length l : Int))), (11, vc (i6 (k : Int)))] [] mixed ⟨(show 0 ≤ (k : Int) from (by omega)), (show (k : Int) ≤ List.length l from (by omega)), (check1_c (List.getD l k ([], 0)) (List.take k l))⟩ ?_
   refine gS [] [] 25 [(0, vc (slP l)), (5, vc (i6 (oneC (List.take k l) (List.getD l k ([], 0))))), (9, vc (slP l)), (10, vc (i6 (List.length l : Int))), (11, vc (i6 (k : Int))), (22, vc (bo (!decide (oneC (List.take k l) (List.getD l k ([], 0)) = 0))))] [] trivial ?_
   refine gN (oneC (List.take k l) (List.getD l k ([], 0)) = 0) (fun hc3 => ?_) fun hc3 => ?_
   ·
    refine gS [] [] 25 [(2, vc (i6 (oneC (List.take k l) (List.getD l k ([], 0)))))] [] trivial ?_
    exact gT (vc (i6 (oneC (List.take k l) (List.getD l k ([], 0))))) (by rw [show checkP l = oneC (List.take k l) (List.getD l k ([], 0)) from by first | exact chk_many (by omega) | exact chk_bad (by omega) (by omega) hN (by assumption) | exact chk_end (by omega) (by omega) hN])
   ·
    refine AMx.skip ?_
    refine AMx.blk ?_
    refine gR [] [InR .i64 ((k : Int) + 1)] 25 [(0, vc (slP l)), (9, vc (slP l)), (10, vc (i6 (List.length l : Int))), (11, vc (i6 ((k : Int) + 1)))] [] (show InR .i64 ((k : Int) + 1) from (inR64 (by omega) (by omega))) ?_
    refine AMx.ent_inv (s' := AS.lst 25 [(0, vc (slP l)), (9, vc (slP l)), (10, vc (i6 (List.length l : Int))), (11, vc (i6 ((k : Int) + 1)))] []) (ent_proj [0, 9, 10, 11] []) ?_
    refine AMx.inv ⟨_, ?_, k + 1, ?_, rfl, ?_⟩
    rotate_left
    · exact ⟨by omega, chk_step (by omega) hN (by assumption)⟩
    · rfl
    · omega
  ·
   refine AMx.exit ?_
   refine AMx.code_exit ?_
   refine AMx.inv_exit ?_
   refine AMx.blk_exit ?_
   refine gS [] [] 25 [(2, vc (i6 0))] [] trivial ?_
   exact gT (vc (i6 0)) (by rw [show checkP l = 0 from by first | exact chk_many (by omega) | exact chk_bad (by omega) (by omega) hN (by assumption) | exact chk_end (by omega) (by omega) hN])
theorem f44_body : Tryz.f44.body = some (.seq (.region 0 (rg Tryz.f44 0) false) (.seq (.seq (.region 1 (rg Tryz.f44 1) false) (.cond (.tmp 7) (.seq (.region 2 (rg Tryz.f44 2) false) (.ret)) (.skip))) (.seq (.seq (.region 3 (rg Tryz.f44 3) false) (.block 0 (.loop (.seq (.seq (.region 4 (rg Tryz.f44 4) false) (.cond (.tmp 11) (.skip) (.exit 0))) (.seq (.block 1 (.seq (.seq (.region 6 (rg Tryz.f44 6) false) (.cond (.tmp 28) (.seq (.region 7 (rg Tryz.f44 7) false) (.ret)) (.skip))) (.seq (.seq (.region 8 (rg Tryz.f44 8) false) (.cond (.tmp 40) (.seq (.region 9 (rg Tryz.f44 9) false) (.ret)) (.skip))) (.seq (.region 10 (rg Tryz.f44 10) false) (.block 2 (.loop (.seq (.seq (.region 11 (rg Tryz.f44 11) false) (.cond (.tmp 43) (.skip) (.exit 2))) (.seq (.block 3 (.seq (.region 13 (rg Tryz.f44 13) true) (.cond (.tmp 56) (.seq (.region 14 (rg Tryz.f44 14) false) (.ret)) (.skip)))) (.region 12 (rg Tryz.f44 12) false))))))))) (.region 5 (rg Tryz.f44 5) false)))))) (.seq (.region 15 (rg Tryz.f44 15) false) (.ret))))) := by kernel_rfl
set_option maxRecDepth 100000 in
set_option maxHeartbeats 8000000 in
theorem RCheck_c (l : List RuleV) : Pure Tryz.prog 44 [tc (slP l)] (vc (i6 (checkP l))) := by
 refine Pure.of_body Tryz.func44 f44_body (by kernel_rfl) Tryz.ntmps44 (by kernel_rfl) (by kernel_rfl) ?_
 refine AMx.sl 0 (l := l) rfl (fun hl => ?_)
 simp only [maxLen] at hl
 refine gS [] [] 57 [(0, vc (slP l))] [] trivial ?_
 refine gQ ?_
 refine gS [] [] 57 [(0, vc (slP l)), (7, vc (bo (decide (4 < (List.length l : Int)))))] [] trivial ?_
 refine gC (4 < (List.length l : Int)) (fun hc1 => ?_) fun hc1 => ?_
 ·
  refine gS [] [] 57 [(2, vc (i6 24))] [] trivial ?_
  exact gT (vc (i6 24)) (by rw [show checkP l = 24 from by first | exact chk_many (by omega) | exact chk_end (by omega) (by omega) hN | (have he : 24 = oneC (List.take i l) (List.getD l i ([], 0)) := (by unfold oneC; first | grind | (rw [there_hit (j := j) (by omega) (by omega) (by assumption)]; grind)); rw [he]; exact (chk_bad (by omega) (by omega) hN (by rw [← he]; first | assumption | grind | decide)))])
 ·
  refine AMx.skip ?_
  refine gQ ?_
  refine gS [] [] 57 [(0, vc (slP l)), (3, vc (i6 0))] [] trivial ?_
  refine AMx.block ?_
  refine AMx.ent (s' := AS.lst 57 [(0, vc (slP l)), (3, vc (i6 0))] []) (ent_proj [0, 3] []) ?_
  refine AMx.loop (fun mm ss => ∃ (i : Nat), (i ≤ l.length ∧ ChkAt l i) ∧ mm = l.length - i ∧ ss = AS.lst 57 [(0, vc (slP l)), (3, vc (i6 (i : Int)))] []) ⟨0, ?_, rfl, ?_⟩ ?_
  · exact ⟨Nat.zero_le _, chk_0 l⟩
  · rfl
  rintro mm ss ⟨i, ⟨hI, hN⟩, rfl, rfl⟩
  refine gQ ?_
  refine gS [] [] 57 [(0, vc (slP l)), (3, vc (i6 (i : Int))), (11, vc (bo (decide ((i : Int) < (List.length l : Int)))))] [] trivial ?_
  refine gC ((i : Int) < (List.length l : Int)) (fun hc2 => ?_) fun hc2 => ?_
  ·
   refine AMx.skip ?_
   refine gQ ?_
   refine AMx.block ?_
   refine gQ ?_
   refine gS [(12, CE.call [] [] (vc (i6 (Route.checkS ((List.getD l i ([], 0)).1)))) [])] [(0 : Int) ≤ (i : Int), (i : Int) < List.length l, ((!decide ((List.getD l i ([], 0)).1 = [])) = true) → allP [], ((!decide ((List.getD l i ([], 0)).1 = [])) = true) → allP [], ((!decide ((List.getD l i ([], 0)).1 = [])) = true) → allP [(!decide ((List.getD l i ([], 0)).1 = [])) = true, (!decide ((List.getD l i ([], 0)).1 = [])) = true, (0 : Int) ≤ (i : Int), (i : Int) < List.length l], ((!decide ((List.getD l i ([], 0)).1 = [])) = true) → allP [(!decide ((List.getD l i ([], 0)).1 = [])) = true], ((!decide ((List.getD l i ([], 0)).1 = [])) = true) → allP [(!decide ((List.getD l i ([], 0)).1 = [])) = true], ((!decide ((List.getD l i ([], 0)).1 = [])) = true) → allP [(!decide ((List.getD l i ([], 0)).1 = [])) = true, Spec Tryz.prog 74 [tc (st ((List.getD l i ([], 0)).1))] (ofH []) (vc (i6 (Route.checkS ((List.getD l i ([], 0)).1)))) (ofH [])], ((!decide ((List.getD l i ([], 0)).1 = [])) = true) → allP [(!decide ((List.getD l i ([], 0)).1 = [])) = true], (!decide ((List.getD l i ([], 0)).1 = [])) = true → allP [(!decide ((List.getD l i ([], 0)).1 = [])) = true]] 57 [(0, vc (slP l)), (3, vc (i6 (i : Int))), (28, vc (bo ((!decide ((List.getD l i ([], 0)).1 = [])) && (!decide (Route.checkS ((List.getD l i ([], 0)).1) = 0)))))] [] ⟨(show (0 : Int) ≤ (i : Int) from (by omega)), (show (i : Int) < List.length l from (by omega)), (fun _ => trivial), (fun _ => trivial), (fun hp => by have hq := hp; (try simp only [decide_eq_true_eq, decide_eq_false_iff_not, Bool.and_eq_true, Bool.or_eq_true, Bool.and_eq_false_iff, Bool.or_eq_false_iff, Bool.not_eq_true', Bool.not_eq_false', Bool.not_eq_true, Bool.not_eq_false] at hq); exact ⟨hp, hp, (show (0 : Int) ≤ (i : Int) from (by omega)), (show (i : Int) < List.length l from (by omega))⟩), (fun hp => hp), (fun hp => hp), (fun hp => by have hq := hp; (try simp only [decide_eq_true_eq, decide_eq_false_iff_not, Bool.and_eq_true, Bool.or_eq_true, Bool.and_eq_false_iff, Bool.or_eq_false_iff, Bool.not_eq_true', Bool.not_eq_false', Bool.not_eq_true, Bool.not_eq_false] at hq); exact ⟨hp, (Route.RCheck_c ((List.getD l i ([], 0)).1))⟩), (fun hp => hp), (fun hp2 => (by first | exact hp2 | exact ⟨hp, hp2⟩))⟩ ?_
   refine gB (((!decide ((List.getD l i ([], 0)).1 = [])) && (!decide (Route.checkS ((List.getD l i ([], 0)).1) = 0)))) (fun hc3 => ?_) fun hc3 => ?_
   ·
    try simp only [xT, xF, xA, xB, xN, xM] at hc3
    refine gS [(5, CE.call [] [] (vc (i6 (Route.checkS ((List.getD l i ([], 0)).1)))) [])] [(0 : Int) ≤ (i : Int), (i : Int) < List.length l, Spec Tryz.prog 74 [tc (st ((List.getD l i ([], 0)).1))] (ofH []) (vc (i6 (Route.checkS ((List.getD l i ([], 0)).1)))) (ofH [])] 57 [(2, vc (i6 (Route.checkS ((List.getD l i ([], 0)).1))))] [] ⟨(show (0 : Int) ≤ (i : Int) from (by omega)), (show (i : Int) < List.length l from (by omega)), (Route.RCheck_c ((List.getD l i ([], 0)).1))⟩ ?_
    exact gT (vc (i6 (Route.checkS ((List.getD l i ([], 0)).1)))) (by rw [show checkP l = Route.checkS ((List.getD l i ([], 0)).1) from by first | exact chk_many (by omega) | exact chk_end (by omega) (by omega) hN | (have he : Route.checkS ((List.getD l i ([], 0)).1) = oneC (List.take i l) (List.getD l i ([], 0)) := (by unfold oneC; first | grind | (rw [there_hit (j := j) (by omega) (by omega) (by assumption)]; grind)); rw [he]; exact (chk_bad (by omega) (by omega) hN (by rw [← he]; first | assumption | grind | decide)))])
   ·
    try simp only [xT, xF, xA, xB, xN, xM] at hc3
    refine AMx.skip ?_
    refine gQ ?_
    refine gS [] [(0 : Int) ≤ (i : Int), (i : Int) < List.length l] 57 [(0, vc (slP l)), (3, vc (i6 (i : Int))), (40, vc (bo (decide (63 < (List.getD l i ([], 0)).2))))] [] ⟨(show (0 : Int) ≤ (i : Int) from (by omega)), (show (i : Int) < List.length l from (by omega))⟩ ?_
    refine gC (63 < (List.getD l i ([], 0)).2) (fun hc4 => ?_) fun hc4 => ?_
    ·
     refine gS [] [] 57 [(2, vc (i6 2))] [] trivial ?_
     exact gT (vc (i6 2)) (by rw [show checkP l = 2 from by first | exact chk_many (by omega) | exact chk_end (by omega) (by omega) hN | (have he : 2 = oneC (List.take i l) (List.getD l i ([], 0)) := (by unfold oneC; first | grind | (rw [there_hit (j := j) (by omega) (by omega) (by assumption)]; grind)); rw [he]; exact (chk_bad (by omega) (by omega) hN (by rw [← he]; first | assumption | grind | decide)))])
    ·
     refine AMx.skip ?_
     refine gS [] [] 57 [(0, vc (slP l)), (3, vc (i6 (i : Int))), (4, vc (i6 0))] [] trivial ?_
     refine AMx.block ?_
     refine AMx.ent (s' := AS.lst 57 [(0, vc (slP l)), (3, vc (i6 (i : Int))), (4, vc (i6 0))] []) (ent_proj [0, 3, 4] []) ?_
     refine AMx.loop (fun mm ss => ∃ (j : Nat), (j ≤ i ∧ thereS (List.take j l) (List.getD l i ([], 0)).1 = false) ∧ mm = i - j ∧ ss = AS.lst 57 [(0, vc (slP l)), (3, vc (i6 (i : Int))), (4, vc (i6 (j : Int)))] []) ⟨0, ?_, rfl, ?_⟩ ?_
     · exact ⟨Nat.zero_le _, rfl⟩
     · rfl
     rintro mm ss ⟨j, ⟨hJ, hT⟩, rfl, rfl⟩
     refine gQ ?_
     refine gS [] [] 57 [(0, vc (slP l)), (3, vc (i6 (i : Int))), (4, vc (i6 (j : Int))), (43, vc (bo (decide ((j : Int) < (i : Int)))))] [] trivial ?_
     refine gC ((j : Int) < (i : Int)) (fun hc5 => ?_) fun hc5 => ?_
     ·
      refine AMx.skip ?_
      refine gQ ?_
      refine AMx.block ?_
      refine gY [] [] [(0 : Int) ≤ (j : Int), (j : Int) < List.length l, (0 : Int) ≤ (i : Int), (i : Int) < List.length l] 57 [(0, vc (slP l)), (3, vc (i6 (i : Int))), (4, vc (i6 (j : Int))), (56, vc (bo (decide ((List.getD l j ([], 0)).1 = (List.getD l i ([], 0)).1))))] [] mixed ⟨(show (0 : Int) ≤ (j : Int) from (by omega)), (show (j : Int) < List.length l from (by omega)), (show (0 : Int) ≤ (i : Int) from (by omega)), (show (i : Int) < List.length l from (by omega))⟩ ?_
      refine gC ((List.getD l j ([], 0)).1 = (List.getD l i ([], 0)).1) (fun hc6 => ?_) fun hc6 => ?_
      ·
       refine gS [] [] 57 [(2, vc (i6 20))] [] trivial ?_
       exact gT (vc (i6 20)) (by rw [show checkP l = 20 from by first | exact chk_many (by omega) | exact chk_end (by omega) (by omega) hN | (have he : 20 = oneC (List.take i l) (List.getD l i ([], 0)) := (by unfold oneC; first | grind | (rw [there_hit (j := j) (by omega) (by omega) (by assumption)]; grind)); rw [he]; exact (chk_bad (by omega) (by omega) hN (by rw [← he]; first | assumption | grind | decide)))])
      ·
       refine AMx.skip ?_
       refine AMx.blk ?_
       refine gR [] [InR .i64 ((j : Int) + 1)] 57 [(0, vc (slP l)), (3, vc (i6 (i : Int))), (4, vc (i6 ((j : Int) + 1)))] [] (show InR .i64 ((j : Int) + 1) from (inR64 (by omega) (by omega))) ?_
       refine AMx.ent_inv (s' := AS.lst 57 [(0, vc (slP l)), (3, vc (i6 (i : Int))), (4, vc (i6 ((j : Int) + 1)))] []) (ent_proj [0, 3, 4] []) ?_
       refine AMx.inv ⟨_, ?_, j + 1, ?_, rfl, ?_⟩
       rotate_left
       · exact ⟨by omega, there_step (by omega) hT (by assumption)⟩
       · rfl
       · omega
     ·
      refine AMx.exit ?_
      refine AMx.code_exit ?_
      refine AMx.inv_exit ?_
      refine AMx.blk_exit ?_
      refine AMx.blk ?_
      refine gR [] [InR .i64 ((i : Int) + 1)] 57 [(0, vc (slP l)), (3, vc (i6 ((i : Int) + 1)))] [] (show InR .i64 ((i : Int) + 1) from (inR64 (by omega) (by omega))) ?_
      refine AMx.ent_inv (s' := AS.lst 57 [(0, vc (slP l)), (3, vc (i6 ((i : Int) + 1)))] []) (ent_proj [0, 3] []) ?_
      refine AMx.inv ⟨_, ?_, i + 1, ?_, rfl, ?_⟩
      rotate_left
      · exact ⟨by omega, chk_step (by omega) hN (by have hf : thereS (List.take i l) (List.getD l i ([], 0)).1 = false := (by rw [show i = j by omega] at hT ⊢; exact hT); unfold oneC; rw [hf]; grind)⟩
      · rfl
      · omega
  ·
   refine AMx.exit ?_
   refine AMx.code_exit ?_
   refine AMx.inv_exit ?_
   refine AMx.blk_exit ?_
   refine gS [] [] 57 [(2, vc (i6 0))] [] trivial ?_
   exact gT (vc (i6 0)) (by rw [show checkP l = 0 from by first | exact chk_many (by omega) | exact chk_end (by omega) (by omega) hN | (have he : 0 = oneC (List.take i l) (List.getD l i ([], 0)) := (by unfold oneC; first | grind | (rw [there_hit (j := j) (by omega) (by omega) (by assumption)]; grind)); rw [he]; exact (chk_bad (by omega) (by omega) hN (by rw [← he]; first | assumption | grind | decide)))])
end AL.Policy
namespace AL.Policy
open Go Go.Proofs AL AL.Rune
set_option linter.unusedVariables false
set_option linter.unusedSimpArgs false
theorem f84_body : Tryz.f84.body = some (.seq (.region 0 (rg Tryz.f84 0) false) (.seq (.region 1 (rg Tryz.f84 1) false) (.seq (.seq (.region 2 (rg Tryz.f84 2) false) (.block 0 (.loop (.seq (.region 3 (rg Tryz.f84 3) false) (.seq (.cond (.tmp 12) (.skip) (.exit 0)) (.seq (.block 1 (.seq (.region 4 (rg Tryz.f84 4) false) (.region 5 (rg Tryz.f84 5) false))) (.region 6 (rg Tryz.f84 6) false))))))) (.seq (.region 7 (rg Tryz.f84 7) false) (.ret))))) := by kernel_rfl
set_option maxRecDepth 100000 in
set_option maxHeartbeats 8000000 in
theorem prefixes_c (l : List RuleV) (hl : l.length ≤ 100000) : Pure Tryz.prog 84 [tc (slP l)] (vc (AL.Fnv.slS (prefS l))) := by
 refine Pure.of_body Tryz.func84 f84_body (by kernel_rfl) Tryz.ntmps84 (by kernel_rfl) (by kernel_rfl) ?_
 refine gS [] [] 23 [(0, vc (slP l))] [] trivial ?_
 refine gS [(2, CE.obj (AObj.grow 9 1 Bytes [] AL.Fnv.rowS (List.replicate (List.length l) [])))] [0 ≤ (List.length l : Int), (List.length l : Int) ≤ (List.length l : Int), (16 : Int) * (List.length l : Int) ≤ 281474976710656, (List.length l : Int) ≤ 9223372036854775807, MakeC (List.length l) [.s (st [])] (AObj.grow 9 1 Bytes [] AL.Fnv.rowS (List.replicate (List.length l) []))] 23 [(0, vc (slP l)), (3, vo 8)] [(8, AObj.grow 9 1 Bytes [] AL.Fnv.rowS (List.replicate (List.length l) []))] ⟨(show 0 ≤ (List.length l : Int) from (by first | omega | (simp only [List.length_append, List.length_replicate, pref_len, List.length_take]; omega))), (show (List.length l : Int) ≤ (List.length l : Int) from (by first | omega | (simp only [List.length_append, List.length_replicate, pref_len, List.length_take]; omega))), (show (16 : Int) * (List.length l : Int) ≤ 281474976710656 from (by first | omega | (simp only [List.length_append, List.length_replicate, pref_len, List.length_take]; omega))), (show (List.length l : Int) ≤ 9223372036854775807 from (by first | omega | (simp only [List.length_append, List.length_replicate, pref_len, List.length_take]; omega))), (⟨_, rfl, rfl⟩)⟩ ?_
 refine gQ ?_
 refine gS [] [] 23 [(3, vo 8), (9, vc (slP l)), (10, vc (i6 (List.length l : Int))), (11, vc (i6 0))] [(8, AObj.grow 9 1 Bytes [] AL.Fnv.rowS (List.replicate (List.length l) []))] trivial ?_
 refine AMx.block ?_
 refine AMx.ent (s' := AS.lst 23 [(3, vo 8), (9, vc (slP l)), (10, vc (i6 (List.length l : Int))), (11, vc (i6 0))] [(8, AObj.grow 9 1 Bytes [] AL.Fnv.rowS (List.replicate (List.length l) []))]) (ent_proj [3, 9, 10, 11] [8]) ?_
 refine AMx.loop (fun mm ss => ∃ (k : Nat), (k ≤ l.length) ∧ mm = l.length - k ∧ ss = AS.lst 23 [(3, vo 8), (9, vc (slP l)), (10, vc (i6 (List.length l : Int))), (11, vc (i6 (k : Int)))] [(8, AObj.grow 9 1 Bytes [] AL.Fnv.rowS (prefS (List.take k l) ++ List.replicate (l.length - k) []))]) ⟨0, ?_, rfl, ?_⟩ ?_
 · omega
 · rfl
 rintro mm ss ⟨k, hI, rfl, rfl⟩
 refine gS [] [] 23 [(3, vo 8), (9, vc (slP l)), (10, vc (i6 (List.length l : Int))), (11, vc (i6 (k : Int))), (12, vc (bo (decide ((k : Int) < (List.length l : Int)))))] [(8, AObj.grow 9 1 Bytes [] AL.Fnv.rowS (prefS (List.take k l) ++ List.replicate (l.length - k) []))] trivial ?_
 refine gQ ?_
 refine gC ((k : Int) < (List.length l : Int)) (fun hc1 => ?_) fun hc1 => ?_
 ·
  refine AMx.skip ?_
  refine gQ ?_
  refine AMx.block ?_
  refine gS [] [(0 : Int) ≤ (k : Int), (k : Int) < List.length l] 23 [(3, vo 8), (4, vc (i6 (k : Int))), (5, vp 5 0), (9, vc (slP l)), (10, vc (i6 (List.length l : Int))), (11, vc (i6 (k : Int)))] [(5, AObj.row [.s (st ((List.getD l k ([], 0)).1)), .s (u8 ((List.getD l k ([], 0)).2))]), (8, AObj.grow 9 1 Bytes [] AL.Fnv.rowS (prefS (List.take k l) ++ List.replicate (l.length - k) []))] ⟨(show (0 : Int) ≤ (k : Int) from (by first | omega | (simp only [List.length_append, List.length_replicate, pref_len, List.length_take]; omega))), (show (k : Int) < List.length l from (by first | omega | (simp only [List.length_append, List.length_replicate, pref_len, List.length_take]; omega)))⟩ ?_
  refine gR [(5, CE.obj (AObj.grow 9 1 Bytes [] AL.Fnv.rowS (List.set (prefS (List.take k l) ++ List.replicate (l.length - k) []) k ((List.getD l k ([], 0)).1))))] [(0 : Int) ≤ (k : Int), (k : Int) < List.length (prefS (List.take k l) ++ List.replicate (l.length - k) [] : List Bytes), StoreC k 0 [.s (st ((List.getD l k ([], 0)).1))] (AObj.grow 9 1 Bytes [] AL.Fnv.rowS (prefS (List.take k l) ++ List.replicate (l.length - k) [])) (AObj.grow 9 1 Bytes [] AL.Fnv.rowS (List.set (prefS (List.take k l) ++ List.replicate (l.length - k) []) k ((List.getD l k ([], 0)).1)))] 23 [(3, vo 8), (9, vc (slP l)), (10, vc (i6 (List.length l : Int))), (11, vc (i6 (k : Int)))] [(8, AObj.grow 9 1 Bytes [] AL.Fnv.rowS (List.set (prefS (List.take k l) ++ List.replicate (l.length - k) []) k ((List.getD l k ([], 0)).1)))] ⟨(show (0 : Int) ≤ (k : Int) from (by first | omega | (simp only [List.length_append, List.length_replicate, pref_len, List.length_take]; omega))), (show (k : Int) < List.length (prefS (List.take k l) ++ List.replicate (l.length - k) [] : List Bytes) from (by first | omega | (simp only [List.length_append, List.length_replicate, pref_len, List.length_take]; omega))), (⟨(List.getD l k ([], 0)).1, rfl, by first | omega | (simp only [List.length_append, List.length_replicate, pref_len, List.length_take]; omega), rfl⟩)⟩ ?_
  refine AMx.blk ?_
  refine gR [] [InR .i64 ((k : Int) + 1)] 23 [(3, vo 8), (9, vc (slP l)), (10, vc (i6 (List.length l : Int))), (11, vc (i6 ((k : Int) + 1)))] [(8, AObj.grow 9 1 Bytes [] AL.Fnv.rowS (List.set (prefS (List.take k l) ++ List.replicate (l.length - k) []) k ((List.getD l k ([], 0)).1)))] (show InR .i64 ((k : Int) + 1) from (inR64 (by first | omega | (simp only [List.length_append, List.length_replicate, pref_len, List.length_take]; omega)) (by first | omega | (simp only [List.length_append, List.length_replicate, pref_len, List.length_take]; omega)))) ?_
  refine AMx.ent_inv (s' := AS.lst 23 [(3, vo 8), (9, vc (slP l)), (10, vc (i6 (List.length l : Int))), (11, vc (i6 ((k : Int) + 1)))] [(8, AObj.grow 9 1 Bytes [] AL.Fnv.rowS (List.set (prefS (List.take k l) ++ List.replicate (l.length - k) []) k ((List.getD l k ([], 0)).1)))]) (ent_proj [3, 9, 10, 11] [8]) ?_
  refine AMx.inv ⟨_, ?_, k + 1, ?_, rfl, ?_⟩
  rotate_left
  · omega
  · rw [pref_step l k (by omega)]; rfl
  · omega
 ·
  refine AMx.exit ?_
  refine AMx.code_exit ?_
  refine AMx.inv_exit ?_
  refine AMx.blk_exit ?_
  refine gS [] [] 23 [(2, vo 8)] [(8, AObj.grow 9 1 Bytes [] AL.Fnv.rowS (prefS (List.take k l) ++ List.replicate (l.length - k) []))] trivial ?_
  refine AMx.ent (s' := AS.lst 23 [(2, vc (AL.Fnv.slS (prefS (List.take k l) ++ List.replicate (l.length - k) [])))] []) (ent_freeze (id := 8) (T := 9) (by kernel_rfl)) ?_
  exact gT (vc (AL.Fnv.slS (prefS (List.take k l) ++ List.replicate (l.length - k) []))) (by rw [pref_end l k (by omega)])
theorem f56_body : Tryz.f56.body = some (.seq (.region 0 (rg Tryz.f56 0) false) (.seq (.region 1 (rg Tryz.f56 1) false) (.seq (.seq (.region 2 (rg Tryz.f56 2) false) (.cond (.tmp 11) (.seq (.region 3 (rg Tryz.f56 3) false) (.ret)) (.skip))) (.seq (.region 4 (rg Tryz.f56 4) false) (.ret))))) := by kernel_rfl
set_option maxRecDepth 100000 in
set_option maxHeartbeats 8000000 in
theorem Caps_c (l : List RuleV) (path : Bytes) (hl : l.length ≤ 100000) : Pure Tryz.prog 56 [tc (slP l), tc (st path)] (vc (u8 (capsP l path))) := by
 refine Pure.of_body Tryz.func56 f56_body (by kernel_rfl) Tryz.ntmps56 (by kernel_rfl) (by kernel_rfl) ?_
 have hr := longest_rng path l
 refine gS [] [] 17 [(0, vc (slP l)), (1, vc (st path))] [] trivial ?_
 refine gS [(2, CE.call [] [] (vc (AL.Fnv.slS (prefS l))) []), (3, CE.call [] [] (vc (i6 (Under.longestS path (prefS l)))) [])] [Spec Tryz.prog 84 [tc (slP l)] (ofH []) (vc (AL.Fnv.slS (prefS l))) (ofH []), Spec Tryz.prog 83 [tc (st path), tc (AL.Fnv.slS (prefS l))] (ofH []) (vc (i6 (Under.longestS path (prefS l)))) (ofH [])] 17 [(0, vc (slP l)), (5, vc (i6 (Under.longestS path (prefS l))))] [] ⟨(prefixes_c l (by omega)), (Under.Longest_c path (prefS l))⟩ ?_
 refine gQ ?_
 refine gS [] [] 17 [(0, vc (slP l)), (5, vc (i6 (Under.longestS path (prefS l)))), (11, vc (bo (decide (Under.longestS path (prefS l) < 0))))] [] trivial ?_
 refine gC (Under.longestS path (prefS l) < 0) (fun hc1 => ?_) fun hc1 => ?_
 ·
  refine gS [] [] 17 [(4, vc (u8 0))] [] trivial ?_
  exact gT (vc (u8 0)) (by rw [show capsP l path = 0 from by unfold capsP; first | rw [if_pos (by omega)] | rw [if_neg (by omega)]])
 ·
  refine AMx.skip ?_
  refine gS [] [(0 : Int) ≤ Under.longestS path (prefS l), Under.longestS path (prefS l) < List.length l] 17 [(4, vc (u8 ((List.getD l (Under.longestS path (prefS l)).toNat ([], 0)).2)))] [] ⟨(show (0 : Int) ≤ Under.longestS path (prefS l) from (by omega)), (show Under.longestS path (prefS l) < List.length l from (by omega))⟩ ?_
  exact gT (vc (u8 ((List.getD l (Under.longestS path (prefS l)).toNat ([], 0)).2))) (by rw [show capsP l path = (List.getD l (Under.longestS path (prefS l)).toNat ([], 0)).2 from by unfold capsP; first | rw [if_pos (by omega)] | rw [if_neg (by omega)]])
theorem f57_body : Tryz.f57.body = some (.seq (.region 0 (rg Tryz.f57 0) false) (.seq (.region 1 (rg Tryz.f57 1) false) (.seq (.seq (.region 2 (rg Tryz.f57 2) false) (.block 0 (.loop (.seq (.seq (.region 3 (rg Tryz.f57 3) false) (.cond (.tmp 10) (.skip) (.exit 0))) (.seq (.block 1 (.seq (.region 5 (rg Tryz.f57 5) true) (.cond (.tmp 38) (.region 6 (rg Tryz.f57 6) false) (.skip)))) (.region 4 (rg Tryz.f57 4) false)))))) (.seq (.seq (.region 7 (rg Tryz.f57 7) false) (.cond (.tmp 41) (.seq (.region 8 (rg Tryz.f57 8) false) (.ret)) (.skip))) (.seq (.region 9 (rg Tryz.f57 9) false) (.ret)))))) := by kernel_rfl
set_option maxRecDepth 100000 in
set_option maxHeartbeats 8000000 in
theorem RCaps_c (l : List RuleV) (path : Bytes) (hb : ∀ x ∈ l, x.1.length ≤ 100000) : Pure Tryz.prog 57 [tc (slP l), tc (st path)] (vc (u8 (capsP l path))) := by
 refine Pure.of_body Tryz.func57 f57_body (by kernel_rfl) Tryz.ntmps57 (by kernel_rfl) (by kernel_rfl) ?_
 refine AMx.sl 0 (l := l) rfl (fun hl => ?_)
 simp only [maxLen] at hl
 refine gS [] [] 47 [(0, vc (slP l)), (1, vc (st path))] [] trivial ?_
 refine gS [] [] 47 [(0, vc (slP l)), (1, vc (st path)), (5, vc (i6 (-1)))] [] trivial ?_
 refine gQ ?_
 refine gS [] [] 47 [(0, vc (slP l)), (1, vc (st path)), (5, vc (i6 (-1))), (6, vc (i6 0))] [] trivial ?_
 refine AMx.block ?_
 refine AMx.ent (s' := AS.lst 47 [(0, vc (slP l)), (1, vc (st path)), (5, vc (i6 (-1))), (6, vc (i6 0))] []) (ent_proj [0, 1, 5, 6] []) ?_
 refine AMx.loop (fun mm ss => ∃ (i : Nat), (i ≤ l.length) ∧ mm = l.length - i ∧ ss = AS.lst 47 [(0, vc (slP l)), (1, vc (st path)), (5, vc (i6 (Under.longS path (prefS l) i))), (6, vc (i6 (i : Int)))] []) ⟨0, ?_, rfl, ?_⟩ ?_
 · omega
 · rfl
 rintro mm ss ⟨i, hI, rfl, rfl⟩
 refine gQ ?_
 refine gS [] [] 47 [(0, vc (slP l)), (1, vc (st path)), (5, vc (i6 (Under.longS path (prefS l) i))), (6, vc (i6 (i : Int))), (10, vc (bo (decide ((i : Int) < (List.length l : Int)))))] [] trivial ?_
 refine gC ((i : Int) < (List.length l : Int)) (fun hc1 => ?_) fun hc1 => ?_
 ·
  refine AMx.skip ?_
  refine gQ ?_
  refine AMx.block ?_
  refine gY [(6, CE.call [] [] (vc (bo (Under.withinS path ((List.getD l i ([], 0)).1)))) [])] [] [(0 : Int) ≤ (i : Int), (i : Int) < List.length l, Spec Tryz.prog 85 [tc (st path), tc (st ((List.getD l i ([], 0)).1))] (ofH []) (vc (bo (Under.withinS path ((List.getD l i ([], 0)).1)))) (ofH []), ((Under.withinS path ((List.getD l i ([], 0)).1)) = true) → allP [], ((Under.withinS path ((List.getD l i ([], 0)).1)) = true) → allP [(Under.withinS path ((List.getD l i ([], 0)).1)) = true], ((Under.withinS path ((List.getD l i ([], 0)).1)) = true) → allP [(Under.withinS path ((List.getD l i ([], 0)).1)) = true], (((Under.withinS path ((List.getD l i ([], 0)).1)) = true) ∧ (decide (Under.longS path (prefS l) i < 0)) = false) → allP [], (((Under.withinS path ((List.getD l i ([], 0)).1)) = true) ∧ (decide (Under.longS path (prefS l) i < 0)) = false) → allP [], (((Under.withinS path ((List.getD l i ([], 0)).1)) = true) ∧ (decide (Under.longS path (prefS l) i < 0)) = false) → allP [((Under.withinS path ((List.getD l i ([], 0)).1)) = true) ∧ (decide (Under.longS path (prefS l) i < 0)) = false, ((Under.withinS path ((List.getD l i ([], 0)).1)) = true) ∧ (decide (Under.longS path (prefS l) i < 0)) = false, (0 : Int) ≤ (i : Int), (i : Int) < List.length l], (((Under.withinS path ((List.getD l i ([], 0)).1)) = true) ∧ (decide (Under.longS path (prefS l) i < 0)) = false) → allP [((Under.withinS path ((List.getD l i ([], 0)).1)) = true) ∧ (decide (Under.longS path (prefS l) i < 0)) = false], (((Under.withinS path ((List.getD l i ([], 0)).1)) = true) ∧ (decide (Under.longS path (prefS l) i < 0)) = false) → allP [((Under.withinS path ((List.getD l i ([], 0)).1)) = true) ∧ (decide (Under.longS path (prefS l) i < 0)) = false], (((Under.withinS path ((List.getD l i ([], 0)).1)) = true) ∧ (decide (Under.longS path (prefS l) i < 0)) = false) → allP [((Under.withinS path ((List.getD l i ([], 0)).1)) = true) ∧ (decide (Under.longS path (prefS l) i < 0)) = false], (((Under.withinS path ((List.getD l i ([], 0)).1)) = true) ∧ (decide (Under.longS path (prefS l) i < 0)) = false) → allP [], (((Under.withinS path ((List.getD l i ([], 0)).1)) = true) ∧ (decide (Under.longS path (prefS l) i < 0)) = false) → allP [], (((Under.withinS path ((List.getD l i ([], 0)).1)) = true) ∧ (decide (Under.longS path (prefS l) i < 0)) = false) → allP [((Under.withinS path ((List.getD l i ([], 0)).1)) = true) ∧ (decide (Under.longS path (prefS l) i < 0)) = false, ((Under.withinS path ((List.getD l i ([], 0)).1)) = true) ∧ (decide (Under.longS path (prefS l) i < 0)) = false, (0 : Int) ≤ Under.longS path (prefS l) i, Under.longS path (prefS l) i < List.length l], (((Under.withinS path ((List.getD l i ([], 0)).1)) = true) ∧ (decide (Under.longS path (prefS l) i < 0)) = false) → allP [((Under.withinS path ((List.getD l i ([], 0)).1)) = true) ∧ (decide (Under.longS path (prefS l) i < 0)) = false], (((Under.withinS path ((List.getD l i ([], 0)).1)) = true) ∧ (decide (Under.longS path (prefS l) i < 0)) = false) → allP [((Under.withinS path ((List.getD l i ([], 0)).1)) = true) ∧ (decide (Under.longS path (prefS l) i < 0)) = false], (((Under.withinS path ((List.getD l i ([], 0)).1)) = true) ∧ (decide (Under.longS path (prefS l) i < 0)) = false) → allP [((Under.withinS path ((List.getD l i ([], 0)).1)) = true) ∧ (decide (Under.longS path (prefS l) i < 0)) = false], (((Under.withinS path ((List.getD l i ([], 0)).1)) = true) ∧ (decide (Under.longS path (prefS l) i < 0)) = false) → allP [((Under.withinS path ((List.getD l i ([], 0)).1)) = true) ∧ (decide (Under.longS path (prefS l) i < 0)) = false, ((Under.withinS path ((List.getD l i ([], 0)).1)) = true) ∧ (decide (Under.longS path (prefS l) i < 0)) = false], ((Under.withinS path ((List.getD l i ([], 0)).1)) = true) → allP [(Under.withinS path ((List.getD l i ([], 0)).1)) = true, (decide (Under.longS path (prefS l) i < 0)) = false → allP [((Under.withinS path ((List.getD l i ([], 0)).1)) = true) ∧ (decide (Under.longS path (prefS l) i < 0)) = false]], (Under.withinS path ((List.getD l i ([], 0)).1)) = true → allP [(Under.withinS path ((List.getD l i ([], 0)).1)) = true]] 47 [(0, vc (slP l)), (1, vc (st path)), (5, vc (i6 (Under.longS path (prefS l) i))), (6, vc (i6 (i : Int))), (38, vc (bo ((Under.withinS path ((List.getD l i ([], 0)).1)) && ((decide (Under.longS path (prefS l) i < 0)) || (decide ((List.length ((List.getD l (Under.longS path (prefS l) i).toNat ([], 0)).1 : List UInt8) : Int) < (List.length ((List.getD l i ([], 0)).1 : List UInt8) : Int)))))))] [] mixed ⟨(show (0 : Int) ≤ (i : Int) from (by first | omega | exact hb _ (Lib.getD_mem ([], 0) l i (by omega)) | (have hz := Under.long_lt path (prefS l) i; omega))), (show (i : Int) < List.length l from (by first | omega | exact hb _ (Lib.getD_mem ([], 0) l i (by omega)) | (have hz := Under.long_lt path (prefS l) i; omega))), (Under.RWithin_c path ((List.getD l i ([], 0)).1) (by first | omega | exact hb _ (Lib.getD_mem ([], 0) l i (by omega)) | (have hz := Under.long_lt path (prefS l) i; omega))), (fun _ => trivial), (fun hp => hp), (fun hp => hp), (fun _ => trivial), (fun _ => trivial), (fun hp => by have hq := hp; (try simp only [decide_eq_true_eq, decide_eq_false_iff_not, Bool.and_eq_true, Bool.or_eq_true, Bool.and_eq_false_iff, Bool.or_eq_false_iff, Bool.not_eq_true', Bool.not_eq_false', Bool.not_eq_true, Bool.not_eq_false] at hq); exact ⟨hp, hp, (show (0 : Int) ≤ (i : Int) from (by first | omega | exact hb _ (Lib.getD_mem ([], 0) l i (by omega)) | (have hz := Under.long_lt path (prefS l) i; omega))), (show (i : Int) < List.length l from (by first | omega | exact hb _ (Lib.getD_mem ([], 0) l i (by omega)) | (have hz := Under.long_lt path (prefS l) i; omega)))⟩), (fun hp => hp), (fun hp => hp), (fun hp => hp), (fun _ => trivial), (fun _ => trivial), (fun hp => by have hq := hp; (try simp only [decide_eq_true_eq, decide_eq_false_iff_not, Bool.and_eq_true, Bool.or_eq_true, Bool.and_eq_false_iff, Bool.or_eq_false_iff, Bool.not_eq_true', Bool.not_eq_false', Bool.not_eq_true, Bool.not_eq_false] at hq); exact ⟨hp, hp, (show (0 : Int) ≤ Under.longS path (prefS l) i from (by first | omega | exact hb _ (Lib.getD_mem ([], 0) l i (by omega)) | (have hz := Under.long_lt path (prefS l) i; omega))), (show Under.longS path (prefS l) i < List.length l from (by first | omega | exact hb _ (Lib.getD_mem ([], 0) l i (by omega)) | (have hz := Under.long_lt path (prefS l) i; omega)))⟩), (fun hp => hp), (fun hp => hp), (fun hp => hp), (fun hp => ⟨hp, hp⟩), (fun hp => by have hq := hp; (try simp only [decide_eq_true_eq, decide_eq_false_iff_not, Bool.and_eq_true, Bool.or_eq_true, Bool.and_eq_false_iff, Bool.or_eq_false_iff, Bool.not_eq_true', Bool.not_eq_false', Bool.not_eq_true, Bool.not_eq_false] at hq); exact ⟨hp, (fun hp2 => (by first | exact hp2 | exact ⟨hp, hp2⟩))⟩), (fun hp2 => (by first | exact hp2 | exact ⟨hp, hp2⟩))⟩ ?_
  refine gB (((Under.withinS path ((List.getD l i ([], 0)).1)) && ((decide (Under.longS path (prefS l) i < 0)) || (decide ((List.length ((List.getD l (Under.longS path (prefS l) i).toNat ([], 0)).1 : List UInt8) : Int) < (List.length ((List.getD l i ([], 0)).1 : List UInt8) : Int)))))) (fun hc2 => ?_) fun hc2 => ?_
  ·
   try simp only [xT, xF, xA, xB, xO, xP] at hc2
   refine gR [] [] 47 [(0, vc (slP l)), (1, vc (st path)), (5, vc (i6 (i : Int))), (6, vc (i6 (i : Int)))] [] trivial ?_
   refine AMx.blk ?_
   refine gR [] [InR .i64 ((i : Int) + 1)] 47 [(0, vc (slP l)), (1, vc (st path)), (5, vc (i6 (i : Int))), (6, vc (i6 ((i : Int) + 1)))] [] (show InR .i64 ((i : Int) + 1) from (inR64 (by first | omega | exact hb _ (Lib.getD_mem ([], 0) l i (by omega)) | (have hz := Under.long_lt path (prefS l) i; omega)) (by first | omega | exact hb _ (Lib.getD_mem ([], 0) l i (by omega)) | (have hz := Under.long_lt path (prefS l) i; omega)))) ?_
   refine AMx.ent_inv (s' := AS.lst 47 [(0, vc (slP l)), (1, vc (st path)), (5, vc (i6 (i : Int))), (6, vc (i6 ((i : Int) + 1)))] []) (ent_proj [0, 1, 5, 6] []) ?_
   refine AMx.inv ⟨_, ?_, i + 1, ?_, rfl, ?_⟩
   rotate_left
   · omega
   · rw [longP_t hc2]; rfl
   · omega
  ·
   try simp only [xT, xF, xA, xB, xO, xP] at hc2
   refine AMx.skip ?_
   refine AMx.blk ?_
   refine gR [] [InR .i64 ((i : Int) + 1)] 47 [(0, vc (slP l)), (1, vc (st path)), (5, vc (i6 (Under.longS path (prefS l) i))), (6, vc (i6 ((i : Int) + 1)))] [] (show InR .i64 ((i : Int) + 1) from (inR64 (by first | omega | exact hb _ (Lib.getD_mem ([], 0) l i (by omega)) | (have hz := Under.long_lt path (prefS l) i; omega)) (by first | omega | exact hb _ (Lib.getD_mem ([], 0) l i (by omega)) | (have hz := Under.long_lt path (prefS l) i; omega)))) ?_
   refine AMx.ent_inv (s' := AS.lst 47 [(0, vc (slP l)), (1, vc (st path)), (5, vc (i6 (Under.longS path (prefS l) i))), (6, vc (i6 ((i : Int) + 1)))] []) (ent_proj [0, 1, 5, 6] []) ?_
   refine AMx.inv ⟨_, ?_, i + 1, ?_, rfl, ?_⟩
   rotate_left
   · omega
   · rw [longP_f hc2]; rfl
   · omega
 ·
  refine AMx.exit ?_
  refine AMx.code_exit ?_
  refine AMx.inv_exit ?_
  refine AMx.blk_exit ?_
  refine gQ ?_
  refine gS [] [] 47 [(0, vc (slP l)), (5, vc (i6 (Under.longS path (prefS l) i))), (41, vc (bo (decide (Under.longS path (prefS l) i < 0))))] [] trivial ?_
  refine gC (Under.longS path (prefS l) i < 0) (fun hc3 => ?_) fun hc3 => ?_
  ·
   refine gS [] [] 47 [(4, vc (u8 0))] [] trivial ?_
   exact gT (vc (u8 0)) (by rw [show capsP l path = 0 from by rw [capsP_ref l path (i := i) (by omega) (by omega)]; first | rw [if_pos (by omega)] | rw [if_neg (by omega)]])
  ·
   refine AMx.skip ?_
   refine gS [] [(0 : Int) ≤ Under.longS path (prefS l) i, Under.longS path (prefS l) i < List.length l] 47 [(4, vc (u8 ((List.getD l (Under.longS path (prefS l) i).toNat ([], 0)).2)))] [] ⟨(show (0 : Int) ≤ Under.longS path (prefS l) i from (by first | omega | exact hb _ (Lib.getD_mem ([], 0) l i (by omega)) | (have hz := Under.long_lt path (prefS l) i; omega))), (show Under.longS path (prefS l) i < List.length l from (by first | omega | exact hb _ (Lib.getD_mem ([], 0) l i (by omega)) | (have hz := Under.long_lt path (prefS l) i; omega)))⟩ ?_
   exact gT (vc (u8 ((List.getD l (Under.longS path (prefS l) i).toNat ([], 0)).2))) (by rw [show capsP l path = (List.getD l (Under.longS path (prefS l) i).toNat ([], 0)).2 from by rw [capsP_ref l path (i := i) (by omega) (by omega)]; first | rw [if_pos (by omega)] | rw [if_neg (by omega)]])
theorem f59_body : Tryz.f59.body = some (.seq (.region 0 (rg Tryz.f59 0) false) (.seq (.region 1 (rg Tryz.f59 1) false) (.ret))) := by kernel_rfl
set_option maxRecDepth 100000 in
set_option maxHeartbeats 8000000 in
theorem Allows_c (l : List RuleV) (path : Bytes) (caps : Int) (hl : l.length ≤ 100000) : Pure Tryz.prog 59 [tc (slP l), tc (st path), tc (u8 caps)] (vc (bo (allowsS l path caps))) := by
 refine Pure.of_body Tryz.func59 f59_body (by kernel_rfl) Tryz.ntmps59 (by kernel_rfl) (by kernel_rfl) ?_
 refine gS [] [] 13 [(0, vc (slP l)), (1, vc (st path)), (2, vc (u8 caps))] [] trivial ?_
 refine gS [(3, CE.call [] [] (vc (u8 (capsP l path))) [])] [Spec Tryz.prog 56 [tc (slP l), tc (st path)] (ofH []) (vc (u8 (capsP l path))) (ofH [])] 13 [(6, vc (bo (decide (IntKind.wrap .u8 ((BitVec.ofInt 8 caps &&& ~~~(BitVec.ofInt 8 (capsP l path))).toNat) = 0))))] [] (Caps_c l path (by omega)) ?_
 exact gT (vc (bo (decide (IntKind.wrap .u8 ((BitVec.ofInt 8 caps &&& ~~~(BitVec.ofInt 8 (capsP l path))).toNat) = 0)))) (by rw [show allowsS l path caps = decide (IntKind.wrap .u8 ((BitVec.ofInt 8 caps &&& ~~~(BitVec.ofInt 8 (capsP l path))).toNat) = 0) from (has_val _ _).symm])
theorem f82_body : Tryz.f82.body = some (.seq (.region 0 (rg Tryz.f82 0) false) (.seq (.seq (.region 1 (rg Tryz.f82 1) false) (.block 0 (.loop (.seq (.seq (.region 2 (rg Tryz.f82 2) false) (.cond (.tmp 7) (.skip) (.exit 0))) (.seq (.block 1 (.seq (.seq (.region 4 (rg Tryz.f82 4) false) (.cond (.tmp 17) (.seq (.region 5 (rg Tryz.f82 5) false) (.ret)) (.skip))) (.region 6 (rg Tryz.f82 6) false))) (.region 3 (rg Tryz.f82 3) false)))))) (.seq (.region 7 (rg Tryz.f82 7) false) (.ret)))) := by kernel_rfl
set_option maxRecDepth 100000 in
set_option maxHeartbeats 8000000 in
theorem has_c (a s : Int) : Pure Tryz.prog 82 [tc (u8 a), tc (u8 s)] (vc (bo (hasB a s))) := by
 refine Pure.of_body Tryz.func82 f82_body (by kernel_rfl) Tryz.ntmps82 (by kernel_rfl) (by kernel_rfl) ?_
 refine AMx.int 0 rfl (fun ha => ?_)
 rw [inR8_iff] at ha
 refine AMx.int 1 rfl (fun hs => ?_)
 rw [inR8_iff] at hs
 refine gS [] [] 22 [(0, vc (u8 a)), (1, vc (u8 s))] [] trivial ?_
 refine gQ ?_
 refine gS [] [] 22 [(0, vc (u8 a)), (1, vc (u8 s)), (5, vc (i6 0))] [] trivial ?_
 refine AMx.block ?_
 refine AMx.ent (s' := AS.lst 22 [(0, vc (u8 a)), (1, vc (u8 s)), (5, vc (i6 0))] []) (ent_proj [0, 1, 5] []) ?_
 refine AMx.loop (fun mm ss => ∃ (i : Nat), (i ≤ 8 ∧ BitsTo a s i) ∧ mm = 8 - i ∧ ss = AS.lst 22 [(0, vc (u8 (shrN a i))), (1, vc (u8 (shrN s i))), (5, vc (i6 (i : Int)))] []) ⟨0, ?_, rfl, ?_⟩ ?_
 · exact ⟨Nat.zero_le _, fun j hj => by omega⟩
 · rw [shr_0, shr_0]; rfl
 rintro mm ss ⟨i, ⟨hI, hN⟩, rfl, rfl⟩
 refine gQ ?_
 refine gS [] [] 22 [(0, vc (u8 (shrN a i))), (1, vc (u8 (shrN s i))), (5, vc (i6 (i : Int))), (7, vc (bo (decide ((i : Int) < 8))))] [] trivial ?_
 refine gC ((i : Int) < 8) (fun hc1 => ?_) fun hc1 => ?_
 ·
  refine AMx.skip ?_
  refine gQ ?_
  refine AMx.block ?_
  refine gQ ?_
  refine gS [] [(2 : Int) ≠ 0, ((decide (Int.tmod (shrN s i) 2 = 1)) = true) → allP [], ((decide (Int.tmod (shrN s i) 2 = 1)) = true) → allP [(decide (Int.tmod (shrN s i) 2 = 1)) = true, (2 : Int) ≠ 0], ((decide (Int.tmod (shrN s i) 2 = 1)) = true) → allP [(decide (Int.tmod (shrN s i) 2 = 1)) = true], (decide (Int.tmod (shrN s i) 2 = 1)) = true → allP [(decide (Int.tmod (shrN s i) 2 = 1)) = true]] 22 [(0, vc (u8 (shrN a i))), (1, vc (u8 (shrN s i))), (5, vc (i6 (i : Int))), (17, vc (bo ((decide (Int.tmod (shrN s i) 2 = 1)) && (decide (Int.tmod (shrN a i) 2 = 0)))))] [] ⟨(show (2 : Int) ≠ 0 from (by omega)), (fun _ => trivial), (fun hp => by have hq := hp; (try simp only [decide_eq_true_eq, decide_eq_false_iff_not, Bool.and_eq_true, Bool.or_eq_true, Bool.and_eq_false_iff, Bool.or_eq_false_iff, Bool.not_eq_true', Bool.not_eq_false', Bool.not_eq_true, Bool.not_eq_false] at hq); exact ⟨hp, (show (2 : Int) ≠ 0 from (by omega))⟩), (fun hp => hp), (fun hp2 => (by first | exact hp2 | exact ⟨hp, hp2⟩))⟩ ?_
  refine gB (((decide (Int.tmod (shrN s i) 2 = 1)) && (decide (Int.tmod (shrN a i) 2 = 0)))) (fun hc2 => ?_) fun hc2 => ?_
  ·
   try simp only [xT, xF, xA, xB] at hc2
   refine gS [] [] 22 [(4, vc (bo false))] [] trivial ?_
   exact gT (vc (bo false)) (by rw [has_no (by omega) (by omega) (by omega) hc2])
  ·
   try simp only [xT, xF, xA, xB] at hc2
   refine AMx.skip ?_
   refine gR [] [(2 : Int) ≠ 0, (2 : Int) ≠ 0] 22 [(0, vc (u8 (IntKind.wrap .u8 (Int.tdiv (shrN a i) 2)))), (1, vc (u8 (IntKind.wrap .u8 (Int.tdiv (shrN s i) 2)))), (5, vc (i6 (i : Int)))] [] ⟨(show (2 : Int) ≠ 0 from (by omega)), (show (2 : Int) ≠ 0 from (by omega))⟩ ?_
   refine AMx.blk ?_
   refine gR [] [InR .i64 ((i : Int) + 1)] 22 [(0, vc (u8 (IntKind.wrap .u8 (Int.tdiv (shrN a i) 2)))), (1, vc (u8 (IntKind.wrap .u8 (Int.tdiv (shrN s i) 2)))), (5, vc (i6 ((i : Int) + 1)))] [] (show InR .i64 ((i : Int) + 1) from (inR64 (by omega) (by omega))) ?_
   refine AMx.ent_inv (s' := AS.lst 22 [(0, vc (u8 (IntKind.wrap .u8 (Int.tdiv (shrN a i) 2)))), (1, vc (u8 (IntKind.wrap .u8 (Int.tdiv (shrN s i) 2)))), (5, vc (i6 ((i : Int) + 1)))] []) (ent_proj [0, 1, 5] []) ?_
   refine AMx.inv ⟨_, ?_, i + 1, ?_, rfl, ?_⟩
   rotate_left
   · exact ⟨by omega, bits_step (by omega) (by omega) hN hc2⟩
   · rw [← shr_step (n := s) (by omega) (by omega) i, ← shr_step (n := a) (by omega) (by omega) i]; rfl
   · omega
 ·
  refine AMx.exit ?_
  refine AMx.code_exit ?_
  refine AMx.inv_exit ?_
  refine AMx.blk_exit ?_
  refine gS [] [] 22 [(4, vc (bo true))] [] trivial ?_
  exact gT (vc (bo true)) (by rw [has_yes (by omega) (by omega) (by omega) hN])
theorem f60_body : Tryz.f60.body = some (.seq (.region 0 (rg Tryz.f60 0) false) (.seq (.seq (.region 1 (rg Tryz.f60 1) false) (.cond (.tmp 10) (.seq (.region 2 (rg Tryz.f60 2) false) (.ret)) (.skip))) (.seq (.seq (.region 3 (rg Tryz.f60 3) false) (.block 0 (.loop (.seq (.region 4 (rg Tryz.f60 4) false) (.seq (.cond (.tmp 14) (.skip) (.exit 0)) (.seq (.block 1 (.seq (.region 5 (rg Tryz.f60 5) false) (.seq (.region 6 (rg Tryz.f60 6) true) (.cond (.tmp 24) (.seq (.region 7 (rg Tryz.f60 7) false) (.ret)) (.skip))))) (.region 8 (rg Tryz.f60 8) false))))))) (.seq (.region 9 (rg Tryz.f60 9) false) (.ret))))) := by kernel_rfl
set_option maxRecDepth 100000 in
set_option maxHeartbeats 8000000 in
theorem Equal_c (a b : List RuleV) : Pure Tryz.prog 60 [tc (slP a), tc (slP b)] (vc (bo (decide (a = b)))) := by
 refine Pure.of_body Tryz.func60 f60_body (by kernel_rfl) Tryz.ntmps60 (by kernel_rfl) (by kernel_rfl) ?_
 refine AMx.sl 0 (l := a) rfl (fun hl => ?_)
 simp only [maxLen] at hl
 refine gS [] [] 26 [(0, vc (slP a)), (1, vc (slP b))] [] trivial ?_
 refine gQ ?_
 refine gS [] [] 26 [(0, vc (slP a)), (1, vc (slP b)), (10, vc (bo (!decide ((List.length a : Int) = (List.length b : Int)))))] [] trivial ?_
 refine gN ((List.length a : Int) = (List.length b : Int)) (fun hc1 => ?_) fun hc1 => ?_
 ·
  refine gS [] [] 26 [(4, vc (bo false))] [] trivial ?_
  exact gT (vc (bo false)) (by rw [decide_eq_false (fun h => by subst h; simp_all)])
 ·
  refine AMx.skip ?_
  refine gQ ?_
  refine gS [] [] 26 [(0, vc (slP a)), (1, vc (slP b)), (12, vc (i6 (List.length a : Int))), (13, vc (i6 0))] [] trivial ?_
  refine AMx.block ?_
  refine AMx.ent (s' := AS.lst 26 [(0, vc (slP a)), (1, vc (slP b)), (12, vc (i6 (List.length a : Int))), (13, vc (i6 0))] []) (ent_proj [0, 1, 12, 13] []) ?_
  refine AMx.loop (fun mm ss => ∃ (i : Nat), (i ≤ a.length ∧ List.take i a = List.take i b) ∧ mm = a.length - i ∧ ss = AS.lst 26 [(0, vc (slP a)), (1, vc (slP b)), (12, vc (i6 (List.length a : Int))), (13, vc (i6 (i : Int)))] []) ⟨0, ?_, rfl, ?_⟩ ?_
  · exact ⟨by omega, rfl⟩
  · rfl
  rintro mm ss ⟨i, ⟨hI, hE⟩, rfl, rfl⟩
  refine gS [] [] 26 [(0, vc (slP a)), (1, vc (slP b)), (12, vc (i6 (List.length a : Int))), (13, vc (i6 (i : Int))), (14, vc (bo (decide ((i : Int) < (List.length a : Int)))))] [] trivial ?_
  refine gQ ?_
  refine gC ((i : Int) < (List.length a : Int)) (fun hc2 => ?_) fun hc2 => ?_
  ·
   refine AMx.skip ?_
   refine gQ ?_
   refine AMx.block ?_
   refine gS [] [] 26 [(0, vc (slP a)), (1, vc (slP b)), (5, vc (i6 (i : Int))), (12, vc (i6 (List.length a : Int))), (13, vc (i6 (i : Int)))] [] trivial ?_
   refine gY [] [] [(0 : Int) ≤ (i : Int), (i : Int) < List.length a, (0 : Int) ≤ (i : Int), (i : Int) < List.length b] 26 [(0, vc (slP a)), (1, vc (slP b)), (12, vc (i6 (List.length a : Int))), (13, vc (i6 (i : Int))), (24, vc (bo (!(decide ((List.getD a i ([], 0)).1 = (List.getD b i ([], 0)).1) && (decide ((List.getD a i ([], 0)).2 = (List.getD b i ([], 0)).2) && true)))))] [] mixed ⟨(show (0 : Int) ≤ (i : Int) from (by omega)), (show (i : Int) < List.length a from (by omega)), (show (0 : Int) ≤ (i : Int) from (by omega)), (show (i : Int) < List.length b from (by omega))⟩ ?_
   refine gB (!(decide ((List.getD a i ([], 0)).1 = (List.getD b i ([], 0)).1) && (decide ((List.getD a i ([], 0)).2 = (List.getD b i ([], 0)).2) && true))) (fun hc3 => ?_) fun hc3 => ?_
   ·
    try simp only [xT, xF, xA, xB, xN, xM] at hc3
    refine gS [] [] 26 [(4, vc (bo false))] [] trivial ?_
    exact gT (vc (bo false)) (by rw [decide_eq_false (fun h => by subst h; simp_all)])
   ·
    try simp only [xT, xF, xA, xB, xN, xM] at hc3
    refine AMx.skip ?_
    refine AMx.blk ?_
    refine gR [] [InR .i64 ((i : Int) + 1)] 26 [(0, vc (slP a)), (1, vc (slP b)), (12, vc (i6 (List.length a : Int))), (13, vc (i6 ((i : Int) + 1)))] [] (show InR .i64 ((i : Int) + 1) from (inR64 (by omega) (by omega))) ?_
    refine AMx.ent_inv (s' := AS.lst 26 [(0, vc (slP a)), (1, vc (slP b)), (12, vc (i6 (List.length a : Int))), (13, vc (i6 ((i : Int) + 1)))] []) (ent_proj [0, 1, 12, 13] []) ?_
    refine AMx.inv ⟨_, ?_, i + 1, ?_, rfl, ?_⟩
    rotate_left
    · exact ⟨by omega, Lib.same_step ([], 0) a b i (by omega) (by omega) hE (by grind)⟩
    · rfl
    · omega
  ·
   refine AMx.exit ?_
   refine AMx.code_exit ?_
   refine AMx.inv_exit ?_
   refine AMx.blk_exit ?_
   refine gS [] [] 26 [(4, vc (bo true))] [] trivial ?_
   exact gT (vc (bo true)) (by rw [decide_eq_true (Lib.same_end a b i (by omega) (by omega) hE)])
theorem f29_body : Tryz.f29.body = some (.seq (.region 0 (rg Tryz.f29 0) false) (.seq (.region 1 (rg Tryz.f29 1) false) (.ret))) := by kernel_rfl
set_option maxRecDepth 100000 in
set_option maxHeartbeats 8000000 in
theorem Same_c (a b : List RuleV) : Pure Tryz.prog 29 [tc (slP a), tc (slP b)] (vc (bo (decide (a = b)))) := by
 refine Pure.of_body Tryz.func29 f29_body (by kernel_rfl) Tryz.ntmps29 (by kernel_rfl) (by kernel_rfl) ?_
 refine gS [] [] 8 [(0, vc (slP a)), (1, vc (slP b))] [] trivial ?_
 refine gS [(2, CE.call [] [] (vc (bo (decide (a = b)))) [])] [Spec Tryz.prog 60 [tc (slP a), tc (slP b)] (ofH []) (vc (bo (decide (a = b)))) (ofH [])] 8 [(4, vc (bo (decide (a = b))))] [] (Equal_c a b) ?_
 exact gT (vc (bo (decide (a = b)))) rfl
theorem f70_body : Tryz.f70.body = some (.seq (.region 0 (rg Tryz.f70 0) false) (.seq (.seq (.region 1 (rg Tryz.f70 1) false) (.cond (.tmp 10) (.seq (.region 2 (rg Tryz.f70 2) false) (.ret)) (.skip))) (.seq (.seq (.region 3 (rg Tryz.f70 3) false) (.block 0 (.loop (.seq (.seq (.region 4 (rg Tryz.f70 4) false) (.cond (.tmp 14) (.skip) (.exit 0))) (.seq (.block 1 (.seq (.region 6 (rg Tryz.f70 6) true) (.cond (.tmp 25) (.seq (.region 7 (rg Tryz.f70 7) false) (.ret)) (.skip)))) (.region 5 (rg Tryz.f70 5) false)))))) (.seq (.region 8 (rg Tryz.f70 8) false) (.ret))))) := by kernel_rfl
set_option maxRecDepth 100000 in
set_option maxHeartbeats 8000000 in
theorem RSame_c (a b : List RuleV) : Pure Tryz.prog 70 [tc (slP a), tc (slP b)] (vc (bo (decide (a = b)))) := by
 refine Pure.of_body Tryz.func70 f70_body (by kernel_rfl) Tryz.ntmps70 (by kernel_rfl) (by kernel_rfl) ?_
 refine AMx.sl 0 (l := a) rfl (fun hl => ?_)
 simp only [maxLen] at hl
 refine gS [] [] 26 [(0, vc (slP a)), (1, vc (slP b))] [] trivial ?_
 refine gQ ?_
 refine gS [] [] 26 [(0, vc (slP a)), (1, vc (slP b)), (10, vc (bo (!decide ((List.length a : Int) = (List.length b : Int)))))] [] trivial ?_
 refine gN ((List.length a : Int) = (List.length b : Int)) (fun hc1 => ?_) fun hc1 => ?_
 ·
  refine gS [] [] 26 [(4, vc (bo false))] [] trivial ?_
  exact gT (vc (bo false)) (by rw [decide_eq_false (fun h => by subst h; simp_all)])
 ·
  refine AMx.skip ?_
  refine gQ ?_
  refine gS [] [] 26 [(0, vc (slP a)), (1, vc (slP b)), (5, vc (i6 0))] [] trivial ?_
  refine AMx.block ?_
  refine AMx.ent (s' := AS.lst 26 [(0, vc (slP a)), (1, vc (slP b)), (5, vc (i6 0))] []) (ent_proj [0, 1, 5] []) ?_
  refine AMx.loop (fun mm ss => ∃ (i : Nat), (i ≤ a.length ∧ List.take i a = List.take i b) ∧ mm = a.length - i ∧ ss = AS.lst 26 [(0, vc (slP a)), (1, vc (slP b)), (5, vc (i6 (i : Int)))] []) ⟨0, ?_, rfl, ?_⟩ ?_
  · exact ⟨by omega, rfl⟩
  · rfl
  rintro mm ss ⟨i, ⟨hI, hE⟩, rfl, rfl⟩
  refine gQ ?_
  refine gS [] [] 26 [(0, vc (slP a)), (1, vc (slP b)), (5, vc (i6 (i : Int))), (14, vc (bo (decide ((i : Int) < (List.length a : Int)))))] [] trivial ?_
  refine gC ((i : Int) < (List.length a : Int)) (fun hc2 => ?_) fun hc2 => ?_
  ·
   refine AMx.skip ?_
   refine gQ ?_
   refine AMx.block ?_
   refine gY [] [] [(0 : Int) ≤ (i : Int), (i : Int) < List.length a, (0 : Int) ≤ (i : Int), (i : Int) < List.length b] 26 [(0, vc (slP a)), (1, vc (slP b)), (5, vc (i6 (i : Int))), (25, vc (bo (!(decide ((List.getD a i ([], 0)).1 = (List.getD b i ([], 0)).1) && (decide ((List.getD a i ([], 0)).2 = (List.getD b i ([], 0)).2) && true)))))] [] mixed ⟨(show (0 : Int) ≤ (i : Int) from (by omega)), (show (i : Int) < List.length a from (by omega)), (show (0 : Int) ≤ (i : Int) from (by omega)), (show (i : Int) < List.length b from (by omega))⟩ ?_
   refine gB (!(decide ((List.getD a i ([], 0)).1 = (List.getD b i ([], 0)).1) && (decide ((List.getD a i ([], 0)).2 = (List.getD b i ([], 0)).2) && true))) (fun hc3 => ?_) fun hc3 => ?_
   ·
    try simp only [xT, xF, xA, xB, xN, xM] at hc3
    refine gS [] [] 26 [(4, vc (bo false))] [] trivial ?_
    exact gT (vc (bo false)) (by rw [decide_eq_false (fun h => by subst h; simp_all)])
   ·
    try simp only [xT, xF, xA, xB, xN, xM] at hc3
    refine AMx.skip ?_
    refine AMx.blk ?_
    refine gR [] [InR .i64 ((i : Int) + 1)] 26 [(0, vc (slP a)), (1, vc (slP b)), (5, vc (i6 ((i : Int) + 1)))] [] (show InR .i64 ((i : Int) + 1) from (inR64 (by omega) (by omega))) ?_
    refine AMx.ent_inv (s' := AS.lst 26 [(0, vc (slP a)), (1, vc (slP b)), (5, vc (i6 ((i : Int) + 1)))] []) (ent_proj [0, 1, 5] []) ?_
    refine AMx.inv ⟨_, ?_, i + 1, ?_, rfl, ?_⟩
    rotate_left
    · exact ⟨by omega, Lib.same_step ([], 0) a b i (by omega) (by omega) hE (by grind)⟩
    · rfl
    · omega
  ·
   refine AMx.exit ?_
   refine AMx.code_exit ?_
   refine AMx.inv_exit ?_
   refine AMx.blk_exit ?_
   refine gS [] [] 26 [(4, vc (bo true))] [] trivial ?_
   exact gT (vc (bo true)) (by rw [decide_eq_true (Lib.same_end a b i (by omega) (by omega) hE)])
end AL.Policy
namespace Go.Proofs
open Go.Shelf
def Tryz.lays168_ren : Go.Shelf.Ren := ⟨fun | 168 => 120 | 240 => 141 | 242 => 142 | 276 => 156 | 278 => 157 | n => n, fun | 0 => 0 | 3 => 3 | 4 => 4 | 5 => 5 | 9 => 9 | 20 => 20 | 21 => 21 | 37 => 104 | 46 => 129 | 51 => 171 | 70 => 175 | 72 => 177 | 75 => 179 | 164 => 213 | 80 => 182 | n => n, fun | n => n⟩
theorem Tryz.lays168 : Go.Proofs.Lays.n168 Tryz.prog Tryz.lays168_ren := {
  mixed := by kernel_rfl
  f168 := Tryz.func120.trans (congrArg some (by kernel_rfl))
  f240 := Tryz.func141.trans (congrArg some (by kernel_rfl))
  f242 := Tryz.func142.trans (congrArg some (by kernel_rfl))
  f276 := Tryz.func156.trans (congrArg some (by kernel_rfl))
  f278 := Tryz.func157.trans (congrArg some (by kernel_rfl))
  t0 := Tryz.underlying0
  a0 := Tryz.isAgg0
  z0 := Tryz.sizeOf0
  v0 := Tryz.zeroValue0
  t3 := Tryz.underlying3
  a3 := Tryz.isAgg3
  z3 := Tryz.sizeOf3
  v3 := Tryz.zeroValue3
  t4 := Tryz.underlying4
  a4 := Tryz.isAgg4
  z4 := Tryz.sizeOf4
  v4 := Tryz.zeroValue4
  t5 := Tryz.underlying5
  a5 := Tryz.isAgg5
  z5 := Tryz.sizeOf5
  v5 := Tryz.zeroValue5
  t9 := Tryz.underlying9
  a9 := Tryz.isAgg9
  z9 := Tryz.sizeOf9
  v9 := Tryz.zeroValue9
  t20 := Tryz.underlying20
  a20 := Tryz.isAgg20
  z20 := Tryz.sizeOf20
  v20 := Tryz.zeroValue20
  t21 := Tryz.underlying21
  a21 := Tryz.isAgg21
  z21 := Tryz.sizeOf21
  v21 := Tryz.zeroValue21
  t37 := Tryz.underlying104
  a37 := Tryz.isAgg104
  z37 := Tryz.sizeOf104
  v37 := Tryz.zeroValue104
  t46 := Tryz.underlying129
  a46 := Tryz.isAgg129
  z46 := Tryz.sizeOf129
  v46 := Tryz.zeroValue129
  t51 := Tryz.underlying171
  a51 := Tryz.isAgg171
  z51 := Tryz.sizeOf171
  v51 := Tryz.zeroValue171
  t70 := Tryz.underlying175
  a70 := Tryz.isAgg175
  z70 := Tryz.sizeOf175
  v70 := Tryz.zeroValue175
  t72 := Tryz.underlying177
  a72 := Tryz.isAgg177
  z72 := Tryz.sizeOf177
  v72 := Tryz.zeroValue177
  t75 := Tryz.underlying179
  a75 := Tryz.isAgg179
  z75 := Tryz.sizeOf179
  v75 := Tryz.zeroValue179
  t164 := Tryz.underlying213
  a164 := Tryz.isAgg213
  z164 := Tryz.sizeOf213
  v164 := Tryz.zeroValue213 }
theorem Tryz.Builder_Extra_168 : Builder.Extra Tryz.prog Tryz.lays168_ren := {
  sizeBuilder := by kernel_rfl
  liesBuilder := by kernel_rfl
  t5 := Tryz.underlying5
  a5 := Tryz.isAgg5
  z5 := Tryz.sizeOf5
  v5 := Tryz.zeroValue5
  infoByte := by kernel_rfl
  cellsByte := by kernel_rfl
  sizeByte := by kernel_rfl
  neB5 := by decide }
open Go.RowKit in
theorem Tryz.WriteRune_k (B b : Nat) (bs : List Value) (r : Int) (hr0 : -2147483648 ≤ r) (hr1 : r ≤ 2147483647) (w : World) (h : Lib.IsBuilderF 177 5 B b bs w) (hlen : bs.length + 4 ≤ 140737488355328) (hBw : B ≤ w.heap.size) :
    Calls Tryz.prog 120 #[.pointer (some ⟨b, 0, none⟩), .int .i32 r] w fun e w' => e = .returned (.tuple #[.int .i64 (Lib.runeCells r).length, .nilIface]) ∧ (Lib.BuilderAtF 177 5 B b (.pointer (some ⟨b, 0, none⟩)) (bs ++ Lib.runeCells r) w' ∧ Below B w w' ∧ Lib.OthersKept 5 (some b) w w') :=
  Any.Builder_WriteRune_k Tryz.lays168 Tryz.Builder_Extra_168 B b bs r hr0 hr1 w h hlen hBw
end Go.Proofs
namespace AL.Policy
open Go Go.Proofs Go.RowKit AL AL.Rune
set_option linter.unusedVariables false
set_option linter.unusedSimpArgs false
theorem and_1 : ∀ m : Nat, m < 256 → (bits BinOp.and IntKind.u8 (m : Int) 1 == 1) = decide ((m : Int) % 2 = 1) := by decide +kernel
theorem bit_and {n : Int} (h0 : 0 ≤ n) (h1 : n ≤ 255) (pos : Nat) : (bits BinOp.and IntKind.u8 (n / 2 ^ pos) 1 == 1) = bitN n pos := by
  have hr := shr_rng h0 (by omega : n < 256) pos
  unfold shrN at hr
  obtain ⟨m, hm⟩ := Int.eq_ofNat_of_zero_le hr.1
  unfold bitN
  rw [hm]
  exact and_1 m (by omega)
theorem dec_lets : ∀ pos, pos < 6 → decS lets pos = ((List.getD lets pos 0).toNat, 1) ∧ Go.Lib.encodeRune (((List.getD lets pos 0).toNat : Nat) : Int) = [List.getD lets pos 0] := by decide +kernel
set_option maxHeartbeats 6400000 in
set_option maxRecDepth 1000000 in
theorem lay_walk (n : Int) (h0 : 0 ≤ n) (h1 : n ≤ 255) (w : World) :
    Calls Tryz.prog 87 #[.int .u8 n] w fun e w' => e = .returned (.string (ba (layS n))) ∧ Below w.heap.size w w' := by
  go_enter Tryz.func87, Tryz.ntmps87
  go_wp2
  go_loopw [7] (fun _ wr => ∃ pos : Nat, pos ≤ 6 ∧ Go.Lib.IsBuilderF 177 5 w.heap.size w.heap.size (Go.Lib.byteCells (layK n pos)) wr ∧ wr.heap[w.heap.size + 1]? = some (.stringIter (ba lets) pos) ∧ Below w.heap.size w wr)
    (fun _ wr => 6 - wr.iterPos (w.heap.size + 1))
  case atStart =>
    refine ⟨0, Nat.zero_le _, (Go.Lib.IsBuilderF.of (Go.Lib.fresh_isBuilder 177 5 w)).alloc _, ?_, ((Below.refl _ w).alloc (Nat.le_refl _) _).alloc (by simp) _⟩
    have := World.iter_heap (w.alloc (.cells #[.pointer none, .slice none 0 0] 177)) (ba lets) 0
    have e : ba lets = ⟨#[114, 119, 100, 120, 108, 115]⟩ := rfl
    rw [e] at this ⊢
    simpa using this
  case round =>
    obtain ⟨pos, hps, hI, hit, hbw⟩ := hrel
    have hlt : w.heap.size + 1 < wr.heap.size := (Array.getElem?_eq_some_iff.1 hit).1
    have hmu : wr.iterPos (w.heap.size + 1) = pos := by simp [World.iterPos, hit]
    by_cases hp : pos < 6
    · have hnx : ∀ ty, (Instr.next (.pointer (some ⟨w.heap.size + 1, 0, none⟩)) true ty).run Tryz.prog wr = Result.ok (Value.tuple #[Value.bool true, Value.int .i64 (pos : Int), Value.int .i32 ((decS lets pos).1 : Int)]) (wr.iterAt (w.heap.size + 1) (ba lets) (pos + (decS lets pos).2)) := fun ty => Go.Lib.run_next_any_at wr (w.heap.size + 1) (ba lets) pos ty hit (by show pos < 6; exact hp)
      have hd := dec_ok (s := lets) (pos := pos) hp
      have hI2 := hI.iterAt hit (pos + (decS lets pos).2)
      have hit2 := Go.Lib.iterAt_heap wr (w.heap.size + 1) (ba lets) pos (pos + (decS lets pos).2) hit
      have hbw2 := Go.Lib.below_iterAt hbw (k := w.heap.size + 1) (by omega) (ba lets) (pos + (decS lets pos).2)
      have hsz2 : w.heap.size + 1 < (wr.iterAt (w.heap.size + 1) (ba lets) (pos + (decS lets pos).2)).heap.size := by rw [Go.Lib.iterAt_size]; exact hlt
      generalize wr.iterAt (w.heap.size + 1) (ba lets) (pos + (decS lets pos).2) = W1 at hnx hI2 hit2 hbw2 hsz2
      have hrm := dec_max lets pos
      have hll := lay_len n pos
      cases hb : bitN n pos with
      | true =>
        have hbt := (bit_and h0 h1 pos).trans hb
        go_wp2_with (go_at_call 120; go_loud (refine (Tryz.WriteRune_k w.heap.size w.heap.size _ _ (by omega) (by omega) _ hI2 (by rw [Go.Lib.byteCells_length]; omega) (hbw2.size)).mono ?_); rintro e W3 ⟨rfl, h1, b1, k1⟩)
        go_wp2
        go_roundw
        case rel =>
          obtain ⟨d1, d2⟩ := dec_lets pos hp
          refine ⟨pos + (decS lets pos).2, by rw [d1]; exact hp, ?_, k1.iter hit2 (by omega), hbw2.trans b1⟩
          rw [d1] at h1 ⊢
          rw [lay_t hb, Go.Lib.byteCells_append]
          rw [← d2, Go.Lib.byteCells_encodeRune]; exact .inr h1
        case measure =>
          simp only [World.iterPos, k1.iter hit2 (by omega), hit]
          omega
      | false =>
        have hbt := (bit_and h0 h1 pos).trans hb
        go_wp2
        go_roundw
        case rel =>
          obtain ⟨d1, d2⟩ := dec_lets pos hp
          refine ⟨pos + (decS lets pos).2, by rw [d1]; exact hp, ?_, hit2, hbw2⟩
          rw [d1]
          rw [lay_f hb]; exact hI2
        case measure =>
          simp only [World.iterPos, hit2, hit]
          omega
    · have hnx : ∀ ty, (Instr.next (.pointer (some ⟨w.heap.size + 1, 0, none⟩)) true ty).run Tryz.prog wr = _ := fun ty => Go.Lib.run_next_end_at wr (w.heap.size + 1) (ba lets) pos ty hit (by show ¬ pos < 6; exact hp)
      go_wp2_with (go_at_call 121; refine (Tryz.Builder_String_any_k w.heap.size w.heap.size (layK n pos) wr hI hbw.size).mono ?_; rintro e W1 ⟨rfl, _, hb1, _⟩)
      go_wp2
      go_ret
      refine ⟨?_, hbw.trans hb1⟩
      rw [show pos = 6 by omega, lay_6 h0]; rfl
theorem lay_c (n : Int) : Pure Tryz.prog 87 [tc (u8 n)] (vc (st (layS n))) := by
  refine Pure.of_below ⟨_, Tryz.func87, by kernel_rfl, by kernel_rfl⟩ fun Γ w cargs hh hm => ?_
  obtain ⟨u, rfl, ⟨rfl, hu⟩⟩ := args1 hm
  rw [inR8_iff] at hu
  refine (lay_walk n hu.1 hu.2 w).mono ?_
  rintro e w' ⟨rfl, hb⟩
  have h := layS_len n
  exact ⟨_, rfl, hb, rfl, by simp only [maxLen]; omega⟩
end AL.Policy
namespace AL.Policy
open Go Go.Proofs AL AL.Rune
set_option linter.unusedVariables false
set_option linter.unusedSimpArgs false
theorem f61_body : Tryz.f61.body = some (.seq (.region 0 (rg Tryz.f61 0) false) (.seq (.seq (.region 1 (rg Tryz.f61 1) false) (.seq (.region 2 (rg Tryz.f61 2) false) (.cond (.tmp 11) (.seq (.region 3 (rg Tryz.f61 3) false) (.ret)) (.skip)))) (.seq (.region 4 (rg Tryz.f61 4) false) (.seq (.seq (.region 5 (rg Tryz.f61 5) false) (.block 0 (.loop (.seq (.region 6 (rg Tryz.f61 6) false) (.seq (.cond (.tmp 19) (.skip) (.exit 0)) (.seq (.block 1 (.seq (.region 7 (rg Tryz.f61 7) false) (.region 8 (rg Tryz.f61 8) true))) (.region 9 (rg Tryz.f61 9) false))))))) (.seq (.region 10 (rg Tryz.f61 10) false) (.ret)))))) := by kernel_rfl
set_option maxRecDepth 100000 in
set_option maxHeartbeats 8000000 in
theorem Text_c (l : List RuleV) : Pure Tryz.prog 61 [tc (slP l)] (AV.tup [tc (st ((textP l).1)), tc (i6 ((textP l).2))]) := by
 refine Pure.of_body Tryz.func61 f61_body (by kernel_rfl) Tryz.ntmps61 (by kernel_rfl) (by kernel_rfl) ?_
 refine AMx.sl 0 (l := l) rfl (fun hl => ?_)
 simp only [maxLen] at hl
 refine gS [] [] 36 [(0, vc (slP l))] [] trivial ?_
 refine gQ ?_
 refine gS [(1, CE.call [] [] (vc (i6 (checkP l))) [])] [Spec Tryz.prog 41 [tc (slP l)] (ofH []) (vc (i6 (checkP l))) (ofH [])] 36 [(0, vc (slP l)), (4, vc (i6 (checkP l)))] [] (Check_c l) ?_
 refine gS [] [] 36 [(0, vc (slP l)), (4, vc (i6 (checkP l))), (11, vc (bo (!decide (checkP l = 0))))] [] trivial ?_
 refine gN (checkP l = 0) (fun hc1 => ?_) fun hc1 => ?_
 ·
  refine gS [] [] 36 [(2, vc (st [])), (3, vc (i6 (checkP l)))] [] trivial ?_
  exact gT (AV.tup [tc (st []), tc (i6 (checkP l))]) (by rw [show textP l = ([], checkP l) from by first | rw [text_no (by assumption)] | (rw [text_ok (by assumption)]; rfl)])
 ·
  refine AMx.skip ?_
  refine gS [(2, CE.obj (AObj.grow 9 1 Bytes [] AL.Fnv.rowS (List.replicate (List.length l) [])))] [0 ≤ (List.length l : Int), (List.length l : Int) ≤ (List.length l : Int), (16 : Int) * (List.length l : Int) ≤ 281474976710656, (List.length l : Int) ≤ 9223372036854775807, MakeC (List.length l) [.s (st [])] (AObj.grow 9 1 Bytes [] AL.Fnv.rowS (List.replicate (List.length l) []))] 36 [(0, vc (slP l)), (5, vo 15)] [(15, AObj.grow 9 1 Bytes [] AL.Fnv.rowS (List.replicate (List.length l) []))] ⟨(show 0 ≤ (List.length l : Int) from (by first | omega | (have q1 := check_len (l := l) (by assumption); first | omega | ((try simp only [List.length_append, List.length_cons, List.length_nil, List.length_replicate, List.length_map, List.length_take, List.length_drop, pref_len, ruled_len]); omega)) | (have q4 := text_small (l := l) (by assumption); omega) | (have q1 := check_len (l := l) (by assumption); have q2 := ok_at (l := l) (k := k) (by assumption) (by omega); have q3 := layS_len (List.getD l k ([], 0)).2; (try simp only [List.length_append, List.length_cons, List.length_nil, List.length_replicate, List.length_map, List.length_take, List.length_drop, pref_len, ruled_len]); omega))), (show (List.length l : Int) ≤ (List.length l : Int) from (by first | omega | (have q1 := check_len (l := l) (by assumption); first | omega | ((try simp only [List.length_append, List.length_cons, List.length_nil, List.length_replicate, List.length_map, List.length_take, List.length_drop, pref_len, ruled_len]); omega)) | (have q4 := text_small (l := l) (by assumption); omega) | (have q1 := check_len (l := l) (by assumption); have q2 := ok_at (l := l) (k := k) (by assumption) (by omega); have q3 := layS_len (List.getD l k ([], 0)).2; (try simp only [List.length_append, List.length_cons, List.length_nil, List.length_replicate, List.length_map, List.length_take, List.length_drop, pref_len, ruled_len]); omega))), (show (16 : Int) * (List.length l : Int) ≤ 281474976710656 from (by first | omega | (have q1 := check_len (l := l) (by assumption); first | omega | ((try simp only [List.length_append, List.length_cons, List.length_nil, List.length_replicate, List.length_map, List.length_take, List.length_drop, pref_len, ruled_len]); omega)) | (have q4 := text_small (l := l) (by assumption); omega) | (have q1 := check_len (l := l) (by assumption); have q2 := ok_at (l := l) (k := k) (by assumption) (by omega); have q3 := layS_len (List.getD l k ([], 0)).2; (try simp only [List.length_append, List.length_cons, List.length_nil, List.length_replicate, List.length_map, List.length_take, List.length_drop, pref_len, ruled_len]); omega))), (show (List.length l : Int) ≤ 9223372036854775807 from (by first | omega | (have q1 := check_len (l := l) (by assumption); first | omega | ((try simp only [List.length_append, List.length_cons, List.length_nil, List.length_replicate, List.length_map, List.length_take, List.length_drop, pref_len, ruled_len]); omega)) | (have q4 := text_small (l := l) (by assumption); omega) | (have q1 := check_len (l := l) (by assumption); have q2 := ok_at (l := l) (k := k) (by assumption) (by omega); have q3 := layS_len (List.getD l k ([], 0)).2; (try simp only [List.length_append, List.length_cons, List.length_nil, List.length_replicate, List.length_map, List.length_take, List.length_drop, pref_len, ruled_len]); omega))), (⟨_, rfl, rfl⟩)⟩ ?_
  refine gQ ?_
  refine gS [] [] 36 [(5, vo 15), (16, vc (slP l)), (17, vc (i6 (List.length l : Int))), (18, vc (i6 0))] [(15, AObj.grow 9 1 Bytes [] AL.Fnv.rowS (List.replicate (List.length l) []))] trivial ?_
  refine AMx.block ?_
  refine AMx.ent (s' := AS.lst 36 [(5, vo 15), (16, vc (slP l)), (17, vc (i6 (List.length l : Int))), (18, vc (i6 0))] [(15, AObj.grow 9 1 Bytes [] AL.Fnv.rowS (List.replicate (List.length l) []))]) (ent_proj [5, 16, 17, 18] [15]) ?_
  refine AMx.loop (fun mm ss => ∃ (k : Nat), (k ≤ l.length) ∧ mm = l.length - k ∧ ss = AS.lst 36 [(5, vo 15), (16, vc (slP l)), (17, vc (i6 (List.length l : Int))), (18, vc (i6 (k : Int)))] [(15, AObj.grow 9 1 Bytes [] AL.Fnv.rowS ((List.take k l).map pieceS ++ List.replicate (l.length - k) []))]) ⟨0, ?_, rfl, ?_⟩ ?_
  · omega
  · rfl
  rintro mm ss ⟨k, hI, rfl, rfl⟩
  refine gS [] [] 36 [(5, vo 15), (16, vc (slP l)), (17, vc (i6 (List.length l : Int))), (18, vc (i6 (k : Int))), (19, vc (bo (decide ((k : Int) < (List.length l : Int)))))] [(15, AObj.grow 9 1 Bytes [] AL.Fnv.rowS ((List.take k l).map pieceS ++ List.replicate (l.length - k) []))] trivial ?_
  refine gQ ?_
  refine gC ((k : Int) < (List.length l : Int)) (fun hc2 => ?_) fun hc2 => ?_
  ·
   refine AMx.skip ?_
   refine gQ ?_
   refine AMx.block ?_
   refine gS [] [(0 : Int) ≤ (k : Int), (k : Int) < List.length l] 36 [(5, vo 15), (6, vc (i6 (k : Int))), (7, vp 7 0), (16, vc (slP l)), (17, vc (i6 (List.length l : Int))), (18, vc (i6 (k : Int)))] [(7, AObj.row [.s (st ((List.getD l k ([], 0)).1)), .s (u8 ((List.getD l k ([], 0)).2))]), (15, AObj.grow 9 1 Bytes [] AL.Fnv.rowS ((List.take k l).map pieceS ++ List.replicate (l.length - k) []))] ⟨(show (0 : Int) ≤ (k : Int) from (by first | omega | (have q1 := check_len (l := l) (by assumption); first | omega | ((try simp only [List.length_append, List.length_cons, List.length_nil, List.length_replicate, List.length_map, List.length_take, List.length_drop, pref_len, ruled_len]); omega)) | (have q4 := text_small (l := l) (by assumption); omega) | (have q1 := check_len (l := l) (by assumption); have q2 := ok_at (l := l) (k := k) (by assumption) (by omega); have q3 := layS_len (List.getD l k ([], 0)).2; (try simp only [List.length_append, List.length_cons, List.length_nil, List.length_replicate, List.length_map, List.length_take, List.length_drop, pref_len, ruled_len]); omega))), (show (k : Int) < List.length l from (by first | omega | (have q1 := check_len (l := l) (by assumption); first | omega | ((try simp only [List.length_append, List.length_cons, List.length_nil, List.length_replicate, List.length_map, List.length_take, List.length_drop, pref_len, ruled_len]); omega)) | (have q4 := text_small (l := l) (by assumption); omega) | (have q1 := check_len (l := l) (by assumption); have q2 := ok_at (l := l) (k := k) (by assumption) (by omega); have q3 := layS_len (List.getD l k ([], 0)).2; (try simp only [List.length_append, List.length_cons, List.length_nil, List.length_replicate, List.length_map, List.length_take, List.length_drop, pref_len, ruled_len]); omega)))⟩ ?_
   refine gX [(7, CE.call [] [] (vc (st (layS ((List.getD l k ([], 0)).2)))) []), (10, CE.obj (AObj.grow 9 1 Bytes [] AL.Fnv.rowS (List.set ((List.take k l).map pieceS ++ List.replicate (l.length - k) []) k ((((List.getD l k ([], 0)).1) ++ [58]) ++ (layS ((List.getD l k ([], 0)).2))))))] [(3, [7]), (6, [7]), (9, [15]), (10, [15])] [List.length ((List.getD l k ([], 0)).1 : List UInt8) + List.length ([58] : List UInt8) ≤ maxLen, Spec Tryz.prog 87 [tc (u8 ((List.getD l k ([], 0)).2))] (ofH []) (vc (st (layS ((List.getD l k ([], 0)).2)))) (ofH []), List.length (((List.getD l k ([], 0)).1) ++ [58] : List UInt8) + List.length (layS ((List.getD l k ([], 0)).2) : List UInt8) ≤ maxLen, (0 : Int) ≤ (k : Int), (k : Int) < List.length ((List.take k l).map pieceS ++ List.replicate (l.length - k) [] : List Bytes), StoreC k 0 [.s (st ((((List.getD l k ([], 0)).1) ++ [58]) ++ (layS ((List.getD l k ([], 0)).2))))] (AObj.grow 9 1 Bytes [] AL.Fnv.rowS ((List.take k l).map pieceS ++ List.replicate (l.length - k) [])) (AObj.grow 9 1 Bytes [] AL.Fnv.rowS (List.set ((List.take k l).map pieceS ++ List.replicate (l.length - k) []) k ((((List.getD l k ([], 0)).1) ++ [58]) ++ (layS ((List.getD l k ([], 0)).2)))))] 36 [(5, vo 15), (16, vc (slP l)), (17, vc (i6 (List.length l : Int))), (18, vc (i6 (k : Int)))] [(15, AObj.grow 9 1 Bytes [] AL.Fnv.rowS (List.set ((List.take k l).map pieceS ++ List.replicate (l.length - k) []) k ((((List.getD l k ([], 0)).1) ++ [58]) ++ (layS ((List.getD l k ([], 0)).2)))))] mixed ⟨(show List.length ((List.getD l k ([], 0)).1 : List UInt8) + List.length ([58] : List UInt8) ≤ maxLen from (by simp only [List.length_append, List.length_cons, List.length_nil, maxLen]; first | omega | (first | omega | (have q1 := check_len (l := l) (by assumption); first | omega | ((try simp only [List.length_append, List.length_cons, List.length_nil, List.length_replicate, List.length_map, List.length_take, List.length_drop, pref_len, ruled_len]); omega)) | (have q4 := text_small (l := l) (by assumption); omega) | (have q1 := check_len (l := l) (by assumption); have q2 := ok_at (l := l) (k := k) (by assumption) (by omega); have q3 := layS_len (List.getD l k ([], 0)).2; (try simp only [List.length_append, List.length_cons, List.length_nil, List.length_replicate, List.length_map, List.length_take, List.length_drop, pref_len, ruled_len]); omega)))), (lay_c ((List.getD l k ([], 0)).2)), (show List.length (((List.getD l k ([], 0)).1) ++ [58] : List UInt8) + List.length (layS ((List.getD l k ([], 0)).2) : List UInt8) ≤ maxLen from (by simp only [List.length_append, List.length_cons, List.length_nil, maxLen]; first | omega | (first | omega | (have q1 := check_len (l := l) (by assumption); first | omega | ((try simp only [List.length_append, List.length_cons, List.length_nil, List.length_replicate, List.length_map, List.length_take, List.length_drop, pref_len, ruled_len]); omega)) | (have q4 := text_small (l := l) (by assumption); omega) | (have q1 := check_len (l := l) (by assumption); have q2 := ok_at (l := l) (k := k) (by assumption) (by omega); have q3 := layS_len (List.getD l k ([], 0)).2; (try simp only [List.length_append, List.length_cons, List.length_nil, List.length_replicate, List.length_map, List.length_take, List.length_drop, pref_len, ruled_len]); omega)))), (show (0 : Int) ≤ (k : Int) from (by first | omega | (have q1 := check_len (l := l) (by assumption); first | omega | ((try simp only [List.length_append, List.length_cons, List.length_nil, List.length_replicate, List.length_map, List.length_take, List.length_drop, pref_len, ruled_len]); omega)) | (have q4 := text_small (l := l) (by assumption); omega) | (have q1 := check_len (l := l) (by assumption); have q2 := ok_at (l := l) (k := k) (by assumption) (by omega); have q3 := layS_len (List.getD l k ([], 0)).2; (try simp only [List.length_append, List.length_cons, List.length_nil, List.length_replicate, List.length_map, List.length_take, List.length_drop, pref_len, ruled_len]); omega))), (show (k : Int) < List.length ((List.take k l).map pieceS ++ List.replicate (l.length - k) [] : List Bytes) from (by first | omega | (have q1 := check_len (l := l) (by assumption); first | omega | ((try simp only [List.length_append, List.length_cons, List.length_nil, List.length_replicate, List.length_map, List.length_take, List.length_drop, pref_len, ruled_len]); omega)) | (have q4 := text_small (l := l) (by assumption); omega) | (have q1 := check_len (l := l) (by assumption); have q2 := ok_at (l := l) (k := k) (by assumption) (by omega); have q3 := layS_len (List.getD l k ([], 0)).2; (try simp only [List.length_append, List.length_cons, List.length_nil, List.length_replicate, List.length_map, List.length_take, List.length_drop, pref_len, ruled_len]); omega))), (⟨(((List.getD l k ([], 0)).1) ++ [58]) ++ (layS ((List.getD l k ([], 0)).2)), rfl, by first | omega | (have q1 := check_len (l := l) (by assumption); first | omega | ((try simp only [List.length_append, List.length_cons, List.length_nil, List.length_replicate, List.length_map, List.length_take, List.length_drop, pref_len, ruled_len]); omega)) | (have q4 := text_small (l := l) (by assumption); omega) | (have q1 := check_len (l := l) (by assumption); have q2 := ok_at (l := l) (k := k) (by assumption) (by omega); have q3 := layS_len (List.getD l k ([], 0)).2; (try simp only [List.length_append, List.length_cons, List.length_nil, List.length_replicate, List.length_map, List.length_take, List.length_drop, pref_len, ruled_len]); omega), rfl⟩)⟩ ?_
   refine AMx.blk ?_
   refine gR [] [InR .i64 ((k : Int) + 1)] 36 [(5, vo 15), (16, vc (slP l)), (17, vc (i6 (List.length l : Int))), (18, vc (i6 ((k : Int) + 1)))] [(15, AObj.grow 9 1 Bytes [] AL.Fnv.rowS (List.set ((List.take k l).map pieceS ++ List.replicate (l.length - k) []) k ((((List.getD l k ([], 0)).1) ++ [58]) ++ (layS ((List.getD l k ([], 0)).2)))))] (show InR .i64 ((k : Int) + 1) from (inR64 (by first | omega | (have q1 := check_len (l := l) (by assumption); first | omega | ((try simp only [List.length_append, List.length_cons, List.length_nil, List.length_replicate, List.length_map, List.length_take, List.length_drop, pref_len, ruled_len]); omega)) | (have q4 := text_small (l := l) (by assumption); omega) | (have q1 := check_len (l := l) (by assumption); have q2 := ok_at (l := l) (k := k) (by assumption) (by omega); have q3 := layS_len (List.getD l k ([], 0)).2; (try simp only [List.length_append, List.length_cons, List.length_nil, List.length_replicate, List.length_map, List.length_take, List.length_drop, pref_len, ruled_len]); omega)) (by first | omega | (have q1 := check_len (l := l) (by assumption); first | omega | ((try simp only [List.length_append, List.length_cons, List.length_nil, List.length_replicate, List.length_map, List.length_take, List.length_drop, pref_len, ruled_len]); omega)) | (have q4 := text_small (l := l) (by assumption); omega) | (have q1 := check_len (l := l) (by assumption); have q2 := ok_at (l := l) (k := k) (by assumption) (by omega); have q3 := layS_len (List.getD l k ([], 0)).2; (try simp only [List.length_append, List.length_cons, List.length_nil, List.length_replicate, List.length_map, List.length_take, List.length_drop, pref_len, ruled_len]); omega)))) ?_
   refine AMx.ent_inv (s' := AS.lst 36 [(5, vo 15), (16, vc (slP l)), (17, vc (i6 (List.length l : Int))), (18, vc (i6 ((k : Int) + 1)))] [(15, AObj.grow 9 1 Bytes [] AL.Fnv.rowS (List.set ((List.take k l).map pieceS ++ List.replicate (l.length - k) []) k ((((List.getD l k ([], 0)).1) ++ [58]) ++ (layS ((List.getD l k ([], 0)).2)))))]) (ent_proj [5, 16, 17, 18] [15]) ?_
   refine AMx.inv ⟨_, ?_, k + 1, ?_, rfl, ?_⟩
   rotate_left
   · omega
   · rw [← piece_step l k (by omega)]; rfl
   · omega
  ·
   refine AMx.exit ?_
   refine AMx.code_exit ?_
   refine AMx.inv_exit ?_
   refine AMx.blk_exit ?_
   rw [show (List.take k l).map pieceS ++ List.replicate (l.length - k) [] = l.map pieceS from piece_end l k (by omega)]
   refine gS [(1, CE.call [15] [] (vc (st (AL.Sep.joinC 44 (l.map pieceS)))) [])] [Spec Tryz.prog 88 [tc (AL.Fnv.slS (l.map pieceS)), tc (st [44])] (ofH []) (vc (st (AL.Sep.joinC 44 (l.map pieceS)))) (ofH [])] 36 [(2, vc (st (AL.Sep.joinC 44 (l.map pieceS)))), (3, vc (i6 0))] [] (AL.Sep.Join_c 44 (l.map pieceS) (by first | omega | (have q1 := check_len (l := l) (by assumption); first | omega | ((try simp only [List.length_append, List.length_cons, List.length_nil, List.length_replicate, List.length_map, List.length_take, List.length_drop, pref_len, ruled_len]); omega)) | (have q4 := text_small (l := l) (by assumption); omega) | (have q1 := check_len (l := l) (by assumption); have q2 := ok_at (l := l) (k := k) (by assumption) (by omega); have q3 := layS_len (List.getD l k ([], 0)).2; (try simp only [List.length_append, List.length_cons, List.length_nil, List.length_replicate, List.length_map, List.length_take, List.length_drop, pref_len, ruled_len]); omega))) ?_
   exact gT (AV.tup [tc (st (AL.Sep.joinC 44 (l.map pieceS))), tc (i6 0)]) (by rw [show textP l = (AL.Sep.joinC 44 (l.map pieceS), 0) from by first | rw [text_no (by assumption)] | (rw [text_ok (by assumption)]; rfl)])
end AL.Policy
namespace AL.Policy
open Go Go.Proofs AL AL.Rune
set_option linter.unusedVariables false
set_option linter.unusedSimpArgs false
theorem f28_body : Tryz.f28.body = some (.seq (.region 0 (rg Tryz.f28 0) false) (.seq (.seq (.region 1 (rg Tryz.f28 1) false) (.cond (.tmp 16) (.seq (.region 2 (rg Tryz.f28 2) false) (.ret)) (.skip))) (.seq (.seq (.region 3 (rg Tryz.f28 3) false) (.block 0 (.loop (.seq (.region 4 (rg Tryz.f28 4) false) (.seq (.cond (.tmp 21) (.skip) (.exit 0)) (.seq (.block 1 (.seq (.region 5 (rg Tryz.f28 5) false) (.seq (.region 6 (rg Tryz.f28 6) false) (.block 2 (.loop (.seq (.region 7 (rg Tryz.f28 7) false) (.seq (.cond (.tmp 26) (.skip) (.exit 2)) (.seq (.block 3 (.seq (.region 8 (rg Tryz.f28 8) false) (.seq (.region 9 (rg Tryz.f28 9) true) (.cond (.tmp 37) (.seq (.region 10 (rg Tryz.f28 10) false) (.ret)) (.skip))))) (.region 11 (rg Tryz.f28 11) false))))))))) (.region 12 (rg Tryz.f28 12) false))))))) (.seq (.region 13 (rg Tryz.f28 13) false) (.ret))))) := by kernel_rfl
set_option maxRecDepth 100000 in
set_option maxHeartbeats 8000000 in
theorem Covers_c (a b : List RuleV) : Pure Tryz.prog 28 [tc (slP a), tc (slP b)] (vc (bo (coversS a b))) := by
 refine Pure.of_body Tryz.func28 f28_body (by kernel_rfl) Tryz.ntmps28 (by kernel_rfl) (by kernel_rfl) ?_
 refine gS [] [] 40 [(0, vc (slP a)), (1, vc (slP b))] [] trivial ?_
 refine gQ ?_
 refine gS [(1, CE.call [] [] (vc (i6 (checkP a))) []), (5, CE.call [] [] (vc (i6 (checkP b))) [])] [Spec Tryz.prog 41 [tc (slP a)] (ofH []) (vc (i6 (checkP a))) (ofH []), ((!decide (checkP a = 0)) = false) → allP [], ((!decide (checkP a = 0)) = false) → allP [(!decide (checkP a = 0)) = false, Spec Tryz.prog 41 [tc (slP b)] (ofH []) (vc (i6 (checkP b))) (ofH [])], ((!decide (checkP a = 0)) = false) → allP [(!decide (checkP a = 0)) = false], (!decide (checkP a = 0)) = false → allP [(!decide (checkP a = 0)) = false]] 40 [(0, vc (slP a)), (1, vc (slP b)), (16, vc (bo ((!decide (checkP a = 0)) || (!decide (checkP b = 0)))))] [] ⟨(Check_c a), (fun _ => trivial), (fun hp => by have hq := hp; (try simp only [decide_eq_true_eq, decide_eq_false_iff_not, Bool.and_eq_true, Bool.or_eq_true, Bool.and_eq_false_iff, Bool.or_eq_false_iff, Bool.not_eq_true', Bool.not_eq_false', Bool.not_eq_true, Bool.not_eq_false] at hq); exact ⟨hp, (Check_c b)⟩), (fun hp => hp), (fun hp2 => (by first | exact hp2 | exact ⟨hp, hp2⟩))⟩ ?_
 refine gB (((!decide (checkP a = 0)) || (!decide (checkP b = 0)))) (fun hc1 => ?_) fun hc1 => ?_
 ·
  try simp only [xT, xF, xO, xP, xN, xM] at hc1
  refine gS [] [] 40 [(4, vc (bo false))] [] trivial ?_
  exact gT (vc (bo false)) (by first | (rw [covers_no (by omega)]; done) | (rw [covers_bad (l := a) (.inl rfl) (k := j) (by omega) (by assumption)]; done) | (rw [covers_bad (l := b) (.inr rfl) (k := j) (by omega) (by assumption)]))
 ·
  try simp only [xT, xF, xO, xP, xN, xM] at hc1
  refine AMx.skip ?_
  refine gQ ?_
  refine gS [] [] 40 [(0, vc (slP a)), (1, vc (slP b)), (19, AV.t (TV.agg [.s (slP a), .s (slP b)])), (20, vc (i6 0))] [] trivial ?_
  refine AMx.block ?_
  refine AMx.ent (s' := AS.lst 40 [(0, vc (slP a)), (1, vc (slP b)), (19, AV.t (TV.agg [.s (slP a), .s (slP b)])), (20, vc (i6 0))] []) (ent_proj [0, 1, 19, 20] []) ?_
  refine AMx.loop (fun mm ss => ∃ (k : Nat), (k ≤ 2 ∧ (k = 0 ∨ coverS a b (prefS a) = true) ∧ (k ≤ 1 ∨ coverS a b (prefS b) = true)) ∧ mm = 2 - k ∧ ss = AS.lst 40 [(0, vc (slP a)), (1, vc (slP b)), (19, AV.t (TV.agg [.s (slP a), .s (slP b)])), (20, vc (i6 (k : Int)))] []) ⟨0, ?_, rfl, ?_⟩ ?_
  · exact ⟨by omega, .inl rfl, .inl (by omega)⟩
  · rfl
  rintro mm ss ⟨k, ⟨hI, hA, hB⟩, rfl, rfl⟩
  rcases (show k = 0 ∨ k = 1 ∨ k = 2 by omega) with rfl | rfl | rfl
  ·
   refine gS [] [] 40 [(0, vc (slP a)), (1, vc (slP b)), (19, AV.t (TV.agg [.s (slP a), .s (slP b)])), (20, vc (i6 0)), (21, vc (bo true))] [] trivial ?_
   refine gQ ?_
   refine gBt ?_
   refine AMx.skip ?_
   refine gQ ?_
   refine AMx.block ?_
   refine gS [] [(0 : Int) ≤ 0, (0 : Int) < 2] 40 [(0, vc (slP a)), (1, vc (slP b)), (6, vc (slP a)), (19, AV.t (TV.agg [.s (slP a), .s (slP b)])), (20, vc (i6 0))] [] ⟨(show (0 : Int) ≤ 0 from (by first | omega | (have q1 := check_len (l := a) (by omega); have q2 := check_len (l := b) (by omega); omega))), (show (0 : Int) < 2 from (by first | omega | (have q1 := check_len (l := a) (by omega); have q2 := check_len (l := b) (by omega); omega)))⟩ ?_
   refine gS [] [] 40 [(0, vc (slP a)), (1, vc (slP b)), (19, AV.t (TV.agg [.s (slP a), .s (slP b)])), (20, vc (i6 0)), (23, vc (slP a)), (24, vc (i6 (List.length a : Int))), (25, vc (i6 0))] [] trivial ?_
   refine AMx.block ?_
   refine AMx.ent (s' := AS.lst 40 [(0, vc (slP a)), (1, vc (slP b)), (19, AV.t (TV.agg [.s (slP a), .s (slP b)])), (20, vc (i6 0)), (23, vc (slP a)), (24, vc (i6 (List.length a : Int))), (25, vc (i6 0))] []) (ent_proj [0, 1, 19, 20, 23, 24, 25] []) ?_
   refine AMx.loop (fun mm ss => ∃ (j : Nat), (j ≤ a.length ∧ coverS a b (prefS (List.take j a)) = true) ∧ mm = a.length - j ∧ ss = AS.lst 40 [(0, vc (slP a)), (1, vc (slP b)), (19, AV.t (TV.agg [.s (slP a), .s (slP b)])), (20, vc (i6 0)), (23, vc (slP a)), (24, vc (i6 (List.length a : Int))), (25, vc (i6 (j : Int)))] []) ⟨0, ?_, rfl, ?_⟩ ?_
   · exact ⟨Nat.zero_le _, rfl⟩
   · rfl
   rintro mm ss ⟨j, ⟨hJ, hC⟩, rfl, rfl⟩
   refine gS [] [] 40 [(0, vc (slP a)), (1, vc (slP b)), (19, AV.t (TV.agg [.s (slP a), .s (slP b)])), (20, vc (i6 0)), (23, vc (slP a)), (24, vc (i6 (List.length a : Int))), (25, vc (i6 (j : Int))), (26, vc (bo (decide ((j : Int) < (List.length a : Int)))))] [] trivial ?_
   refine gQ ?_
   refine gC ((j : Int) < (List.length a : Int)) (fun hc3 => ?_) fun hc3 => ?_
   ·
    refine AMx.skip ?_
    refine gQ ?_
    refine AMx.block ?_
    refine gS [] [(0 : Int) ≤ (j : Int), (j : Int) < List.length a] 40 [(0, vc (slP a)), (1, vc (slP b)), (8, vp 8 0), (19, AV.t (TV.agg [.s (slP a), .s (slP b)])), (20, vc (i6 0)), (23, vc (slP a)), (24, vc (i6 (List.length a : Int))), (25, vc (i6 (j : Int)))] [(8, AObj.row [.s (st ((List.getD a j ([], 0)).1)), .s (u8 ((List.getD a j ([], 0)).2))])] ⟨(show (0 : Int) ≤ (j : Int) from (by first | omega | (have q1 := check_len (l := a) (by omega); have q2 := check_len (l := b) (by omega); omega))), (show (j : Int) < List.length a from (by first | omega | (have q1 := check_len (l := a) (by omega); have q2 := check_len (l := b) (by omega); omega)))⟩ ?_
    refine gY [(6, CE.call [] [] (vc (u8 (capsP a ((List.getD a j ([], 0)).1)))) []), (7, CE.call [] [] (vc (bo (allowsS b ((List.getD a j ([], 0)).1) (capsP a ((List.getD a j ([], 0)).1))))) [])] [(2, [8]), (5, [8])] [Spec Tryz.prog 56 [tc (slP a), tc (st ((List.getD a j ([], 0)).1))] (ofH []) (vc (u8 (capsP a ((List.getD a j ([], 0)).1)))) (ofH []), Spec Tryz.prog 59 [tc (slP b), tc (st ((List.getD a j ([], 0)).1)), tc (u8 (capsP a ((List.getD a j ([], 0)).1)))] (ofH []) (vc (bo (allowsS b ((List.getD a j ([], 0)).1) (capsP a ((List.getD a j ([], 0)).1))))) (ofH [])] 40 [(0, vc (slP a)), (1, vc (slP b)), (19, AV.t (TV.agg [.s (slP a), .s (slP b)])), (20, vc (i6 0)), (23, vc (slP a)), (24, vc (i6 (List.length a : Int))), (25, vc (i6 (j : Int))), (37, vc (bo (!(allowsS b ((List.getD a j ([], 0)).1) (capsP a ((List.getD a j ([], 0)).1))))))] [] mixed ⟨(Caps_c a ((List.getD a j ([], 0)).1) (by first | omega | (have q1 := check_len (l := a) (by omega); have q2 := check_len (l := b) (by omega); omega))), (Allows_c b ((List.getD a j ([], 0)).1) (capsP a ((List.getD a j ([], 0)).1)) (by first | omega | (have q1 := check_len (l := a) (by omega); have q2 := check_len (l := b) (by omega); omega)))⟩ ?_
    refine gB (!(allowsS b ((List.getD a j ([], 0)).1) (capsP a ((List.getD a j ([], 0)).1)))) (fun hc4 => ?_) fun hc4 => ?_
    ·
     try simp only [xT, xF, xN, xM] at hc4
     refine gS [] [] 40 [(4, vc (bo false))] [] trivial ?_
     exact gT (vc (bo false)) (by first | (rw [covers_no (by omega)]; done) | (rw [covers_bad (l := a) (.inl rfl) (k := j) (by omega) (by assumption)]; done) | (rw [covers_bad (l := b) (.inr rfl) (k := j) (by omega) (by assumption)]))
    ·
     try simp only [xT, xF, xN, xM] at hc4
     refine AMx.skip ?_
     refine AMx.blk ?_
     refine gR [] [InR .i64 ((j : Int) + 1)] 40 [(0, vc (slP a)), (1, vc (slP b)), (19, AV.t (TV.agg [.s (slP a), .s (slP b)])), (20, vc (i6 0)), (23, vc (slP a)), (24, vc (i6 (List.length a : Int))), (25, vc (i6 ((j : Int) + 1)))] [] (show InR .i64 ((j : Int) + 1) from (inR64 (by first | omega | (have q1 := check_len (l := a) (by omega); have q2 := check_len (l := b) (by omega); omega)) (by first | omega | (have q1 := check_len (l := a) (by omega); have q2 := check_len (l := b) (by omega); omega)))) ?_
     refine AMx.ent_inv (s' := AS.lst 40 [(0, vc (slP a)), (1, vc (slP b)), (19, AV.t (TV.agg [.s (slP a), .s (slP b)])), (20, vc (i6 0)), (23, vc (slP a)), (24, vc (i6 (List.length a : Int))), (25, vc (i6 ((j : Int) + 1)))] []) (ent_proj [0, 1, 19, 20, 23, 24, 25] []) ?_
     refine AMx.inv ⟨_, ?_, j + 1, ?_, rfl, ?_⟩
     rotate_left
     · exact ⟨by omega, cover_next (by omega) hC (by assumption)⟩
     · rfl
     · omega
   ·
    refine AMx.exit ?_
    refine AMx.code_exit ?_
    refine AMx.inv_exit ?_
    refine AMx.blk_exit ?_
    refine AMx.blk ?_
    refine gR [] [InR .i64 (0 + 1)] 40 [(0, vc (slP a)), (1, vc (slP b)), (19, AV.t (TV.agg [.s (slP a), .s (slP b)])), (20, vc (i6 (0 + 1)))] [] (show InR .i64 (0 + 1) from (inR64 (by first | omega | (have q1 := check_len (l := a) (by omega); have q2 := check_len (l := b) (by omega); omega)) (by first | omega | (have q1 := check_len (l := a) (by omega); have q2 := check_len (l := b) (by omega); omega)))) ?_
    refine AMx.ent_inv (s' := AS.lst 40 [(0, vc (slP a)), (1, vc (slP b)), (19, AV.t (TV.agg [.s (slP a), .s (slP b)])), (20, vc (i6 (0 + 1)))] []) (ent_proj [0, 1, 19, 20] []) ?_
    refine AMx.inv ⟨_, ?_, 1, ?_, rfl, ?_⟩
    rotate_left
    · exact ⟨by omega, .inr (by rw [List.take_of_length_le (by omega)] at hC; exact hC), .inl (by omega)⟩
    · rfl
    · omega
  ·
   refine gS [] [] 40 [(0, vc (slP a)), (1, vc (slP b)), (19, AV.t (TV.agg [.s (slP a), .s (slP b)])), (20, vc (i6 1)), (21, vc (bo true))] [] trivial ?_
   refine gQ ?_
   refine gBt ?_
   refine AMx.skip ?_
   refine gQ ?_
   refine AMx.block ?_
   refine gS [] [(0 : Int) ≤ 1, (1 : Int) < 2] 40 [(0, vc (slP a)), (1, vc (slP b)), (6, vc (slP b)), (19, AV.t (TV.agg [.s (slP a), .s (slP b)])), (20, vc (i6 1))] [] ⟨(show (0 : Int) ≤ 1 from (by first | omega | (have q1 := check_len (l := a) (by omega); have q2 := check_len (l := b) (by omega); omega))), (show (1 : Int) < 2 from (by first | omega | (have q1 := check_len (l := a) (by omega); have q2 := check_len (l := b) (by omega); omega)))⟩ ?_
   refine gS [] [] 40 [(0, vc (slP a)), (1, vc (slP b)), (19, AV.t (TV.agg [.s (slP a), .s (slP b)])), (20, vc (i6 1)), (23, vc (slP b)), (24, vc (i6 (List.length b : Int))), (25, vc (i6 0))] [] trivial ?_
   refine AMx.block ?_
   refine AMx.ent (s' := AS.lst 40 [(0, vc (slP a)), (1, vc (slP b)), (19, AV.t (TV.agg [.s (slP a), .s (slP b)])), (20, vc (i6 1)), (23, vc (slP b)), (24, vc (i6 (List.length b : Int))), (25, vc (i6 0))] []) (ent_proj [0, 1, 19, 20, 23, 24, 25] []) ?_
   refine AMx.loop (fun mm ss => ∃ (j : Nat), (j ≤ b.length ∧ coverS a b (prefS (List.take j b)) = true) ∧ mm = b.length - j ∧ ss = AS.lst 40 [(0, vc (slP a)), (1, vc (slP b)), (19, AV.t (TV.agg [.s (slP a), .s (slP b)])), (20, vc (i6 1)), (23, vc (slP b)), (24, vc (i6 (List.length b : Int))), (25, vc (i6 (j : Int)))] []) ⟨0, ?_, rfl, ?_⟩ ?_
   · exact ⟨Nat.zero_le _, rfl⟩
   · rfl
   rintro mm ss ⟨j, ⟨hJ, hC⟩, rfl, rfl⟩
   refine gS [] [] 40 [(0, vc (slP a)), (1, vc (slP b)), (19, AV.t (TV.agg [.s (slP a), .s (slP b)])), (20, vc (i6 1)), (23, vc (slP b)), (24, vc (i6 (List.length b : Int))), (25, vc (i6 (j : Int))), (26, vc (bo (decide ((j : Int) < (List.length b : Int)))))] [] trivial ?_
   refine gQ ?_
   refine gC ((j : Int) < (List.length b : Int)) (fun hc6 => ?_) fun hc6 => ?_
   ·
    refine AMx.skip ?_
    refine gQ ?_
    refine AMx.block ?_
    refine gS [] [(0 : Int) ≤ (j : Int), (j : Int) < List.length b] 40 [(0, vc (slP a)), (1, vc (slP b)), (8, vp 8 0), (19, AV.t (TV.agg [.s (slP a), .s (slP b)])), (20, vc (i6 1)), (23, vc (slP b)), (24, vc (i6 (List.length b : Int))), (25, vc (i6 (j : Int)))] [(8, AObj.row [.s (st ((List.getD b j ([], 0)).1)), .s (u8 ((List.getD b j ([], 0)).2))])] ⟨(show (0 : Int) ≤ (j : Int) from (by first | omega | (have q1 := check_len (l := a) (by omega); have q2 := check_len (l := b) (by omega); omega))), (show (j : Int) < List.length b from (by first | omega | (have q1 := check_len (l := a) (by omega); have q2 := check_len (l := b) (by omega); omega)))⟩ ?_
    refine gY [(6, CE.call [] [] (vc (u8 (capsP a ((List.getD b j ([], 0)).1)))) []), (7, CE.call [] [] (vc (bo (allowsS b ((List.getD b j ([], 0)).1) (capsP a ((List.getD b j ([], 0)).1))))) [])] [(2, [8]), (5, [8])] [Spec Tryz.prog 56 [tc (slP a), tc (st ((List.getD b j ([], 0)).1))] (ofH []) (vc (u8 (capsP a ((List.getD b j ([], 0)).1)))) (ofH []), Spec Tryz.prog 59 [tc (slP b), tc (st ((List.getD b j ([], 0)).1)), tc (u8 (capsP a ((List.getD b j ([], 0)).1)))] (ofH []) (vc (bo (allowsS b ((List.getD b j ([], 0)).1) (capsP a ((List.getD b j ([], 0)).1))))) (ofH [])] 40 [(0, vc (slP a)), (1, vc (slP b)), (19, AV.t (TV.agg [.s (slP a), .s (slP b)])), (20, vc (i6 1)), (23, vc (slP b)), (24, vc (i6 (List.length b : Int))), (25, vc (i6 (j : Int))), (37, vc (bo (!(allowsS b ((List.getD b j ([], 0)).1) (capsP a ((List.getD b j ([], 0)).1))))))] [] mixed ⟨(Caps_c a ((List.getD b j ([], 0)).1) (by first | omega | (have q1 := check_len (l := a) (by omega); have q2 := check_len (l := b) (by omega); omega))), (Allows_c b ((List.getD b j ([], 0)).1) (capsP a ((List.getD b j ([], 0)).1)) (by first | omega | (have q1 := check_len (l := a) (by omega); have q2 := check_len (l := b) (by omega); omega)))⟩ ?_
    refine gB (!(allowsS b ((List.getD b j ([], 0)).1) (capsP a ((List.getD b j ([], 0)).1)))) (fun hc7 => ?_) fun hc7 => ?_
    ·
     try simp only [xT, xF, xN, xM] at hc7
     refine gS [] [] 40 [(4, vc (bo false))] [] trivial ?_
     exact gT (vc (bo false)) (by first | (rw [covers_no (by omega)]; done) | (rw [covers_bad (l := a) (.inl rfl) (k := j) (by omega) (by assumption)]; done) | (rw [covers_bad (l := b) (.inr rfl) (k := j) (by omega) (by assumption)]))
    ·
     try simp only [xT, xF, xN, xM] at hc7
     refine AMx.skip ?_
     refine AMx.blk ?_
     refine gR [] [InR .i64 ((j : Int) + 1)] 40 [(0, vc (slP a)), (1, vc (slP b)), (19, AV.t (TV.agg [.s (slP a), .s (slP b)])), (20, vc (i6 1)), (23, vc (slP b)), (24, vc (i6 (List.length b : Int))), (25, vc (i6 ((j : Int) + 1)))] [] (show InR .i64 ((j : Int) + 1) from (inR64 (by first | omega | (have q1 := check_len (l := a) (by omega); have q2 := check_len (l := b) (by omega); omega)) (by first | omega | (have q1 := check_len (l := a) (by omega); have q2 := check_len (l := b) (by omega); omega)))) ?_
     refine AMx.ent_inv (s' := AS.lst 40 [(0, vc (slP a)), (1, vc (slP b)), (19, AV.t (TV.agg [.s (slP a), .s (slP b)])), (20, vc (i6 1)), (23, vc (slP b)), (24, vc (i6 (List.length b : Int))), (25, vc (i6 ((j : Int) + 1)))] []) (ent_proj [0, 1, 19, 20, 23, 24, 25] []) ?_
     refine AMx.inv ⟨_, ?_, j + 1, ?_, rfl, ?_⟩
     rotate_left
     · exact ⟨by omega, cover_next (by omega) hC (by assumption)⟩
     · rfl
     · omega
   ·
    refine AMx.exit ?_
    refine AMx.code_exit ?_
    refine AMx.inv_exit ?_
    refine AMx.blk_exit ?_
    refine AMx.blk ?_
    refine gR [] [InR .i64 (1 + 1)] 40 [(0, vc (slP a)), (1, vc (slP b)), (19, AV.t (TV.agg [.s (slP a), .s (slP b)])), (20, vc (i6 (1 + 1)))] [] (show InR .i64 (1 + 1) from (inR64 (by first | omega | (have q1 := check_len (l := a) (by omega); have q2 := check_len (l := b) (by omega); omega)) (by first | omega | (have q1 := check_len (l := a) (by omega); have q2 := check_len (l := b) (by omega); omega)))) ?_
    refine AMx.ent_inv (s' := AS.lst 40 [(0, vc (slP a)), (1, vc (slP b)), (19, AV.t (TV.agg [.s (slP a), .s (slP b)])), (20, vc (i6 (1 + 1)))] []) (ent_proj [0, 1, 19, 20] []) ?_
    refine AMx.inv ⟨_, ?_, 2, ?_, rfl, ?_⟩
    rotate_left
    · exact ⟨by omega, .inr (hA.resolve_left (by omega)), .inr (by rw [List.take_of_length_le (by omega)] at hC; exact hC)⟩
    · rfl
    · omega
  ·
   refine gS [] [] 40 [(0, vc (slP a)), (1, vc (slP b)), (19, AV.t (TV.agg [.s (slP a), .s (slP b)])), (20, vc (i6 2)), (21, vc (bo false))] [] trivial ?_
   refine gQ ?_
   refine gBf ?_
   refine AMx.exit ?_
   refine AMx.code_exit ?_
   refine AMx.inv_exit ?_
   refine AMx.blk_exit ?_
   refine gS [] [] 40 [(4, vc (bo true))] [] trivial ?_
   exact gT (vc (bo true)) (by rw [covers_yes (by omega) (by omega) (hA.resolve_left (by omega)) (hB.resolve_left (by omega))])
end AL.Policy
namespace AL.Policy
open Go Go.Proofs AL AL.Rune
set_option linter.unusedVariables false
set_option linter.unusedSimpArgs false
theorem f42_body : Tryz.f42.body = some (.seq (.region 0 (rg Tryz.f42 0) false) (.seq (.region 1 (rg Tryz.f42 1) false) (.seq (.seq (.region 2 (rg Tryz.f42 2) false) (.block 0 (.loop (.seq (.seq (.region 3 (rg Tryz.f42 3) false) (.cond (.tmp 8) (.skip) (.exit 0))) (.seq (.block 1 (.region 5 (rg Tryz.f42 5) false)) (.region 4 (rg Tryz.f42 4) false)))))) (.seq (.region 6 (rg Tryz.f42 6) false) (.ret))))) := by kernel_rfl
set_option maxRecDepth 100000 in
set_option maxHeartbeats 8000000 in
theorem Own_c (l : List RuleV) (hl : l.length ≤ 100000) : Pure Tryz.prog 42 [tc (slP l)] (vc (slP l)) := by
 refine Pure.of_body Tryz.func42 f42_body (by kernel_rfl) Tryz.ntmps42 (by kernel_rfl) (by kernel_rfl) ?_
 refine gS [] [] 19 [(0, vc (slP l))] [] trivial ?_
 refine gS [] [] 19 [(0, vc (slP l)), (3, vc (SC.nilsl))] [] trivial ?_
 refine gQ ?_
 refine gS [] [] 19 [(0, vc (slP l)), (3, vc (SC.nilsl)), (4, vc (i6 0))] [] trivial ?_
 refine AMx.block ?_
 refine AMx.ent (s' := AS.lst 19 [(0, vc (slP l)), (3, vo 3), (4, vc (i6 0))] [(3, AObj.grow 80 2 RuleV ([], 0) rowP [])]) (ent_adopt (t := 3) (d := 3) 80 2 RuleV ([], 0) rowP (by kernel_rfl) (by kernel_rfl) (by kernel_rfl) (by kernel_rfl)) ?_
 refine AMx.ent (s' := AS.lst 19 [(0, vc (slP l)), (3, vo 3), (4, vc (i6 0))] [(3, AObj.grow 80 2 RuleV ([], 0) rowP [])]) (ent_proj [0, 3, 4] [3]) ?_
 refine AMx.loop (fun mm ss => ∃ (i : Nat), (i ≤ l.length) ∧ mm = l.length - i ∧ ss = AS.lst 19 [(0, vc (slP l)), (3, vo 3), (4, vc (i6 (i : Int)))] [(3, AObj.grow 80 2 RuleV ([], 0) rowP (List.take i l))]) ⟨0, ?_, rfl, ?_⟩ ?_
 · omega
 · rfl
 rintro mm ss ⟨i, hI, rfl, rfl⟩
 refine gQ ?_
 refine gS [] [] 19 [(0, vc (slP l)), (3, vo 3), (4, vc (i6 (i : Int))), (8, vc (bo (decide ((i : Int) < (List.length l : Int)))))] [(3, AObj.grow 80 2 RuleV ([], 0) rowP (List.take i l))] trivial ?_
 refine gC ((i : Int) < (List.length l : Int)) (fun hc1 => ?_) fun hc1 => ?_
 ·
  refine AMx.skip ?_
  refine gQ ?_
  refine AMx.block ?_
  refine gR [(5, CE.obj (AObj.grow 80 2 RuleV ([], 0) rowP [(List.getD l i ([], 0))])), (6, CE.obj (AObj.grow 80 2 RuleV ([], 0) rowP ((List.take i l) ++ [(List.getD l i ([], 0))])))] [(0 : Int) ≤ (i : Int), (i : Int) < List.length l, flat 2 rowP [(List.getD l i ([], 0))] = [.s (st ((List.getD l i ([], 0)).1)), .s (u8 ((List.getD l i ([], 0)).2))], List.length ([(List.getD l i ([], 0))] : List RuleV) = 1, AppC (flat 2 rowP [(List.getD l i ([], 0))]) (List.length ([(List.getD l i ([], 0))] : List RuleV)) 24 (AObj.grow 80 2 RuleV ([], 0) rowP (List.take i l)) (AObj.grow 80 2 RuleV ([], 0) rowP ((List.take i l) ++ [(List.getD l i ([], 0))]))] 19 [(0, vc (slP l)), (3, vo 17), (4, vc (i6 (i : Int)))] [(17, AObj.grow 80 2 RuleV ([], 0) rowP ((List.take i l) ++ [(List.getD l i ([], 0))]))] ⟨(show (0 : Int) ≤ (i : Int) from (by omega)), (show (i : Int) < List.length l from (by omega)), rfl, rfl, (⟨_, rfl, rfl, rfl, by simp only [List.length_take, List.length_cons, List.length_nil]; omega, by simp only [maxLen, List.length_take, List.length_cons, List.length_nil]; omega⟩)⟩ ?_
  refine AMx.blk ?_
  refine gR [] [InR .i64 ((i : Int) + 1)] 19 [(0, vc (slP l)), (3, vo 17), (4, vc (i6 ((i : Int) + 1)))] [(17, AObj.grow 80 2 RuleV ([], 0) rowP ((List.take i l) ++ [(List.getD l i ([], 0))]))] (show InR .i64 ((i : Int) + 1) from (inR64 (by omega) (by omega))) ?_
  refine AMx.ent_inv (s' := AS.lst 19 [(0, vc (slP l)), (3, vo 3), (4, vc (i6 ((i : Int) + 1)))] [(3, AObj.grow 80 2 RuleV ([], 0) rowP ((List.take i l) ++ [(List.getD l i ([], 0))]))]) (ent_swap 17 3 (by kernel_rfl) (by kernel_rfl)) ?_
  refine AMx.ent_inv (s' := AS.lst 19 [(0, vc (slP l)), (3, vo 3), (4, vc (i6 ((i : Int) + 1)))] [(3, AObj.grow 80 2 RuleV ([], 0) rowP ((List.take i l) ++ [(List.getD l i ([], 0))]))]) (ent_proj [0, 3, 4] [3]) ?_
  refine AMx.inv ⟨_, ?_, i + 1, ?_, rfl, ?_⟩
  rotate_left
  · omega
  · rw [Lib.take_succ ([], 0) l i (by omega)]; rfl
  · omega
 ·
  refine AMx.exit ?_
  refine AMx.code_exit ?_
  refine AMx.inv_exit ?_
  refine AMx.blk_exit ?_
  refine gS [] [] 19 [(2, vo 3)] [(3, AObj.grow 80 2 RuleV ([], 0) rowP (List.take i l))] trivial ?_
  refine AMx.ent (s' := AS.lst 19 [(2, vc (slP (List.take i l)))] []) (ent_freeze (id := 3) (T := 80) (by kernel_rfl)) ?_
  exact gT (vc (slP (List.take i l))) (by rw [List.take_of_length_le (by omega)])
theorem f71_body : Tryz.f71.body = some (.seq (.region 0 (rg Tryz.f71 0) false) (.seq (.region 1 (rg Tryz.f71 1) false) (.seq (.seq (.region 2 (rg Tryz.f71 2) false) (.block 0 (.loop (.seq (.seq (.region 3 (rg Tryz.f71 3) false) (.cond (.tmp 8) (.skip) (.exit 0))) (.seq (.block 1 (.region 5 (rg Tryz.f71 5) false)) (.region 4 (rg Tryz.f71 4) false)))))) (.seq (.region 6 (rg Tryz.f71 6) false) (.ret))))) := by kernel_rfl
set_option maxRecDepth 100000 in
set_option maxHeartbeats 8000000 in
theorem Back_c (l : List RuleV) (hl : l.length ≤ 100000) : Pure Tryz.prog 71 [tc (slP l)] (vc (slP l)) := by
 refine Pure.of_body Tryz.func71 f71_body (by kernel_rfl) Tryz.ntmps71 (by kernel_rfl) (by kernel_rfl) ?_
 refine gS [] [] 19 [(0, vc (slP l))] [] trivial ?_
 refine gS [] [] 19 [(0, vc (slP l)), (3, vc (SC.nilsl))] [] trivial ?_
 refine gQ ?_
 refine gS [] [] 19 [(0, vc (slP l)), (3, vc (SC.nilsl)), (4, vc (i6 0))] [] trivial ?_
 refine AMx.block ?_
 refine AMx.ent (s' := AS.lst 19 [(0, vc (slP l)), (3, vo 3), (4, vc (i6 0))] [(3, AObj.grow 82 2 RuleV ([], 0) rowP [])]) (ent_adopt (t := 3) (d := 3) 82 2 RuleV ([], 0) rowP (by kernel_rfl) (by kernel_rfl) (by kernel_rfl) (by kernel_rfl)) ?_
 refine AMx.ent (s' := AS.lst 19 [(0, vc (slP l)), (3, vo 3), (4, vc (i6 0))] [(3, AObj.grow 82 2 RuleV ([], 0) rowP [])]) (ent_proj [0, 3, 4] [3]) ?_
 refine AMx.loop (fun mm ss => ∃ (i : Nat), (i ≤ l.length) ∧ mm = l.length - i ∧ ss = AS.lst 19 [(0, vc (slP l)), (3, vo 3), (4, vc (i6 (i : Int)))] [(3, AObj.grow 82 2 RuleV ([], 0) rowP (List.take i l))]) ⟨0, ?_, rfl, ?_⟩ ?_
 · omega
 · rfl
 rintro mm ss ⟨i, hI, rfl, rfl⟩
 refine gQ ?_
 refine gS [] [] 19 [(0, vc (slP l)), (3, vo 3), (4, vc (i6 (i : Int))), (8, vc (bo (decide ((i : Int) < (List.length l : Int)))))] [(3, AObj.grow 82 2 RuleV ([], 0) rowP (List.take i l))] trivial ?_
 refine gC ((i : Int) < (List.length l : Int)) (fun hc1 => ?_) fun hc1 => ?_
 ·
  refine AMx.skip ?_
  refine gQ ?_
  refine AMx.block ?_
  refine gR [(5, CE.obj (AObj.grow 82 2 RuleV ([], 0) rowP [(List.getD l i ([], 0))])), (6, CE.obj (AObj.grow 82 2 RuleV ([], 0) rowP ((List.take i l) ++ [(List.getD l i ([], 0))])))] [(0 : Int) ≤ (i : Int), (i : Int) < List.length l, flat 2 rowP [(List.getD l i ([], 0))] = [.s (st ((List.getD l i ([], 0)).1)), .s (u8 ((List.getD l i ([], 0)).2))], List.length ([(List.getD l i ([], 0))] : List RuleV) = 1, AppC (flat 2 rowP [(List.getD l i ([], 0))]) (List.length ([(List.getD l i ([], 0))] : List RuleV)) 24 (AObj.grow 82 2 RuleV ([], 0) rowP (List.take i l)) (AObj.grow 82 2 RuleV ([], 0) rowP ((List.take i l) ++ [(List.getD l i ([], 0))]))] 19 [(0, vc (slP l)), (3, vo 17), (4, vc (i6 (i : Int)))] [(17, AObj.grow 82 2 RuleV ([], 0) rowP ((List.take i l) ++ [(List.getD l i ([], 0))]))] ⟨(show (0 : Int) ≤ (i : Int) from (by omega)), (show (i : Int) < List.length l from (by omega)), rfl, rfl, (⟨_, rfl, rfl, rfl, by simp only [List.length_take, List.length_cons, List.length_nil]; omega, by simp only [maxLen, List.length_take, List.length_cons, List.length_nil]; omega⟩)⟩ ?_
  refine AMx.blk ?_
  refine gR [] [InR .i64 ((i : Int) + 1)] 19 [(0, vc (slP l)), (3, vo 17), (4, vc (i6 ((i : Int) + 1)))] [(17, AObj.grow 82 2 RuleV ([], 0) rowP ((List.take i l) ++ [(List.getD l i ([], 0))]))] (show InR .i64 ((i : Int) + 1) from (inR64 (by omega) (by omega))) ?_
  refine AMx.ent_inv (s' := AS.lst 19 [(0, vc (slP l)), (3, vo 3), (4, vc (i6 ((i : Int) + 1)))] [(3, AObj.grow 82 2 RuleV ([], 0) rowP ((List.take i l) ++ [(List.getD l i ([], 0))]))]) (ent_swap 17 3 (by kernel_rfl) (by kernel_rfl)) ?_
  refine AMx.ent_inv (s' := AS.lst 19 [(0, vc (slP l)), (3, vo 3), (4, vc (i6 ((i : Int) + 1)))] [(3, AObj.grow 82 2 RuleV ([], 0) rowP ((List.take i l) ++ [(List.getD l i ([], 0))]))]) (ent_proj [0, 3, 4] [3]) ?_
  refine AMx.inv ⟨_, ?_, i + 1, ?_, rfl, ?_⟩
  rotate_left
  · omega
  · rw [Lib.take_succ ([], 0) l i (by omega)]; rfl
  · omega
 ·
  refine AMx.exit ?_
  refine AMx.code_exit ?_
  refine AMx.inv_exit ?_
  refine AMx.blk_exit ?_
  refine gS [] [] 19 [(2, vo 3)] [(3, AObj.grow 82 2 RuleV ([], 0) rowP (List.take i l))] trivial ?_
  refine AMx.ent (s' := AS.lst 19 [(2, vc (slP (List.take i l)))] []) (ent_freeze (id := 3) (T := 82) (by kernel_rfl)) ?_
  exact gT (vc (slP (List.take i l))) (by rw [List.take_of_length_le (by omega)])
theorem f38_body : Tryz.f38.body = some (.seq (.region 0 (rg Tryz.f38 0) false) (.seq (.seq (.region 1 (rg Tryz.f38 1) false) (.cond (.tmp 6) (.seq (.region 2 (rg Tryz.f38 2) false) (.ret)) (.skip))) (.seq (.seq (.region 3 (rg Tryz.f38 3) false) (.block 0 (.loop (.seq (.seq (.region 4 (rg Tryz.f38 4) false) (.cond (.tmp 10) (.skip) (.exit 0))) (.seq (.block 1 (.seq (.region 6 (rg Tryz.f38 6) false) (.cond (.tmp 19) (.seq (.region 7 (rg Tryz.f38 7) false) (.ret)) (.skip)))) (.region 5 (rg Tryz.f38 5) false)))))) (.seq (.region 8 (rg Tryz.f38 8) false) (.ret))))) := by kernel_rfl
set_option maxRecDepth 100000 in
set_option maxHeartbeats 8000000 in
theorem Over_c (l : List RuleV) : Pure Tryz.prog 38 [tc (slP l)] (vc (i6 (overP l))) := by
 refine Pure.of_body Tryz.func38 f38_body (by kernel_rfl) Tryz.ntmps38 (by kernel_rfl) (by kernel_rfl) ?_
 refine AMx.sl 0 (l := l) rfl (fun hl => ?_)
 simp only [maxLen] at hl
 refine gS [] [] 20 [(0, vc (slP l))] [] trivial ?_
 refine gQ ?_
 refine gS [] [] 20 [(0, vc (slP l)), (6, vc (bo (decide (8 < (List.length l : Int)))))] [] trivial ?_
 refine gC (8 < (List.length l : Int)) (fun hc1 => ?_) fun hc1 => ?_
 ·
  refine gS [] [] 20 [(2, vc (i6 1))] [] trivial ?_
  exact gT (vc (i6 1)) (by first | rw [over_1 (by omega)] | rw [over_2 (k := i) (by omega) (by omega)])
 ·
  refine AMx.skip ?_
  refine gQ ?_
  refine gS [] [] 20 [(0, vc (slP l)), (3, vc (i6 0))] [] trivial ?_
  refine AMx.block ?_
  refine AMx.ent (s' := AS.lst 20 [(0, vc (slP l)), (3, vc (i6 0))] []) (ent_proj [0, 3] []) ?_
  refine AMx.loop (fun mm ss => ∃ (i : Nat), (i ≤ l.length ∧ ShortTo l i) ∧ mm = l.length - i ∧ ss = AS.lst 20 [(0, vc (slP l)), (3, vc (i6 (i : Int)))] []) ⟨0, ?_, rfl, ?_⟩ ?_
  · exact ⟨Nat.zero_le _, fun j hj => by omega⟩
  · rfl
  rintro mm ss ⟨i, ⟨hI, hN⟩, rfl, rfl⟩
  refine gQ ?_
  refine gS [] [] 20 [(0, vc (slP l)), (3, vc (i6 (i : Int))), (10, vc (bo (decide ((i : Int) < (List.length l : Int)))))] [] trivial ?_
  refine gC ((i : Int) < (List.length l : Int)) (fun hc2 => ?_) fun hc2 => ?_
  ·
   refine AMx.skip ?_
   refine gQ ?_
   refine AMx.block ?_
   refine gS [] [(0 : Int) ≤ (i : Int), (i : Int) < List.length l] 20 [(0, vc (slP l)), (3, vc (i6 (i : Int))), (19, vc (bo (decide (100 < (List.length ((List.getD l i ([], 0)).1 : List UInt8) : Int)))))] [] ⟨(show (0 : Int) ≤ (i : Int) from (by omega)), (show (i : Int) < List.length l from (by omega))⟩ ?_
   refine gC (100 < (List.length ((List.getD l i ([], 0)).1 : List UInt8) : Int)) (fun hc3 => ?_) fun hc3 => ?_
   ·
    refine gS [] [] 20 [(2, vc (i6 1))] [] trivial ?_
    exact gT (vc (i6 1)) (by first | rw [over_1 (by omega)] | rw [over_2 (k := i) (by omega) (by omega)])
   ·
    refine AMx.skip ?_
    refine AMx.blk ?_
    refine gR [] [InR .i64 ((i : Int) + 1)] 20 [(0, vc (slP l)), (3, vc (i6 ((i : Int) + 1)))] [] (show InR .i64 ((i : Int) + 1) from (inR64 (by omega) (by omega))) ?_
    refine AMx.ent_inv (s' := AS.lst 20 [(0, vc (slP l)), (3, vc (i6 ((i : Int) + 1)))] []) (ent_proj [0, 3] []) ?_
    refine AMx.inv ⟨_, ?_, i + 1, ?_, rfl, ?_⟩
    rotate_left
    · exact ⟨by omega, short_step hN (by omega)⟩
    · rfl
    · omega
  ·
   refine AMx.exit ?_
   refine AMx.code_exit ?_
   refine AMx.inv_exit ?_
   refine AMx.blk_exit ?_
   refine gS [] [] 20 [(2, vc (i6 0))] [] trivial ?_
   exact gT (vc (i6 0)) (by rw [over_0 (by omega) (by omega) hN])
end AL.Policy
namespace AL.Token
open Go Go.Proofs AL
open AL.Policy (RuleV rowP slP checkP coversS capsP)
set_option linter.unusedVariables false
set_option linter.unusedSimpArgs false
theorem f54_body : Tryz.f54.body = some (.seq (.region 0 (rg Tryz.f54 0) false) (.seq (.seq (.region 1 (rg Tryz.f54 1) false) (.cond (.tmp 15) (.seq (.region 2 (rg Tryz.f54 2) false) (.ret)) (.skip))) (.seq (.region 3 (rg Tryz.f54 3) false) (.seq (.seq (.region 4 (rg Tryz.f54 4) false) (.block 0 (.loop (.seq (.seq (.region 5 (rg Tryz.f54 5) false) (.cond (.tmp 24) (.skip) (.exit 0))) (.seq (.block 1 (.seq (.region 7 (rg Tryz.f54 7) false) (.seq (.region 8 (rg Tryz.f54 8) false) (.cond (.tmp 39) (.seq (.region 9 (rg Tryz.f54 9) false) (.ret)) (.skip))))) (.region 6 (rg Tryz.f54 6) false)))))) (.seq (.region 10 (rg Tryz.f54 10) false) (.ret)))))) := by kernel_rfl
set_option maxRecDepth 100000 in
set_option maxHeartbeats 8000000 in
theorem RCovers_c (a b : List RuleV) : Pure Tryz.prog 54 [tc (AL.Policy.slP a), tc (AL.Policy.slP b)] (vc (bo (coversS a b))) := by
 refine Pure.of_body Tryz.func54 f54_body (by kernel_rfl) Tryz.ntmps54 (by kernel_rfl) (by kernel_rfl) ?_
 have q1 := @Policy.check_len a
 have q2 := @Policy.check_len b
 refine gS [] [] 40 [(0, vc (AL.Policy.slP a)), (1, vc (AL.Policy.slP b))] [] trivial ?_
 refine gQ ?_
 refine gS [(1, CE.call [] [] (vc (i6 (Policy.checkP a))) []), (5, CE.call [] [] (vc (i6 (Policy.checkP b))) [])] [Spec Tryz.prog 44 [tc (AL.Policy.slP a)] (ofH []) (vc (i6 (Policy.checkP a))) (ofH []), ((!decide (Policy.checkP a = 0)) = false) → allP [], ((!decide (Policy.checkP a = 0)) = false) → allP [(!decide (Policy.checkP a = 0)) = false, Spec Tryz.prog 44 [tc (AL.Policy.slP b)] (ofH []) (vc (i6 (Policy.checkP b))) (ofH [])], ((!decide (Policy.checkP a = 0)) = false) → allP [(!decide (Policy.checkP a = 0)) = false], (!decide (Policy.checkP a = 0)) = false → allP [(!decide (Policy.checkP a = 0)) = false]] 40 [(0, vc (AL.Policy.slP a)), (1, vc (AL.Policy.slP b)), (15, vc (bo ((!decide (Policy.checkP a = 0)) || (!decide (Policy.checkP b = 0)))))] [] ⟨(Policy.RCheck_c a), (fun _ => trivial), (fun hp => by have hq := hp; (try simp only [decide_eq_true_eq, decide_eq_false_iff_not, Bool.and_eq_true, Bool.or_eq_true, Bool.and_eq_false_iff, Bool.or_eq_false_iff, Bool.not_eq_true', Bool.not_eq_false', Bool.not_eq_true, Bool.not_eq_false] at hq); exact ⟨hp, (Policy.RCheck_c b)⟩), (fun hp => hp), (fun hp2 => (by first | exact hp2 | exact ⟨hp, hp2⟩))⟩ ?_
 refine gB (((!decide (Policy.checkP a = 0)) || (!decide (Policy.checkP b = 0)))) (fun hc1 => ?_) fun hc1 => ?_
 ·
  try simp only [xT, xF, xO, xP, xN, xM] at hc1
  refine gS [] [] 40 [(4, vc (bo false))] [] trivial ?_
  exact gT (vc (bo false)) (by first | (rw [Policy.covers_no (by omega)]; done) | (rw [cov_bad (i := i) (by omega) (by assumption)]))
 ·
  try simp only [xT, xF, xO, xP, xN, xM] at hc1
  refine AMx.skip ?_
  refine gS [(0, CE.obj (AObj.grow 82 2 AL.Policy.RuleV ([], 0) AL.Policy.rowP [])), (2, CE.obj (AObj.grow 82 2 AL.Policy.RuleV ([], 0) AL.Policy.rowP ([] ++ a))), (4, CE.obj (AObj.grow 82 2 AL.Policy.RuleV ([], 0) AL.Policy.rowP (([] ++ a) ++ b)))] [flat 2 AL.Policy.rowP [] = [], List.length ([] : List AL.Policy.RuleV) = 0, AppC (flat 2 AL.Policy.rowP a) (List.length a) 24 (AObj.grow 82 2 AL.Policy.RuleV ([], 0) AL.Policy.rowP []) (AObj.grow 82 2 AL.Policy.RuleV ([], 0) AL.Policy.rowP ([] ++ a)), AppC (flat 2 AL.Policy.rowP b) (List.length b) 24 (AObj.grow 82 2 AL.Policy.RuleV ([], 0) AL.Policy.rowP ([] ++ a)) (AObj.grow 82 2 AL.Policy.RuleV ([], 0) AL.Policy.rowP (([] ++ a) ++ b))] 40 [(0, vc (AL.Policy.slP a)), (1, vc (AL.Policy.slP b)), (5, vo 20)] [(20, AObj.grow 82 2 AL.Policy.RuleV ([], 0) AL.Policy.rowP (([] ++ a) ++ b))] ⟨rfl, rfl, (⟨_, rfl, rfl, rfl, by simp only [List.length_append, List.length_nil]; omega, by simp only [maxLen, List.length_append, List.length_nil]; omega⟩), (⟨_, rfl, rfl, rfl, by simp only [List.length_append, List.length_nil]; omega, by simp only [maxLen, List.length_append, List.length_nil]; omega⟩)⟩ ?_
  rw [show ([] ++ a) ++ b = a ++ b from rfl]
  refine gQ ?_
  refine gS [] [] 40 [(0, vc (AL.Policy.slP a)), (1, vc (AL.Policy.slP b)), (5, vo 20), (6, vc (i6 0))] [(20, AObj.grow 82 2 AL.Policy.RuleV ([], 0) AL.Policy.rowP (a ++ b))] trivial ?_
  refine AMx.block ?_
  refine AMx.ent (s' := AS.lst 40 [(0, vc (AL.Policy.slP a)), (1, vc (AL.Policy.slP b)), (5, vc (AL.Policy.slP (a ++ b))), (6, vc (i6 0))] []) (ent_freeze (id := 20) (T := 82) (by kernel_rfl)) ?_
  refine AMx.ent (s' := AS.lst 40 [(0, vc (AL.Policy.slP a)), (1, vc (AL.Policy.slP b)), (5, vc (AL.Policy.slP (a ++ b))), (6, vc (i6 0))] []) (ent_proj [0, 1, 5, 6] []) ?_
  refine AMx.loop (fun mm ss => ∃ (i : Nat), (i ≤ (a ++ b).length ∧ Policy.coverS a b (Policy.prefS (List.take i (a ++ b))) = true) ∧ mm = (a ++ b).length - i ∧ ss = AS.lst 40 [(0, vc (AL.Policy.slP a)), (1, vc (AL.Policy.slP b)), (5, vc (AL.Policy.slP (a ++ b))), (6, vc (i6 (i : Int)))] []) ⟨0, ?_, rfl, ?_⟩ ?_
  · exact ⟨Nat.zero_le _, rfl⟩
  · rfl
  rintro mm ss ⟨i, ⟨hI, hC⟩, rfl, rfl⟩
  have hln : (a ++ b).length ≤ 8 := by rw [List.length_append]; have z1 := q1 hc1.1; have z2 := q2 hc1.2; omega
  refine gQ ?_
  refine gS [] [] 40 [(0, vc (AL.Policy.slP a)), (1, vc (AL.Policy.slP b)), (5, vc (AL.Policy.slP (a ++ b))), (6, vc (i6 (i : Int))), (24, vc (bo (decide ((i : Int) < (List.length (a ++ b : List AL.Policy.RuleV) : Int)))))] [] trivial ?_
  refine gC ((i : Int) < (List.length (a ++ b : List AL.Policy.RuleV) : Int)) (fun hc2 => ?_) fun hc2 => ?_
  ·
   refine AMx.skip ?_
   refine gQ ?_
   refine AMx.block ?_
   refine gS [] [(0 : Int) ≤ (i : Int), (i : Int) < List.length (a ++ b : List AL.Policy.RuleV)] 40 [(0, vc (AL.Policy.slP a)), (1, vc (AL.Policy.slP b)), (5, vc (AL.Policy.slP (a ++ b))), (6, vc (i6 (i : Int))), (7, vc (st ((List.getD (a ++ b) i ([], 0)).1)))] [] ⟨(show (0 : Int) ≤ (i : Int) from (by first | omega | ((try simp only [List.length_append, List.length_nil]); omega))), (show (i : Int) < List.length (a ++ b : List AL.Policy.RuleV) from (by first | omega | ((try simp only [List.length_append, List.length_nil]); omega)))⟩ ?_
   refine gS [(2, CE.call [] [] (vc (u8 (capsP b ((List.getD (a ++ b) i ([], 0)).1)))) []), (5, CE.call [] [] (vc (u8 (capsP a ((List.getD (a ++ b) i ([], 0)).1)))) []), (6, CE.call [] [] (vc (bo (Policy.hasB (capsP b ((List.getD (a ++ b) i ([], 0)).1)) (capsP a ((List.getD (a ++ b) i ([], 0)).1))))) [])] [Spec Tryz.prog 57 [tc (AL.Policy.slP b), tc (st ((List.getD (a ++ b) i ([], 0)).1))] (ofH []) (vc (u8 (capsP b ((List.getD (a ++ b) i ([], 0)).1)))) (ofH []), Spec Tryz.prog 57 [tc (AL.Policy.slP a), tc (st ((List.getD (a ++ b) i ([], 0)).1))] (ofH []) (vc (u8 (capsP a ((List.getD (a ++ b) i ([], 0)).1)))) (ofH []), Spec Tryz.prog 82 [tc (u8 (capsP b ((List.getD (a ++ b) i ([], 0)).1))), tc (u8 (capsP a ((List.getD (a ++ b) i ([], 0)).1)))] (ofH []) (vc (bo (Policy.hasB (capsP b ((List.getD (a ++ b) i ([], 0)).1)) (capsP a ((List.getD (a ++ b) i ([], 0)).1))))) (ofH [])] 40 [(0, vc (AL.Policy.slP a)), (1, vc (AL.Policy.slP b)), (5, vc (AL.Policy.slP (a ++ b))), (6, vc (i6 (i : Int))), (39, vc (bo (!(Policy.hasB (capsP b ((List.getD (a ++ b) i ([], 0)).1)) (capsP a ((List.getD (a ++ b) i ([], 0)).1))))))] [] ⟨(Policy.RCaps_c b ((List.getD (a ++ b) i ([], 0)).1) (by first | exact cov_le hc1.1 | exact cov_le hc1.2)), (Policy.RCaps_c a ((List.getD (a ++ b) i ([], 0)).1) (by first | exact cov_le hc1.1 | exact cov_le hc1.2)), (Policy.has_c (capsP b ((List.getD (a ++ b) i ([], 0)).1)) (capsP a ((List.getD (a ++ b) i ([], 0)).1)))⟩ ?_
   refine gB (!(Policy.hasB (capsP b ((List.getD (a ++ b) i ([], 0)).1)) (capsP a ((List.getD (a ++ b) i ([], 0)).1)))) (fun hc3 => ?_) fun hc3 => ?_
   ·
    try simp only [xT, xF, xN, xM] at hc3
    refine gS [] [] 40 [(4, vc (bo false))] [] trivial ?_
    exact gT (vc (bo false)) (by first | (rw [Policy.covers_no (by omega)]; done) | (rw [cov_bad (i := i) (by omega) (by assumption)]))
   ·
    try simp only [xT, xF, xN, xM] at hc3
    refine AMx.skip ?_
    refine AMx.blk ?_
    refine gR [] [InR .i64 ((i : Int) + 1)] 40 [(0, vc (AL.Policy.slP a)), (1, vc (AL.Policy.slP b)), (5, vc (AL.Policy.slP (a ++ b))), (6, vc (i6 ((i : Int) + 1)))] [] (show InR .i64 ((i : Int) + 1) from (inR64 (by first | omega | ((try simp only [List.length_append, List.length_nil]); omega)) (by first | omega | ((try simp only [List.length_append, List.length_nil]); omega)))) ?_
    refine AMx.ent_inv (s' := AS.lst 40 [(0, vc (AL.Policy.slP a)), (1, vc (AL.Policy.slP b)), (5, vc (AL.Policy.slP (a ++ b))), (6, vc (i6 ((i : Int) + 1)))] []) (ent_proj [0, 1, 5, 6] []) ?_
    refine AMx.inv ⟨_, ?_, i + 1, ?_, rfl, ?_⟩
    rotate_left
    · exact ⟨by omega, cov_next (by omega) hC (by assumption)⟩
    · rfl
    · omega
  ·
   refine AMx.exit ?_
   refine AMx.code_exit ?_
   refine AMx.inv_exit ?_
   refine AMx.blk_exit ?_
   refine gS [] [] 40 [(4, vc (bo true))] [] trivial ?_
   exact gT (vc (bo true)) (by rw [cov_yes hc1.1 hc1.2 (by omega) hC])
theorem f40_body : Tryz.f40.body = some (.seq (.region 0 (rg Tryz.f40 0) false) (.seq (.region 1 (rg Tryz.f40 1) false) (.ret))) := by kernel_rfl
set_option maxRecDepth 100000 in
set_option maxHeartbeats 8000000 in
theorem named_c (s : Bytes) : Pure Tryz.prog 40 [tc (st s)] (vc (bo (Rows.namedS s))) := by
 refine Pure.of_body Tryz.func40 f40_body (by kernel_rfl) Tryz.ntmps40 (by kernel_rfl) (by kernel_rfl) ?_
 refine gS [] [] 7 [(0, vc (st s))] [] trivial ?_
 refine gS [(2, CE.call [] [] (vc (i6 (Rows.checkK ((3, s, 0) : AL.Rows.KeyV)))) [])] [Spec Tryz.prog 72 [TV.agg [.s (u8 3), .s (st s), .s (i6 0)]] (ofH []) (vc (i6 (Rows.checkK ((3, s, 0) : AL.Rows.KeyV)))) (ofH [])] 7 [(2, vc (bo (decide (Rows.checkK ((3, s, 0) : AL.Rows.KeyV) = 0))))] [] (Rows.Check_c ((3, s, 0) : AL.Rows.KeyV)) ?_
 exact gT (vc (bo (decide (Rows.checkK ((3, s, 0) : AL.Rows.KeyV) = 0)))) (by rw [named_key])
theorem f13_body : Tryz.f13.body = some (.seq (.region 0 (rg Tryz.f13 0) false) (.seq (.seq (.region 1 (rg Tryz.f13 1) false) (.cond (.tmp 7) (.seq (.region 2 (rg Tryz.f13 2) false) (.ret)) (.skip))) (.seq (.seq (.region 3 (rg Tryz.f13 3) false) (.seq (.region 4 (rg Tryz.f13 4) false) (.cond (.tmp 12) (.seq (.region 5 (rg Tryz.f13 5) false) (.ret)) (.skip)))) (.seq (.block 0 (.seq (.region 6 (rg Tryz.f13 6) false) (.cond (.tmp 14) (.seq (.region 7 (rg Tryz.f13 7) false) (.ret)) (.seq (.region 8 (rg Tryz.f13 8) false) (.cond (.tmp 23) (.seq (.region 9 (rg Tryz.f13 9) false) (.ret)) (.skip)))))) (.seq (.region 10 (rg Tryz.f13 10) false) (.ret)))))) := by kernel_rfl
set_option maxRecDepth 100000 in
set_option maxHeartbeats 8000000 in
theorem Check_c (t : TokV) : Pure Tryz.prog 13 [TV.agg [.s (st t.1), .s (st t.2.1), .s (AL.Policy.slP t.2.2)]] (vc (i6 (checkT t))) := by
 refine Pure.of_body Tryz.func13 f13_body (by kernel_rfl) Tryz.ntmps13 (by kernel_rfl) (by kernel_rfl) ?_
 refine gS [] [] 34 [(1, vp 1 0)] [(1, AObj.row [.s (st t.1), .s (st t.2.1), .s (AL.Policy.slP t.2.2)])] trivial ?_
 refine gQ ?_
 refine gS [(2, CE.call [] [] (vc (bo (Rows.namedS t.1))) [])] [Spec Tryz.prog 40 [tc (st t.1)] (ofH []) (vc (bo (Rows.namedS t.1))) (ofH [])] 34 [(1, vp 1 0), (7, vc (bo (!(Rows.namedS t.1))))] [(1, AObj.row [.s (st t.1), .s (st t.2.1), .s (AL.Policy.slP t.2.2)])] (named_c t.1) ?_
 refine gB (!(Rows.namedS t.1)) (fun hc1 => ?_) fun hc1 => ?_
 ·
  try simp only [xT, xF, xN, xM] at hc1
  refine gS [] [] 34 [(2, vc (i6 2))] [] trivial ?_
  exact gT (vc (i6 2)) (by rw [show checkT t = 2 from by unfold checkT; grind])
 ·
  try simp only [xT, xF, xN, xM] at hc1
  refine AMx.skip ?_
  refine gQ ?_
  refine gS [(2, CE.call [] [] (vc (i6 (Policy.checkP t.2.2))) [])] [Spec Tryz.prog 41 [tc (AL.Policy.slP t.2.2)] (ofH []) (vc (i6 (Policy.checkP t.2.2))) (ofH [])] 34 [(1, vp 1 0), (3, vc (i6 (Policy.checkP t.2.2)))] [(1, AObj.row [.s (st t.1), .s (st t.2.1), .s (AL.Policy.slP t.2.2)])] (Policy.Check_c t.2.2) ?_
  refine gS [] [] 34 [(1, vp 1 0), (3, vc (i6 (Policy.checkP t.2.2))), (12, vc (bo (!decide (Policy.checkP t.2.2 = 0))))] [(1, AObj.row [.s (st t.1), .s (st t.2.1), .s (AL.Policy.slP t.2.2)])] trivial ?_
  refine gN (Policy.checkP t.2.2 = 0) (fun hc2 => ?_) fun hc2 => ?_
  ·
   refine gS [] [] 34 [(2, vc (i6 (Policy.checkP t.2.2)))] [] trivial ?_
   exact gT (vc (i6 (Policy.checkP t.2.2))) (by rw [show checkT t = Policy.checkP t.2.2 from by unfold checkT; grind])
  ·
   refine AMx.skip ?_
   refine gQ ?_
   refine AMx.block ?_
   refine gS [] [((decide (t.2.1 = [])) = true) → allP [], ((decide (t.2.1 = [])) = true) → allP [(decide (t.2.1 = [])) = true], ((decide (t.2.1 = [])) = true) → allP [(decide (t.2.1 = [])) = true], (decide (t.2.1 = [])) = true → allP [(decide (t.2.1 = [])) = true]] 34 [(1, vp 1 0), (14, vc (bo ((decide (t.2.1 = [])) && (decide (t.1 = [114, 111, 111, 116])))))] [(1, AObj.row [.s (st t.1), .s (st t.2.1), .s (AL.Policy.slP t.2.2)])] ⟨(fun _ => trivial), (fun hp => hp), (fun hp => hp), (fun hp2 => (by first | exact hp2 | exact ⟨hp, hp2⟩))⟩ ?_
   refine gB (((decide (t.2.1 = [])) && (decide (t.1 = [114, 111, 111, 116])))) (fun hc3 => ?_) fun hc3 => ?_
   ·
    try simp only [xT, xF, xA, xB] at hc3
    refine gS [] [] 34 [(2, vc (i6 0))] [] trivial ?_
    exact gT (vc (i6 0)) (by rw [show checkT t = 0 from by unfold checkT; grind])
   ·
    try simp only [xT, xF, xA, xB] at hc3
    refine gS [(2, CE.call [] [] (vc (bo (Rows.namedS t.2.1))) [])] [Spec Tryz.prog 40 [tc (st t.2.1)] (ofH []) (vc (bo (Rows.namedS t.2.1))) (ofH []), ((Rows.namedS t.2.1) = true) → allP [], ((Rows.namedS t.2.1) = true) → allP [(Rows.namedS t.2.1) = true], ((Rows.namedS t.2.1) = true) → allP [], ((Rows.namedS t.2.1) = true) → allP [(Rows.namedS t.2.1) = true], ((Rows.namedS t.2.1) = true) → allP [(Rows.namedS t.2.1) = true, (Rows.namedS t.2.1) = true], (Rows.namedS t.2.1) = true → allP [(Rows.namedS t.2.1) = true]] 34 [(23, vc (bo ((Rows.namedS t.2.1) && (!decide (t.2.1 = t.1)))))] [] ⟨(named_c t.2.1), (fun _ => trivial), (fun hp => hp), (fun _ => trivial), (fun hp => hp), (fun hp => ⟨hp, hp⟩), (fun hp2 => (by first | exact hp2 | exact ⟨hp, hp2⟩))⟩ ?_
    refine gB (((Rows.namedS t.2.1) && (!decide (t.2.1 = t.1)))) (fun hc4 => ?_) fun hc4 => ?_
    ·
     try simp only [xT, xF, xA, xB, xN, xM] at hc4
     refine gS [] [] 34 [(2, vc (i6 0))] [] trivial ?_
     exact gT (vc (i6 0)) (by rw [show checkT t = 0 from by unfold checkT; grind])
    ·
     try simp only [xT, xF, xA, xB, xN, xM] at hc4
     refine AMx.skip ?_
     refine AMx.blk ?_
     refine gS [] [] 34 [(2, vc (i6 2))] [] trivial ?_
     exact gT (vc (i6 2)) (by rw [show checkT t = 2 from by unfold checkT; grind])
theorem f15_body : Tryz.f15.body = some (.seq (.region 0 (rg Tryz.f15 0) false) (.seq (.seq (.region 1 (rg Tryz.f15 1) false) (.cond (.tmp 7) (.seq (.region 2 (rg Tryz.f15 2) false) (.ret)) (.skip))) (.seq (.region 3 (rg Tryz.f15 3) false) (.seq (.seq (.region 4 (rg Tryz.f15 4) false) (.cond (.tmp 12) (.seq (.region 5 (rg Tryz.f15 5) false) (.ret)) (.skip))) (.seq (.seq (.region 6 (rg Tryz.f15 6) false) (.cond (.tmp 33) (.seq (.region 7 (rg Tryz.f15 7) false) (.ret)) (.skip))) (.seq (.region 8 (rg Tryz.f15 8) false) (.ret))))))) := by kernel_rfl
set_option maxRecDepth 100000 in
set_option maxHeartbeats 8000000 in
theorem RCheck_c (t : TokV) : Pure Tryz.prog 15 [TV.agg [.s (st t.1), .s (st t.2.1), .s (AL.Policy.slP t.2.2)]] (vc (i6 (checkT t))) := by
 refine Pure.of_body Tryz.func15 f15_body (by kernel_rfl) Tryz.ntmps15 (by kernel_rfl) (by kernel_rfl) ?_
 refine gS [] [] 34 [(1, vp 1 0)] [(1, AObj.row [.s (st t.1), .s (st t.2.1), .s (AL.Policy.slP t.2.2)])] trivial ?_
 refine gQ ?_
 refine gS [(2, CE.call [] [] (vc (bo (Rows.namedS t.1))) [])] [Spec Tryz.prog 43 [tc (st t.1)] (ofH []) (vc (bo (Rows.namedS t.1))) (ofH [])] 34 [(1, vp 1 0), (7, vc (bo (!(Rows.namedS t.1))))] [(1, AObj.row [.s (st t.1), .s (st t.2.1), .s (AL.Policy.slP t.2.2)])] (Rows.Name_c t.1) ?_
 refine gB (!(Rows.namedS t.1)) (fun hc1 => ?_) fun hc1 => ?_
 ·
  try simp only [xT, xF, xN, xM] at hc1
  refine gS [] [] 34 [(2, vc (i6 2))] [] trivial ?_
  exact gT (vc (i6 2)) (by rw [show checkT t = 2 from by unfold checkT; grind])
 ·
  try simp only [xT, xF, xN, xM] at hc1
  refine AMx.skip ?_
  refine gS [(2, CE.call [] [] (vc (i6 (Policy.checkP t.2.2))) [])] [Spec Tryz.prog 44 [tc (AL.Policy.slP t.2.2)] (ofH []) (vc (i6 (Policy.checkP t.2.2))) (ofH [])] 34 [(1, vp 1 0), (3, vc (i6 (Policy.checkP t.2.2)))] [(1, AObj.row [.s (st t.1), .s (st t.2.1), .s (AL.Policy.slP t.2.2)])] (Policy.RCheck_c t.2.2) ?_
  refine gQ ?_
  refine gS [] [] 34 [(1, vp 1 0), (3, vc (i6 (Policy.checkP t.2.2))), (12, vc (bo (!decide (Policy.checkP t.2.2 = 0))))] [(1, AObj.row [.s (st t.1), .s (st t.2.1), .s (AL.Policy.slP t.2.2)])] trivial ?_
  refine gN (Policy.checkP t.2.2 = 0) (fun hc2 => ?_) fun hc2 => ?_
  ·
   refine gS [] [] 34 [(2, vc (i6 (Policy.checkP t.2.2)))] [] trivial ?_
   exact gT (vc (i6 (Policy.checkP t.2.2))) (by rw [show checkT t = Policy.checkP t.2.2 from by unfold checkT; grind])
  ·
   refine AMx.skip ?_
   refine gQ ?_
   refine gS [(11, CE.call [] [] (vc (bo (Rows.namedS t.2.1))) [])] [((decide (t.2.1 = [])) = true) → allP [], ((decide (t.2.1 = [])) = true) → allP [(decide (t.2.1 = [])) = true], ((decide (t.2.1 = [])) = true) → allP [(decide (t.2.1 = [])) = true], (decide (t.2.1 = [])) = true → allP [(decide (t.2.1 = [])) = true], (((decide (t.2.1 = [])) && (decide (t.1 = [114, 111, 111, 116]))) = false) → allP [], (((decide (t.2.1 = [])) && (decide (t.1 = [114, 111, 111, 116]))) = false) → allP [((decide (t.2.1 = [])) && (decide (t.1 = [114, 111, 111, 116]))) = false], (((decide (t.2.1 = [])) && (decide (t.1 = [114, 111, 111, 116]))) = false) → allP [((decide (t.2.1 = [])) && (decide (t.1 = [114, 111, 111, 116]))) = false, Spec Tryz.prog 43 [tc (st t.2.1)] (ofH []) (vc (bo (Rows.namedS t.2.1))) (ofH [])], (((decide (t.2.1 = [])) && (decide (t.1 = [114, 111, 111, 116]))) = false) → allP [((decide (t.2.1 = [])) && (decide (t.1 = [114, 111, 111, 116]))) = false], ((((decide (t.2.1 = [])) && (decide (t.1 = [114, 111, 111, 116]))) = false) ∧ (Rows.namedS t.2.1) = true) → allP [], ((((decide (t.2.1 = [])) && (decide (t.1 = [114, 111, 111, 116]))) = false) ∧ (Rows.namedS t.2.1) = true) → allP [(((decide (t.2.1 = [])) && (decide (t.1 = [114, 111, 111, 116]))) = false) ∧ (Rows.namedS t.2.1) = true], ((((decide (t.2.1 = [])) && (decide (t.1 = [114, 111, 111, 116]))) = false) ∧ (Rows.namedS t.2.1) = true) → allP [], ((((decide (t.2.1 = [])) && (decide (t.1 = [114, 111, 111, 116]))) = false) ∧ (Rows.namedS t.2.1) = true) → allP [(((decide (t.2.1 = [])) && (decide (t.1 = [114, 111, 111, 116]))) = false) ∧ (Rows.namedS t.2.1) = true], ((((decide (t.2.1 = [])) && (decide (t.1 = [114, 111, 111, 116]))) = false) ∧ (Rows.namedS t.2.1) = true) → allP [(((decide (t.2.1 = [])) && (decide (t.1 = [114, 111, 111, 116]))) = false) ∧ (Rows.namedS t.2.1) = true, (((decide (t.2.1 = [])) && (decide (t.1 = [114, 111, 111, 116]))) = false) ∧ (Rows.namedS t.2.1) = true], (((decide (t.2.1 = [])) && (decide (t.1 = [114, 111, 111, 116]))) = false) → allP [((decide (t.2.1 = [])) && (decide (t.1 = [114, 111, 111, 116]))) = false, (Rows.namedS t.2.1) = true → allP [(((decide (t.2.1 = [])) && (decide (t.1 = [114, 111, 111, 116]))) = false) ∧ (Rows.namedS t.2.1) = true]], ((decide (t.2.1 = [])) && (decide (t.1 = [114, 111, 111, 116]))) = false → allP [((decide (t.2.1 = [])) && (decide (t.1 = [114, 111, 111, 116]))) = false]] 34 [(33, vc (bo (((decide (t.2.1 = [])) && (decide (t.1 = [114, 111, 111, 116]))) || ((Rows.namedS t.2.1) && (!decide (t.2.1 = t.1))))))] [] ⟨(fun _ => trivial), (fun hp => hp), (fun hp => hp), (fun hp2 => (by first | exact hp2 | exact ⟨hp, hp2⟩)), (fun _ => trivial), (fun hp => hp), (fun hp => by have hq := hp; (try simp only [decide_eq_true_eq, decide_eq_false_iff_not, Bool.and_eq_true, Bool.or_eq_true, Bool.and_eq_false_iff, Bool.or_eq_false_iff, Bool.not_eq_true', Bool.not_eq_false', Bool.not_eq_true, Bool.not_eq_false] at hq); exact ⟨hp, (Rows.Name_c t.2.1)⟩), (fun hp => hp), (fun _ => trivial), (fun hp => hp), (fun _ => trivial), (fun hp => hp), (fun hp => ⟨hp, hp⟩), (fun hp => by have hq := hp; (try simp only [decide_eq_true_eq, decide_eq_false_iff_not, Bool.and_eq_true, Bool.or_eq_true, Bool.and_eq_false_iff, Bool.or_eq_false_iff, Bool.not_eq_true', Bool.not_eq_false', Bool.not_eq_true, Bool.not_eq_false] at hq); exact ⟨hp, (fun hp2 => (by first | exact hp2 | exact ⟨hp, hp2⟩))⟩), (fun hp2 => (by first | exact hp2 | exact ⟨hp, hp2⟩))⟩ ?_
   refine gB ((((decide (t.2.1 = [])) && (decide (t.1 = [114, 111, 111, 116]))) || ((Rows.namedS t.2.1) && (!decide (t.2.1 = t.1))))) (fun hc3 => ?_) fun hc3 => ?_
   ·
    try simp only [xT, xF, xA, xB, xO, xP, xN, xM] at hc3
    refine gS [] [] 34 [(2, vc (i6 0))] [] trivial ?_
    exact gT (vc (i6 0)) (by rw [show checkT t = 0 from by unfold checkT; grind])
   ·
    try simp only [xT, xF, xA, xB, xO, xP, xN, xM] at hc3
    refine AMx.skip ?_
    refine gS [] [] 34 [(2, vc (i6 2))] [] trivial ?_
    exact gT (vc (i6 2)) (by rw [show checkT t = 2 from by unfold checkT; grind])
theorem f39_body : Tryz.f39.body = some (.seq (.region 0 (rg Tryz.f39 0) false) (.seq (.region 1 (rg Tryz.f39 1) false) (.ret))) := by kernel_rfl
set_option maxRecDepth 100000 in
set_option maxHeartbeats 8000000 in
theorem first_c  : Pure Tryz.prog 39 [] (AV.t (TV.agg [.s (st firstT.1), .s (st firstT.2.1), .s (AL.Policy.slP firstT.2.2)])) := by
 refine Pure.of_body Tryz.func39 f39_body (by kernel_rfl) Tryz.ntmps39 (by kernel_rfl) (by kernel_rfl) ?_
 refine gS [] [] 4 [(0, vp 0 0)] [(0, AObj.row [.s (st []), .s (st []), .s (SC.nilsl)])] trivial ?_
 refine gS [(1, CE.shr (some (AObj.grow 80 2 AL.Policy.RuleV ([], 0) AL.Policy.rowP [(([], 63) : AL.Policy.RuleV)])))] [flat 2 AL.Policy.rowP [(([], 63) : AL.Policy.RuleV)] = [.s (st []), .s (u8 63)], List.length ([(([], 63) : AL.Policy.RuleV)] : List AL.Policy.RuleV) = 1] 4 [(0, vp 0 0)] [(0, AObj.row [.s (st [114, 111, 111, 116]), .s (st []), .s (AL.Policy.slP [(([], 63) : AL.Policy.RuleV)])])] ⟨rfl, rfl⟩ ?_
 exact gT (AV.t (TV.agg [.s (st [114, 111, 111, 116]), .s (st []), .s (AL.Policy.slP [(([], 63) : AL.Policy.RuleV)])])) rfl
theorem f11_body : Tryz.f11.body = some (.seq (.region 0 (rg Tryz.f11 0) false) (.seq (.region 1 (rg Tryz.f11 1) false) (.ret))) := by kernel_rfl
set_option maxRecDepth 100000 in
set_option maxHeartbeats 8000000 in
theorem New_c  : Pure Tryz.prog 11 [] (AV.t (TV.agg [.s (slT [firstT])])) := by
 refine Pure.of_body Tryz.func11 f11_body (by kernel_rfl) Tryz.ntmps11 (by kernel_rfl) (by kernel_rfl) ?_
 refine gS [] [] 4 [(0, vp 0 0)] [(0, AObj.row [.s (SC.nilsl)])] trivial ?_
 refine gS [(0, CE.call [] [] (AV.t (TV.agg [.s (st firstT.1), .s (st firstT.2.1), .s (AL.Policy.slP firstT.2.2)])) []), (1, CE.shr (some (AObj.grow 41 3 TokV tokd rowT [firstT])))] [Spec Tryz.prog 39 [] (ofH []) (AV.t (TV.agg [.s (st firstT.1), .s (st firstT.2.1), .s (AL.Policy.slP firstT.2.2)])) (ofH []), flat 3 rowT [firstT] = [.s (st firstT.1), .s (st firstT.2.1), .s (AL.Policy.slP firstT.2.2)], List.length ([firstT] : List TokV) = 1] 4 [(0, vp 0 0)] [(0, AObj.row [.s (slT [firstT])])] ⟨(first_c), rfl, rfl⟩ ?_
 exact gT (AV.t (TV.agg [.s (slT [firstT])])) rfl
theorem f12_body : Tryz.f12.body = some (.seq (.region 0 (rg Tryz.f12 0) false) (.seq (.region 1 (rg Tryz.f12 1) false) (.ret))) := by kernel_rfl
set_option maxRecDepth 100000 in
set_option maxHeartbeats 8000000 in
theorem RNew_c  : Pure Tryz.prog 12 [] (vc (slT [firstT])) := by
 refine Pure.of_body Tryz.func12 f12_body (by kernel_rfl) Tryz.ntmps12 (by kernel_rfl) (by kernel_rfl) ?_
 refine gS [] [] 5 [] [] trivial ?_
 refine gS [(1, CE.shr (some (AObj.grow 82 2 AL.Policy.RuleV ([], 0) AL.Policy.rowP [(([], 63) : AL.Policy.RuleV)]))), (3, CE.obj (AObj.grow 34 3 TokV tokd rowT [(([114, 111, 111, 116], [], [(([], 63) : AL.Policy.RuleV)]) : TokV)]))] [flat 2 AL.Policy.rowP [(([], 63) : AL.Policy.RuleV)] = [.s (st []), .s (u8 63)], List.length ([(([], 63) : AL.Policy.RuleV)] : List AL.Policy.RuleV) = 1, flat 3 rowT [(([114, 111, 111, 116], [], [(([], 63) : AL.Policy.RuleV)]) : TokV)] = [.s (st [114, 111, 111, 116]), .s (st []), .s (AL.Policy.slP [(([], 63) : AL.Policy.RuleV)])], List.length ([(([114, 111, 111, 116], [], [(([], 63) : AL.Policy.RuleV)]) : TokV)] : List TokV) = 1] 5 [(0, vo 4)] [(4, AObj.grow 34 3 TokV tokd rowT [(([114, 111, 111, 116], [], [(([], 63) : AL.Policy.RuleV)]) : TokV)])] ⟨rfl, rfl, rfl, rfl⟩ ?_
 refine AMx.ent (s' := AS.lst 5 [(0, vc (slT [(([114, 111, 111, 116], [], [(([], 63) : AL.Policy.RuleV)]) : TokV)]))] []) (ent_freeze (id := 4) (T := 34) (by kernel_rfl)) ?_
 exact gT (vc (slT [(([114, 111, 111, 116], [], [(([], 63) : AL.Policy.RuleV)]) : TokV)])) rfl
theorem f86_body : Tryz.f86.body = some (.seq (.region 0 (rg Tryz.f86 0) false) (.seq (.seq (.region 1 (rg Tryz.f86 1) false) (.cond (.tmp 4) (.seq (.region 2 (rg Tryz.f86 2) false) (.ret)) (.skip))) (.seq (.region 3 (rg Tryz.f86 3) false) (.ret)))) := by kernel_rfl
set_option maxRecDepth 100000 in
set_option maxHeartbeats 8000000 in
theorem CloneP_c (l : List AL.Policy.RuleV) (hb : l.length ≤ 100000) : ∀ d, Spec Tryz.prog 86 [tc (AL.Policy.slP l)] H0 (vo d) (ofH [(d, AObj.grow 80 2 AL.Policy.RuleV ([], 0) AL.Policy.rowP l)]) := by
 refine Own.of_body Tryz.func86 f86_body (by kernel_rfl) Tryz.ntmps86 (by kernel_rfl) rfl ?_
 refine AMx.isnil 0 rfl (fun hnil0 => ?_) ?_
 ·
  refine gS [] [] 8 [(0, vc (SC.nilsl))] [] trivial ?_
  refine gQ ?_
  refine gS [] [] 8 [(0, vc (SC.nilsl)), (4, vc (bo true))] [] trivial ?_
  refine gBt ?_
  refine gS [] [] 8 [(2, vc (SC.nilsl))] [] trivial ?_
  refine AMx.ent (s' := AS.lst 8 [(2, vo 2)] [(2, AObj.grow 80 2 AL.Policy.RuleV ([], 0) AL.Policy.rowP [])]) (ent_adopt (t := 2) (d := 2) 80 2 AL.Policy.RuleV ([], 0) AL.Policy.rowP (by kernel_rfl) (by kernel_rfl) (by kernel_rfl) (by kernel_rfl)) ?_
  refine AMx.ret ?_
  exact ⟨.inl rfl, 2, AObj.grow 80 2 AL.Policy.RuleV ([], 0) AL.Policy.rowP [], by kernel_rfl, by kernel_rfl, by first | rfl | (rw [hnil0])⟩
 ·
  refine gS [] [] 8 [(0, vc (SC.nn (AL.Policy.slP l)))] [] trivial ?_
  refine gQ ?_
  refine gS [] [] 8 [(0, vc (SC.nn (AL.Policy.slP l))), (4, vc (bo false))] [] trivial ?_
  refine gBf ?_
  refine AMx.skip ?_
  refine gQ ?_
  refine AMx.ent (ent_weak 0 (v' := vc (AL.Policy.slP l)) (by kernel_rfl) (AV.le_t (TV.le_c AC.le_nn))) ?_
  refine gR [(0, CE.obj (AObj.grow 80 2 AL.Policy.RuleV ([], 0) AL.Policy.rowP [])), (2, CE.obj (AObj.grow 80 2 AL.Policy.RuleV ([], 0) AL.Policy.rowP ([] ++ l)))] [flat 2 AL.Policy.rowP [] = [], List.length ([] : List AL.Policy.RuleV) = 0, AppC (flat 2 AL.Policy.rowP l) (List.length l) 24 (AObj.grow 80 2 AL.Policy.RuleV ([], 0) AL.Policy.rowP []) (AObj.grow 80 2 AL.Policy.RuleV ([], 0) AL.Policy.rowP ([] ++ l))] 8 [(2, vo 7)] [(7, AObj.grow 80 2 AL.Policy.RuleV ([], 0) AL.Policy.rowP ([] ++ l))] ⟨rfl, rfl, (⟨_, rfl, rfl, rfl, by simp only [List.length_nil]; omega, by simp only [maxLen, List.length_nil]; omega⟩)⟩ ?_
  refine AMx.ret ?_
  exact ⟨.inl rfl, 7, AObj.grow 80 2 AL.Policy.RuleV ([], 0) AL.Policy.rowP ([] ++ l), by kernel_rfl, by kernel_rfl, by first | rfl | (rw [hnil0])⟩
theorem f58_body : Tryz.f58.body = some (.seq (.region 0 (rg Tryz.f58 0) false) (.seq (.region 1 (rg Tryz.f58 1) false) (.seq (.region 2 (rg Tryz.f58 2) false) (.ret)))) := by kernel_rfl
set_option maxRecDepth 100000 in
set_option maxHeartbeats 8000000 in
theorem copied_c (t : TokV) (hr : t.2.2.length ≤ 100000) : Pure Tryz.prog 58 [TV.agg [.s (st t.1), .s (st t.2.1), .s (AL.Policy.slP t.2.2)]] (AV.t (TV.agg [.s (st t.1), .s (st t.2.1), .s (AL.Policy.slP t.2.2)])) := by
 refine Pure.of_body Tryz.func58 f58_body (by kernel_rfl) Tryz.ntmps58 (by kernel_rfl) (by kernel_rfl) ?_
 refine gS [] [] 8 [(1, vp 1 0), (2, vp 2 0)] [(1, AObj.row [.s (st t.1), .s (st t.2.1), .s (AL.Policy.slP t.2.2)]), (2, AObj.row [.s (st []), .s (st []), .s (SC.nilsl)])] trivial ?_
 refine gS [(2, CE.call [] [] (vo 5) [(5, AObj.grow 80 2 AL.Policy.RuleV ([], 0) AL.Policy.rowP t.2.2)])] [Spec Tryz.prog 86 [tc (AL.Policy.slP t.2.2)] (ofH []) (vo 5) (ofH [(5, AObj.grow 80 2 AL.Policy.RuleV ([], 0) AL.Policy.rowP t.2.2)])] 8 [(1, vp 1 0), (2, vp 2 0)] [(1, AObj.row [.s (st t.1), .s (st t.2.1), .own 5]), (2, AObj.row [.s (st []), .s (st []), .s (SC.nilsl)]), (5, AObj.grow 80 2 AL.Policy.RuleV ([], 0) AL.Policy.rowP t.2.2)] (CloneP_c t.2.2 (by first | omega | (simp only [List.length_drop, List.length_take, List.length_append, List.length_cons, List.length_nil]; omega) | (omega)) 5) ?_
 refine gS [] [] 8 [(2, vp 2 0)] [(2, AObj.row [.s (st t.1), .s (st t.2.1), .own 5]), (5, AObj.grow 80 2 AL.Policy.RuleV ([], 0) AL.Policy.rowP t.2.2)] trivial ?_
 refine AMx.ent (s' := AS.lst 8 [(2, vp 2 0)] [(2, AObj.row [.s (st t.1), .s (st t.2.1), .s (AL.Policy.slP t.2.2)])]) (ent_freeze (id := 5) (T := 80) (by kernel_rfl)) ?_
 exact gT (AV.t (TV.agg [.s (st t.1), .s (st t.2.1), .s (AL.Policy.slP t.2.2)])) rfl
theorem f105_body : Tryz.f105.body = some (.seq (.region 0 (rg Tryz.f105 0) false) (.seq (.region 1 (rg Tryz.f105 1) false) (.ret))) := by kernel_rfl
set_option maxRecDepth 100000 in
set_option maxHeartbeats 8000000 in
theorem isNaN_c (s : Bytes) : Pure Tryz.prog 105 [tc (st s)] (vc (bo false)) := by
 refine Pure.of_body Tryz.func105 f105_body (by kernel_rfl) Tryz.ntmps105 (by kernel_rfl) (by kernel_rfl) ?_
 refine gS [] [] 6 [(0, vc (st s))] [] trivial ?_
 refine gS [] [] 6 [(2, vc (bo (!decide (s = s))))] [] trivial ?_
 exact gT (vc (bo (!decide (s = s)))) (by simp)
theorem f77_body : Tryz.f77.body = some (.seq (.region 0 (rg Tryz.f77 0) false) (.seq (.region 1 (rg Tryz.f77 1) false) (.seq (.region 2 (rg Tryz.f77 2) false) (.seq (.seq (.region 3 (rg Tryz.f77 3) false) (.cond (.tmp 11) (.seq (.seq (.region 4 (rg Tryz.f77 4) false) (.cond (.tmp 12) (.seq (.region 5 (rg Tryz.f77 5) false) (.ret)) (.skip))) (.seq (.region 6 (rg Tryz.f77 6) false) (.ret))) (.skip))) (.seq (.seq (.region 7 (rg Tryz.f77 7) false) (.cond (.tmp 13) (.seq (.region 8 (rg Tryz.f77 8) false) (.ret)) (.skip))) (.seq (.seq (.region 9 (rg Tryz.f77 9) false) (.cond (.tmp 16) (.seq (.region 10 (rg Tryz.f77 10) false) (.ret)) (.skip))) (.seq (.seq (.region 11 (rg Tryz.f77 11) false) (.cond (.tmp 19) (.seq (.region 12 (rg Tryz.f77 12) false) (.ret)) (.skip))) (.seq (.region 13 (rg Tryz.f77 13) false) (.ret))))))))) := by kernel_rfl
set_option maxRecDepth 100000 in
set_option maxHeartbeats 8000000 in
theorem Compare_c (a b : Bytes) : Pure Tryz.prog 77 [tc (st a), tc (st b)] (vc (i6 (cmpS a b))) := by
 refine Pure.of_body Tryz.func77 f77_body (by kernel_rfl) Tryz.ntmps77 (by kernel_rfl) (by kernel_rfl) ?_
 refine gS [] [] 20 [(0, vc (st a)), (1, vc (st b))] [] trivial ?_
 refine gS [(1, CE.call [] [] (vc (bo false)) [])] [Spec Tryz.prog 105 [tc (st a)] (ofH []) (vc (bo false)) (ofH [])] 20 [(0, vc (st a)), (1, vc (st b)), (5, vc (bo false))] [] (isNaN_c a) ?_
 refine gS [(1, CE.call [] [] (vc (bo false)) [])] [Spec Tryz.prog 105 [tc (st b)] (ofH []) (vc (bo false)) (ofH [])] 20 [(0, vc (st a)), (1, vc (st b)), (5, vc (bo false)), (6, vc (bo false))] [] (isNaN_c b) ?_
 refine gQ ?_
 refine gS [] [] 20 [(0, vc (st a)), (1, vc (st b)), (6, vc (bo false)), (11, vc (bo false))] [] trivial ?_
 refine gBf ?_
 refine AMx.skip ?_
 refine gQ ?_
 refine gS [] [] 20 [(0, vc (st a)), (1, vc (st b)), (13, vc (bo false))] [] trivial ?_
 refine gBf ?_
 refine AMx.skip ?_
 refine gQ ?_
 refine gS [] [] 20 [(0, vc (st a)), (1, vc (st b)), (16, vc (bo (Op.bytesLess a b)))] [] trivial ?_
 refine gB (Op.bytesLess a b) (fun hc3 => ?_) fun hc3 => ?_
 ·
  try simp only [xT, xF] at hc3
  refine gS [] [] 20 [(4, vc (i6 (-1)))] [] trivial ?_
  exact gT (vc (i6 (-1))) (by rw [show cmpS a b = (-1) from by first | exact cmp_1 (by assumption) | exact cmp_2 (by simp_all) (by simp_all) | exact cmp_3 (by simp_all) (by simp_all)])
 ·
  try simp only [xT, xF] at hc3
  refine AMx.skip ?_
  refine gQ ?_
  refine gS [] [] 20 [(19, vc (bo (!(Op.bytesLess a b || decide (a = b)))))] [] trivial ?_
  refine gB (!(Op.bytesLess a b || decide (a = b))) (fun hc4 => ?_) fun hc4 => ?_
  ·
   try simp only [xT, xF, xO, xP, xN, xM] at hc4
   refine gS [] [] 20 [(4, vc (i6 1))] [] trivial ?_
   exact gT (vc (i6 1)) (by rw [show cmpS a b = 1 from by first | exact cmp_1 (by assumption) | exact cmp_2 (by simp_all) (by simp_all) | exact cmp_3 (by simp_all) (by simp_all)])
  ·
   try simp only [xT, xF, xO, xP, xN, xM] at hc4
   refine AMx.skip ?_
   refine gS [] [] 20 [(4, vc (i6 0))] [] trivial ?_
   exact gT (vc (i6 0)) (by rw [show cmpS a b = 0 from by first | exact cmp_1 (by assumption) | exact cmp_2 (by simp_all) (by simp_all) | exact cmp_3 (by simp_all) (by simp_all)])
theorem f76_body : Tryz.f76.body = some (.seq (.region 0 (rg Tryz.f76 0) false) (.seq (.region 1 (rg Tryz.f76 1) false) (.ret))) := by kernel_rfl
set_option maxRecDepth 100000 in
set_option maxHeartbeats 8000000 in
theorem findC_c (t : TokV) (n : Bytes) : Pure Tryz.prog 76 [TV.agg [.s (st t.1), .s (st t.2.1), .s (AL.Policy.slP t.2.2)], tc (st n)] (vc (i6 (cmpS t.1 n))) := by
 refine Pure.of_body Tryz.func76 f76_body (by kernel_rfl) Tryz.ntmps76 (by kernel_rfl) (by kernel_rfl) ?_
 refine gS [] [] 9 [(1, vc (st n)), (2, vp 2 0)] [(2, AObj.row [.s (st t.1), .s (st t.2.1), .s (AL.Policy.slP t.2.2)])] trivial ?_
 refine gS [(3, CE.call [] [] (vc (i6 (cmpS t.1 n))) [])] [Spec Tryz.prog 77 [tc (st t.1), tc (st n)] (ofH []) (vc (i6 (cmpS t.1 n))) (ofH [])] 9 [(4, vc (i6 (cmpS t.1 n)))] [] (Compare_c t.1 n) ?_
 exact gT (vc (i6 (cmpS t.1 n))) rfl
theorem f75_body : Tryz.f75.body = some (.seq (.region 0 (rg Tryz.f75 0) false) (.seq (.region 1 (rg Tryz.f75 1) false) (.seq (.region 2 (rg Tryz.f75 2) false) (.seq (.block 0 (.loop (.seq (.seq (.region 3 (rg Tryz.f75 3) false) (.cond (.tmp 17) (.skip) (.exit 0))) (.block 1 (.seq (.region 4 (rg Tryz.f75 4) false) (.seq (.region 5 (rg Tryz.f75 5) false) (.cond (.tmp 31) (.region 6 (rg Tryz.f75 6) false) (.region 7 (rg Tryz.f75 7) false)))))))) (.seq (.region 8 (rg Tryz.f75 8) false) (.ret)))))) := by kernel_rfl
set_option maxRecDepth 100000 in
set_option maxHeartbeats 8000000 in
theorem Search_c (l : List TokV) (n : Bytes) (ha : Lib.Ahead (fun x : TokV => decide (cmpS x.1 n < 0)) l) (hb : l.length ≤ 100000) : Pure Tryz.prog 75 [tc (slT l), tc (st n), TV.c (.fn 76 [])] (AV.tup [tc (i6 (locT l n : Int)), tc (bo (decide ((locT l n : Int) < (List.length l : Int)) && decide (cmpS (List.getD l (locT l n) tokd).1 n = 0)))]) := by
 refine Pure.of_body Tryz.func75 f75_body (by kernel_rfl) Tryz.ntmps75 (by kernel_rfl) (by kernel_rfl) ?_
 refine AMx.sl 0 (l := l) rfl (fun hl => ?_)
 simp only [maxLen] at hl
 refine gS [] [] 49 [(0, vc (slT l)), (1, vc (st n)), (2, AV.t (TV.c (.fn 76 [])))] [] trivial ?_
 refine gS [] [] 49 [(0, vc (slT l)), (1, vc (st n)), (2, AV.t (TV.c (.fn 76 []))), (8, vc (i6 (List.length l : Int)))] [] trivial ?_
 refine gS [] [] 49 [(0, vc (slT l)), (1, vc (st n)), (2, AV.t (TV.c (.fn 76 []))), (8, vc (i6 (List.length l : Int))), (9, vc (i6 0)), (10, vc (i6 (List.length l : Int)))] [] trivial ?_
 refine gQ ?_
 refine AMx.block ?_
 refine AMx.ent (s' := AS.lst 49 [(0, vc (slT l)), (1, vc (st n)), (2, AV.t (TV.c (.fn 76 []))), (8, vc (i6 (List.length l : Int))), (9, vc (i6 0)), (10, vc (i6 (List.length l : Int)))] []) (ent_proj [0, 1, 2, 8, 9, 10] []) ?_
 refine AMx.loop (fun mm ss => ∃ (i : Nat) (j : Nat), (i ≤ j ∧ j ≤ l.length ∧ (∀ x ∈ List.take i l, (fun x : TokV => decide (cmpS x.1 n < 0)) x = true) ∧ (∀ x ∈ List.drop j l, (fun x : TokV => decide (cmpS x.1 n < 0)) x = false)) ∧ mm = j - i ∧ ss = AS.lst 49 [(0, vc (slT l)), (1, vc (st n)), (2, AV.t (TV.c (.fn 76 []))), (8, vc (i6 (List.length l : Int))), (9, vc (i6 (i : Int))), (10, vc (i6 (j : Int)))] []) ⟨0, l.length, ?_, rfl, ?_⟩ ?_
 · exact ⟨by omega, by omega, fun x hx => by simp at hx, fun x hx => by simp at hx⟩
 · rfl
 rintro mm ss ⟨i, j, ⟨hI, hJ, h1, h2⟩, rfl, rfl⟩
 have hh := Lib.half (i := i) (j := j) (by omega)
 refine gQ ?_
 refine gS [] [] 49 [(0, vc (slT l)), (1, vc (st n)), (2, AV.t (TV.c (.fn 76 []))), (8, vc (i6 (List.length l : Int))), (9, vc (i6 (i : Int))), (10, vc (i6 (j : Int))), (17, vc (bo (decide ((i : Int) < (j : Int)))))] [] trivial ?_
 refine gC ((i : Int) < (j : Int)) (fun hc1 => ?_) fun hc1 => ?_
 ·
  refine AMx.skip ?_
  refine AMx.block ?_
  refine gS [] [InR .i64 ((i : Int) + (j : Int)), (0 : Int) ≤ 1, InR .i64 (Int.fdiv (IntKind.wrap .u64 ((i : Int) + (j : Int))) (2 ^ (min (1 : Int).toNat (IntKind.bits .u64))))] 49 [(0, vc (slT l)), (1, vc (st n)), (2, AV.t (TV.c (.fn 76 []))), (8, vc (i6 (List.length l : Int))), (9, vc (i6 (i : Int))), (10, vc (i6 (j : Int))), (11, vc (i6 (Int.fdiv (IntKind.wrap .u64 ((i : Int) + (j : Int))) (2 ^ (min (1 : Int).toNat (IntKind.bits .u64))))))] [] ⟨(show InR .i64 ((i : Int) + (j : Int)) from (inR64 (by first | omega | (rw [hh]; omega)) (by first | omega | (rw [hh]; omega)))), (show (0 : Int) ≤ 1 from (by first | omega | (rw [hh]; omega))), (show InR .i64 (Int.fdiv (IntKind.wrap .u64 ((i : Int) + (j : Int))) (2 ^ (min (1 : Int).toNat (IntKind.bits .u64)))) from (inR64 (by first | omega | (rw [hh]; omega)) (by first | omega | (rw [hh]; omega))))⟩ ?_
  refine gS [(6, CE.call [] [] (vc (i6 (cmpS (List.getD l (Int.fdiv (IntKind.wrap .u64 ((i : Int) + (j : Int))) (2 ^ (min (1 : Int).toNat (IntKind.bits .u64)))).toNat tokd).1 n))) [])] [(0 : Int) ≤ Int.fdiv (IntKind.wrap .u64 ((i : Int) + (j : Int))) (2 ^ (min (1 : Int).toNat (IntKind.bits .u64))), Int.fdiv (IntKind.wrap .u64 ((i : Int) + (j : Int))) (2 ^ (min (1 : Int).toNat (IntKind.bits .u64))) < List.length l, Spec Tryz.prog 76 [TV.agg [.s (st ((List.getD l (Int.fdiv (IntKind.wrap .u64 ((i : Int) + (j : Int))) (2 ^ (min (1 : Int).toNat (IntKind.bits .u64)))).toNat tokd).1)), .s (st ((List.getD l (Int.fdiv (IntKind.wrap .u64 ((i : Int) + (j : Int))) (2 ^ (min (1 : Int).toNat (IntKind.bits .u64)))).toNat tokd).2.1)), .s (AL.Policy.slP ((List.getD l (Int.fdiv (IntKind.wrap .u64 ((i : Int) + (j : Int))) (2 ^ (min (1 : Int).toNat (IntKind.bits .u64)))).toNat tokd).2.2))], tc (st n)] (ofH []) (vc (i6 (cmpS (List.getD l (Int.fdiv (IntKind.wrap .u64 ((i : Int) + (j : Int))) (2 ^ (min (1 : Int).toNat (IntKind.bits .u64)))).toNat tokd).1 n))) (ofH [])] 49 [(0, vc (slT l)), (1, vc (st n)), (2, AV.t (TV.c (.fn 76 []))), (8, vc (i6 (List.length l : Int))), (9, vc (i6 (i : Int))), (10, vc (i6 (j : Int))), (11, vc (i6 (Int.fdiv (IntKind.wrap .u64 ((i : Int) + (j : Int))) (2 ^ (min (1 : Int).toNat (IntKind.bits .u64)))))), (31, vc (bo (decide (cmpS (List.getD l (Int.fdiv (IntKind.wrap .u64 ((i : Int) + (j : Int))) (2 ^ (min (1 : Int).toNat (IntKind.bits .u64)))).toNat tokd).1 n < 0))))] [] ⟨(show (0 : Int) ≤ Int.fdiv (IntKind.wrap .u64 ((i : Int) + (j : Int))) (2 ^ (min (1 : Int).toNat (IntKind.bits .u64))) from (by first | omega | (rw [hh]; omega))), (show Int.fdiv (IntKind.wrap .u64 ((i : Int) + (j : Int))) (2 ^ (min (1 : Int).toNat (IntKind.bits .u64))) < List.length l from (by first | omega | (rw [hh]; omega))), (findC_c (List.getD l (Int.fdiv (IntKind.wrap .u64 ((i : Int) + (j : Int))) (2 ^ (min (1 : Int).toNat (IntKind.bits .u64)))).toNat tokd) n)⟩ ?_
  refine gC (cmpS (List.getD l (Int.fdiv (IntKind.wrap .u64 ((i : Int) + (j : Int))) (2 ^ (min (1 : Int).toNat (IntKind.bits .u64)))).toNat tokd).1 n < 0) (fun hc2 => ?_) fun hc2 => ?_
  ·
   refine gR [] [InR .i64 ((Int.fdiv (IntKind.wrap .u64 ((i : Int) + (j : Int))) (2 ^ (min (1 : Int).toNat (IntKind.bits .u64)))) + 1)] 49 [(0, vc (slT l)), (1, vc (st n)), (2, AV.t (TV.c (.fn 76 []))), (8, vc (i6 (List.length l : Int))), (9, vc (i6 ((Int.fdiv (IntKind.wrap .u64 ((i : Int) + (j : Int))) (2 ^ (min (1 : Int).toNat (IntKind.bits .u64)))) + 1))), (10, vc (i6 (j : Int)))] [] (show InR .i64 ((Int.fdiv (IntKind.wrap .u64 ((i : Int) + (j : Int))) (2 ^ (min (1 : Int).toNat (IntKind.bits .u64)))) + 1) from (inR64 (by first | omega | (rw [hh]; omega)) (by first | omega | (rw [hh]; omega)))) ?_
   refine AMx.blk ?_
   refine AMx.ent_inv (s' := AS.lst 49 [(0, vc (slT l)), (1, vc (st n)), (2, AV.t (TV.c (.fn 76 []))), (8, vc (i6 (List.length l : Int))), (9, vc (i6 ((Int.fdiv (IntKind.wrap .u64 ((i : Int) + (j : Int))) (2 ^ (min (1 : Int).toNat (IntKind.bits .u64)))) + 1))), (10, vc (i6 (j : Int)))] []) (ent_proj [0, 1, 2, 8, 9, 10] []) ?_
   refine AMx.inv ⟨_, ?_, (i + j) / 2 + 1, j, ?_, rfl, ?_⟩
   rotate_left
   · exact ⟨by omega, by omega, Lib.ahead_lo tokd ha ((i + j) / 2) (by omega) (by have q := hc2; rw [hh, Int.toNat_natCast] at q; exact decide_eq_true q), h2⟩
   · rw [hh]; rfl
   · omega
  ·
   refine gR [] [] 49 [(0, vc (slT l)), (1, vc (st n)), (2, AV.t (TV.c (.fn 76 []))), (8, vc (i6 (List.length l : Int))), (9, vc (i6 (i : Int))), (10, vc (i6 (Int.fdiv (IntKind.wrap .u64 ((i : Int) + (j : Int))) (2 ^ (min (1 : Int).toNat (IntKind.bits .u64))))))] [] trivial ?_
   refine AMx.blk ?_
   refine AMx.ent_inv (s' := AS.lst 49 [(0, vc (slT l)), (1, vc (st n)), (2, AV.t (TV.c (.fn 76 []))), (8, vc (i6 (List.length l : Int))), (9, vc (i6 (i : Int))), (10, vc (i6 (Int.fdiv (IntKind.wrap .u64 ((i : Int) + (j : Int))) (2 ^ (min (1 : Int).toNat (IntKind.bits .u64))))))] []) (ent_proj [0, 1, 2, 8, 9, 10] []) ?_
   refine AMx.inv ⟨_, ?_, i, (i + j) / 2, ?_, rfl, ?_⟩
   rotate_left
   · exact ⟨by omega, by omega, h1, Lib.ahead_hi tokd ha ((i + j) / 2) (by omega) (by have q := hc2; rw [hh, Int.toNat_natCast] at q; exact decide_eq_false q)⟩
   · rw [hh]
   · omega
 ·
  refine AMx.exit ?_
  refine AMx.code_exit ?_
  refine AMx.inv_exit ?_
  refine AMx.blk_exit ?_
  refine gS [(11, CE.call [] [] (vc (i6 (cmpS (List.getD l i tokd).1 n))) [])] [((decide ((i : Int) < (List.length l : Int))) = true) → allP [], ((decide ((i : Int) < (List.length l : Int))) = true) → allP [], ((decide ((i : Int) < (List.length l : Int))) = true) → allP [], ((decide ((i : Int) < (List.length l : Int))) = true) → allP [(decide ((i : Int) < (List.length l : Int))) = true, (decide ((i : Int) < (List.length l : Int))) = true, (0 : Int) ≤ (i : Int), (i : Int) < List.length l], ((decide ((i : Int) < (List.length l : Int))) = true) → allP [(decide ((i : Int) < (List.length l : Int))) = true], ((decide ((i : Int) < (List.length l : Int))) = true) → allP [], ((decide ((i : Int) < (List.length l : Int))) = true) → allP [(decide ((i : Int) < (List.length l : Int))) = true, (decide ((i : Int) < (List.length l : Int))) = true, (decide ((i : Int) < (List.length l : Int))) = true, Spec Tryz.prog 76 [TV.agg [.s (st ((List.getD l i tokd).1)), .s (st ((List.getD l i tokd).2.1)), .s (AL.Policy.slP ((List.getD l i tokd).2.2))], tc (st n)] (ofH []) (vc (i6 (cmpS (List.getD l i tokd).1 n))) (ofH [])], ((decide ((i : Int) < (List.length l : Int))) = true) → allP [(decide ((i : Int) < (List.length l : Int))) = true], (decide ((i : Int) < (List.length l : Int))) = true → allP [(decide ((i : Int) < (List.length l : Int))) = true]] 49 [(6, vc (i6 (i : Int))), (7, vc (bo ((decide ((i : Int) < (List.length l : Int))) && (decide (cmpS (List.getD l i tokd).1 n = 0)))))] [] ⟨(fun _ => trivial), (fun _ => trivial), (fun _ => trivial), (fun hp => by have hq := hp; (try simp only [decide_eq_true_eq, decide_eq_false_iff_not, Bool.and_eq_true, Bool.or_eq_true, Bool.and_eq_false_iff, Bool.or_eq_false_iff, Bool.not_eq_true', Bool.not_eq_false', Bool.not_eq_true, Bool.not_eq_false] at hq); exact ⟨hp, hp, (show (0 : Int) ≤ (i : Int) from (by first | omega | (rw [hh]; omega))), (show (i : Int) < List.length l from (by first | omega | (rw [hh]; omega)))⟩), (fun hp => hp), (fun _ => trivial), (fun hp => by have hq := hp; (try simp only [decide_eq_true_eq, decide_eq_false_iff_not, Bool.and_eq_true, Bool.or_eq_true, Bool.and_eq_false_iff, Bool.or_eq_false_iff, Bool.not_eq_true', Bool.not_eq_false', Bool.not_eq_true, Bool.not_eq_false] at hq); exact ⟨hp, hp, hp, (findC_c (List.getD l i tokd) n)⟩), (fun hp => hp), (fun hp2 => (by first | exact hp2 | exact ⟨hp, hp2⟩))⟩ ?_
  exact gT (AV.tup [tc (i6 (i : Int)), tc (bo ((decide ((i : Int) < (List.length l : Int))) && (decide (cmpS (List.getD l i tokd).1 n = 0))))]) (by rw [show locT l n = i from Lib.lead_eq l i (by omega) h1 (by rw [show i = j by omega]; exact h2)])
theorem f45_body : Tryz.f45.body = some (.seq (.region 0 (rg Tryz.f45 0) false) (.seq (.region 1 (rg Tryz.f45 1) false) (.ret))) := by kernel_rfl
set_option maxRecDepth 100000 in
set_option maxHeartbeats 8000000 in
theorem find_c (l : List TokV) (n : Bytes) (hs : SortT l) (hb : l.length ≤ 100000) : Pure Tryz.prog 45 [TV.agg [.s (slT l)], tc (st n)] (AV.tup [tc (i6 (locT l n : Int)), tc (bo (decide (0 ≤ findT l n)))]) := by
 refine Pure.of_body Tryz.func45 f45_body (by kernel_rfl) Tryz.ntmps45 (by kernel_rfl) (by kernel_rfl) ?_
 refine gS [] [] 12 [(1, vc (st n)), (2, vp 2 0)] [(2, AObj.row [.s (slT l)])] trivial ?_
 refine gS [(3, CE.call [] [] (AV.tup [tc (i6 (locT l n : Int)), tc (bo (decide ((locT l n : Int) < (List.length (l : List TokV) : Int)) && decide (cmpS (List.getD l (locT l n) tokd).1 n = 0)))]) [])] [Spec Tryz.prog 75 [tc (slT l), tc (st n), TV.c (.fn 76 [])] (ofH []) (AV.tup [tc (i6 (locT l n : Int)), tc (bo (decide ((locT l n : Int) < (List.length (l : List TokV) : Int)) && decide (cmpS (List.getD l (locT l n) tokd).1 n = 0)))]) (ofH [])] 12 [(4, vc (i6 (locT l n : Int))), (5, vc (bo (decide ((locT l n : Int) < (List.length (l : List TokV) : Int)) && decide (cmpS (List.getD l (locT l n) tokd).1 n = 0))))] [] (Search_c l n (sort_ahead hs _) hb) ?_
 exact gT (AV.tup [tc (i6 (locT l n : Int)), tc (bo (decide ((locT l n : Int) < (List.length (l : List TokV) : Int)) && decide (cmpS (List.getD l (locT l n) tokd).1 n = 0)))]) (by rw [find_loc hs])
theorem f117_body : Tryz.f117.body = some (.seq (.region 0 (rg Tryz.f117 0) false) (.seq (.seq (.region 1 (rg Tryz.f117 1) false) (.cond (.tmp 6) (.region 2 (rg Tryz.f117 2) false) (.skip))) (.seq (.seq (.region 3 (rg Tryz.f117 3) false) (.seq (.region 4 (rg Tryz.f117 4) false) (.cond (.tmp 16) (.region 5 (rg Tryz.f117 5) false) (.skip)))) (.seq (.region 6 (rg Tryz.f117 6) false) (.ret))))) := by kernel_rfl
set_option maxRecDepth 100000 in
set_option maxHeartbeats 8000000 in
theorem GrowT_c (n : Int) (h0 : 0 ≤ n) (hb : n * 56 ≤ 140737488355328) : ∀ d, Spec Tryz.prog 117 [tc (SC.nilsl), tc (i6 n)] H0 (vo d) (ofH [(d, AObj.grow 41 3 TokV tokd rowT [])]) := by
 refine Own.of_body Tryz.func117 f117_body (by kernel_rfl) Tryz.ntmps117 (by kernel_rfl) rfl ?_
 refine gS [] [] 27 [(0, vc (SC.nilsl)), (1, vc (i6 n))] [] trivial ?_
 refine gQ ?_
 refine gS [] [] 27 [(0, vc (SC.nilsl)), (1, vc (i6 n)), (6, vc (bo (decide (n < 0))))] [] trivial ?_
 refine gC (n < 0) (fun hc1 => ?_) fun hc1 => ?_
 ·
  exfalso
  omega
 ·
  refine AMx.skip ?_
  refine gQ ?_
  refine gS [] [InR .i64 (0 - 0), InR .i64 (n - (0 - 0))] 27 [(0, vc (SC.nilsl)), (1, vc (i6 (n - (0 - 0))))] [] ⟨(show InR .i64 (0 - 0) from (inR64 (by omega) (by omega))), (show InR .i64 (n - (0 - 0)) from (inR64 (by omega) (by omega)))⟩ ?_
  refine gS [] [] 27 [(0, vc (SC.nilsl)), (1, vc (i6 (n - (0 - 0)))), (16, vc (bo (decide (0 < n - (0 - 0)))))] [] trivial ?_
  refine gC (0 < n - (0 - 0)) (fun hc2 => ?_) fun hc2 => ?_
  ·
   refine gR [(5, CE.obj (AObj.grow 41 3 Unit () rowZt (List.replicate (n - (0 - 0)).toNat ())))] [0 ≤ (0 : Int), (0 : Int) ≤ 0, 1 ≤ n - (0 - 0), (n - (0 - 0)) * (56 : Int) ≤ 140737488355328, MakeC (n - (0 - 0)).toNat [.s (st []), .s (st []), .s (SC.nilsl)] (AObj.grow 41 3 Unit () rowZt (List.replicate (n - (0 - 0)).toNat ())), 0 ≤ (0 : Int), (0 : Int) ≤ (List.length (List.replicate (n - (0 - 0)).toNat () : List Unit) : Int)] 27 [(0, vo 25)] [(25, AObj.grow 41 3 Unit () rowZt (List.take 0 (List.replicate (n - (0 - 0)).toNat ())))] ⟨(show 0 ≤ (0 : Int) from (by omega)), (show (0 : Int) ≤ 0 from (by omega)), (show 1 ≤ n - (0 - 0) from (by omega)), (show (n - (0 - 0)) * (56 : Int) ≤ 140737488355328 from (by omega)), (⟨_, rfl, rfl⟩), (show 0 ≤ (0 : Int) from (by omega)), (show (0 : Int) ≤ (List.length (List.replicate (n - (0 - 0)).toNat () : List Unit) : Int) from (by omega))⟩ ?_
   refine gS [] [] 27 [(4, vo 25)] [(25, AObj.grow 41 3 Unit () rowZt (List.take 0 (List.replicate (n - (0 - 0)).toNat ())))] trivial ?_
   refine AMx.ent (ent_regrow (T := 41) (k := 3) 25 (d := ()) (d2 := tokd) (row := rowZt) (row2 := rowT) (l := List.take 0 (List.replicate (n - (0 - 0)).toNat ())) (l2 := []) (by kernel_rfl) (by simp) (fun j x y h1 => by simp at h1)) ?_
   refine AMx.ent (s' := AS.lst 27 [(4, vo 25)] [(25, AObj.grow 41 3 TokV tokd rowT [])]) (ent_proj [4] [25]) ?_
   refine AMx.ret ?_
   exact ⟨.inl rfl, 25, AObj.grow 41 3 TokV tokd rowT [], by kernel_rfl, by kernel_rfl, rfl⟩
  ·
   refine AMx.skip ?_
   refine gS [] [] 27 [(4, vc (SC.nilsl))] [] trivial ?_
   refine AMx.ent (s' := AS.lst 27 [(4, vo 4)] [(4, AObj.grow 41 3 TokV tokd rowT [])]) (ent_adopt (t := 4) (d := 4) 41 3 TokV tokd rowT (by kernel_rfl) (by kernel_rfl) (by kernel_rfl) (by kernel_rfl)) ?_
   refine AMx.ret ?_
   exact ⟨.inl rfl, 4, AObj.grow 41 3 TokV tokd rowT [], by kernel_rfl, by kernel_rfl, rfl⟩
theorem f81_body : Tryz.f81.body = some (.seq (.region 0 (rg Tryz.f81 0) false) (.seq (.region 1 (rg Tryz.f81 1) false) (.seq (.seq (.region 2 (rg Tryz.f81 2) false) (.block 0 (.loop (.seq (.region 3 (rg Tryz.f81 3) false) (.seq (.cond (.tmp 12) (.skip) (.exit 0)) (.seq (.block 1 (.seq (.region 4 (rg Tryz.f81 4) false) (.seq (.region 5 (rg Tryz.f81 5) false) (.seq (.region 6 (rg Tryz.f81 6) false) (.cond (.tmp 20) (.region 7 (rg Tryz.f81 7) false) (.skip)))))) (.region 8 (rg Tryz.f81 8) false))))))) (.seq (.region 9 (rg Tryz.f81 9) false) (.seq (.seq (.region 10 (rg Tryz.f81 10) false) (.block 2 (.loop (.seq (.region 11 (rg Tryz.f81 11) false) (.seq (.cond (.tmp 28) (.skip) (.exit 2)) (.seq (.block 3 (.seq (.region 12 (rg Tryz.f81 12) false) (.region 13 (rg Tryz.f81 13) false))) (.region 14 (rg Tryz.f81 14) false))))))) (.seq (.region 15 (rg Tryz.f81 15) false) (.ret))))))) := by kernel_rfl
set_option maxRecDepth 100000 in
set_option maxHeartbeats 8000000 in
theorem ConcatT_c (ls : List (List TokV)) (hb : ls.flatten.length * 56 ≤ 140737488355328) : Pure Tryz.prog 81 [tc (SC.sl 1 (List TokV) [] rowTs ls)] (vc (slT ls.flatten)) := by
 refine Pure.of_body Tryz.func81 f81_body (by kernel_rfl) Tryz.ntmps81 (by kernel_rfl) (by kernel_rfl) ?_
 refine AMx.sl 0 (l := ls) rfl (fun hl => ?_)
 simp only [maxLen] at hl
 refine gS [] [] 36 [(0, vc (SC.sl 1 (List TokV) [] rowTs ls))] [] trivial ?_
 refine gS [] [] 36 [(0, vc (SC.sl 1 (List TokV) [] rowTs ls)), (3, vc (i6 0))] [] trivial ?_
 refine gQ ?_
 refine gS [] [] 36 [(0, vc (SC.sl 1 (List TokV) [] rowTs ls)), (3, vc (i6 0)), (9, vc (SC.sl 1 (List TokV) [] rowTs ls)), (10, vc (i6 (List.length ls : Int))), (11, vc (i6 0))] [] trivial ?_
 refine AMx.block ?_
 refine AMx.ent (s' := AS.lst 36 [(0, vc (SC.sl 1 (List TokV) [] rowTs ls)), (3, vc (i6 0)), (9, vc (SC.sl 1 (List TokV) [] rowTs ls)), (10, vc (i6 (List.length ls : Int))), (11, vc (i6 0))] []) (ent_proj [0, 3, 9, 10, 11] []) ?_
 refine AMx.loop (fun mm ss => ∃ (k : Nat), (k ≤ ls.length) ∧ mm = ls.length - k ∧ ss = AS.lst 36 [(0, vc (SC.sl 1 (List TokV) [] rowTs ls)), (3, vc (i6 ((List.take k ls).flatten.length : Int))), (9, vc (SC.sl 1 (List TokV) [] rowTs ls)), (10, vc (i6 (List.length ls : Int))), (11, vc (i6 (k : Int)))] []) ⟨0, ?_, rfl, ?_⟩ ?_
 · omega
 · rfl
 rintro mm ss ⟨k, hI, rfl, rfl⟩
 refine gS [] [] 36 [(0, vc (SC.sl 1 (List TokV) [] rowTs ls)), (3, vc (i6 ((List.take k ls).flatten.length : Int))), (9, vc (SC.sl 1 (List TokV) [] rowTs ls)), (10, vc (i6 (List.length ls : Int))), (11, vc (i6 (k : Int))), (12, vc (bo (decide ((k : Int) < (List.length ls : Int)))))] [] trivial ?_
 refine gQ ?_
 refine gC ((k : Int) < (List.length ls : Int)) (fun hc1 => ?_) fun hc1 => ?_
 ·
  refine AMx.skip ?_
  refine gQ ?_
  refine AMx.block ?_
  refine gS [] [(0 : Int) ≤ (k : Int), (k : Int) < List.length ls] 36 [(0, vc (SC.sl 1 (List TokV) [] rowTs ls)), (3, vc (i6 ((List.take k ls).flatten.length : Int))), (5, vc (slT (List.getD ls k []))), (9, vc (SC.sl 1 (List TokV) [] rowTs ls)), (10, vc (i6 (List.length ls : Int))), (11, vc (i6 (k : Int)))] [] ⟨(show (0 : Int) ≤ (k : Int) from (by first | omega | (have h1 := Lib.flat_len ls k (by omega); have h2 := Lib.flat_le ls (k + 1); omega) | (have h3 := Lib.flat_le ls k; omega))), (show (k : Int) < List.length ls from (by first | omega | (have h1 := Lib.flat_len ls k (by omega); have h2 := Lib.flat_le ls (k + 1); omega) | (have h3 := Lib.flat_le ls k; omega)))⟩ ?_
  refine gS [] [InR .i64 (((List.take k ls).flatten.length : Int) + (List.length ((List.getD ls k []) : List TokV) : Int))] 36 [(0, vc (SC.sl 1 (List TokV) [] rowTs ls)), (3, vc (i6 (((List.take k ls).flatten.length : Int) + (List.length ((List.getD ls k []) : List TokV) : Int)))), (9, vc (SC.sl 1 (List TokV) [] rowTs ls)), (10, vc (i6 (List.length ls : Int))), (11, vc (i6 (k : Int)))] [] (show InR .i64 (((List.take k ls).flatten.length : Int) + (List.length ((List.getD ls k []) : List TokV) : Int)) from (inR64 (by first | omega | (have h1 := Lib.flat_len ls k (by omega); have h2 := Lib.flat_le ls (k + 1); omega) | (have h3 := Lib.flat_le ls k; omega)) (by first | omega | (have h1 := Lib.flat_len ls k (by omega); have h2 := Lib.flat_le ls (k + 1); omega) | (have h3 := Lib.flat_le ls k; omega)))) ?_
  refine gS [] [] 36 [(0, vc (SC.sl 1 (List TokV) [] rowTs ls)), (3, vc (i6 (((List.take k ls).flatten.length : Int) + (List.length ((List.getD ls k []) : List TokV) : Int)))), (9, vc (SC.sl 1 (List TokV) [] rowTs ls)), (10, vc (i6 (List.length ls : Int))), (11, vc (i6 (k : Int))), (20, vc (bo (decide (((List.take k ls).flatten.length : Int) + (List.length ((List.getD ls k []) : List TokV) : Int) < 0))))] [] trivial ?_
  refine gC (((List.take k ls).flatten.length : Int) + (List.length ((List.getD ls k []) : List TokV) : Int) < 0) (fun hc2 => ?_) fun hc2 => ?_
  ·
   exfalso
   first | omega | (have h1 := Lib.flat_len ls k (by omega); have h2 := Lib.flat_le ls (k + 1); omega) | (have h3 := Lib.flat_le ls k; omega)
  ·
   refine AMx.skip ?_
   refine AMx.blk ?_
   refine gR [] [InR .i64 ((k : Int) + 1)] 36 [(0, vc (SC.sl 1 (List TokV) [] rowTs ls)), (3, vc (i6 (((List.take k ls).flatten.length : Int) + (List.length ((List.getD ls k []) : List TokV) : Int)))), (9, vc (SC.sl 1 (List TokV) [] rowTs ls)), (10, vc (i6 (List.length ls : Int))), (11, vc (i6 ((k : Int) + 1)))] [] (show InR .i64 ((k : Int) + 1) from (inR64 (by first | omega | (have h1 := Lib.flat_len ls k (by omega); have h2 := Lib.flat_le ls (k + 1); omega) | (have h3 := Lib.flat_le ls k; omega)) (by first | omega | (have h1 := Lib.flat_len ls k (by omega); have h2 := Lib.flat_le ls (k + 1); omega) | (have h3 := Lib.flat_le ls k; omega)))) ?_
   refine AMx.ent_inv (s' := AS.lst 36 [(0, vc (SC.sl 1 (List TokV) [] rowTs ls)), (3, vc (i6 (((List.take k ls).flatten.length : Int) + (List.length ((List.getD ls k []) : List TokV) : Int)))), (9, vc (SC.sl 1 (List TokV) [] rowTs ls)), (10, vc (i6 (List.length ls : Int))), (11, vc (i6 ((k : Int) + 1)))] []) (ent_proj [0, 3, 9, 10, 11] []) ?_
   refine AMx.inv ⟨_, ?_, k + 1, ?_, rfl, ?_⟩
   rotate_left
   · omega
   · rw [Lib.flat_len ls k (by omega)]; rfl
   · omega
 ·
  refine AMx.exit ?_
  refine AMx.code_exit ?_
  refine AMx.inv_exit ?_
  refine AMx.blk_exit ?_
  refine gS [(1, CE.call [] [] (vo 24) [(24, AObj.grow 41 3 TokV tokd rowT [])])] [Spec Tryz.prog 117 [tc (SC.nilsl), tc (i6 ((List.take k ls).flatten.length : Int))] (ofH []) (vo 24) (ofH [(24, AObj.grow 41 3 TokV tokd rowT [])])] 36 [(0, vc (SC.sl 1 (List TokV) [] rowTs ls)), (6, vo 24)] [(24, AObj.grow 41 3 TokV tokd rowT [])] (GrowT_c ((List.take k ls).flatten.length : Int) (by first | omega | (have h1 := Lib.flat_len ls k (by omega); have h2 := Lib.flat_le ls (k + 1); omega) | (have h3 := Lib.flat_le ls k; omega)) (by first | omega | (have h1 := Lib.flat_len ls k (by omega); have h2 := Lib.flat_le ls (k + 1); omega) | (have h3 := Lib.flat_le ls k; omega)) 24) ?_
  refine gQ ?_
  refine gS [] [] 36 [(6, vo 24), (25, vc (SC.sl 1 (List TokV) [] rowTs ls)), (26, vc (i6 (List.length ls : Int))), (27, vc (i6 0))] [(24, AObj.grow 41 3 TokV tokd rowT [])] trivial ?_
  refine AMx.block ?_
  refine AMx.ent (s' := AS.lst 36 [(6, vo 24), (25, vc (SC.sl 1 (List TokV) [] rowTs ls)), (26, vc (i6 (List.length ls : Int))), (27, vc (i6 0))] [(24, AObj.grow 41 3 TokV tokd rowT [])]) (ent_proj [6, 25, 26, 27] [24]) ?_
  refine AMx.loop (fun mm ss => ∃ (m : Nat), (m ≤ ls.length) ∧ mm = ls.length - m ∧ ss = AS.lst 36 [(6, vo 24), (25, vc (SC.sl 1 (List TokV) [] rowTs ls)), (26, vc (i6 (List.length ls : Int))), (27, vc (i6 (m : Int)))] [(24, AObj.grow 41 3 TokV tokd rowT ((List.take m ls).flatten))]) ⟨0, ?_, rfl, ?_⟩ ?_
  · omega
  · rfl
  rintro mm ss ⟨m, hI, rfl, rfl⟩
  refine gS [] [] 36 [(6, vo 24), (25, vc (SC.sl 1 (List TokV) [] rowTs ls)), (26, vc (i6 (List.length ls : Int))), (27, vc (i6 (m : Int))), (28, vc (bo (decide ((m : Int) < (List.length ls : Int)))))] [(24, AObj.grow 41 3 TokV tokd rowT ((List.take m ls).flatten))] trivial ?_
  refine gQ ?_
  refine gC ((m : Int) < (List.length ls : Int)) (fun hc3 => ?_) fun hc3 => ?_
  ·
   refine AMx.skip ?_
   refine gQ ?_
   refine AMx.block ?_
   refine gS [] [(0 : Int) ≤ (m : Int), (m : Int) < List.length ls] 36 [(6, vo 24), (8, vc (slT (List.getD ls m []))), (25, vc (SC.sl 1 (List TokV) [] rowTs ls)), (26, vc (i6 (List.length ls : Int))), (27, vc (i6 (m : Int)))] [(24, AObj.grow 41 3 TokV tokd rowT ((List.take m ls).flatten))] ⟨(show (0 : Int) ≤ (m : Int) from (by first | omega | (have h1 := Lib.flat_len ls k (by omega); have h2 := Lib.flat_le ls (k + 1); omega) | (have h3 := Lib.flat_le ls k; omega))), (show (m : Int) < List.length ls from (by first | omega | (have h1 := Lib.flat_len ls k (by omega); have h2 := Lib.flat_le ls (k + 1); omega) | (have h3 := Lib.flat_le ls k; omega)))⟩ ?_
   refine gR [(2, CE.obj (AObj.grow 41 3 TokV tokd rowT (((List.take m ls).flatten) ++ (List.getD ls m []))))] [AppC (flat 3 rowT (List.getD ls m [])) (List.length ((List.getD ls m []) : List TokV)) 56 (AObj.grow 41 3 TokV tokd rowT ((List.take m ls).flatten)) (AObj.grow 41 3 TokV tokd rowT (((List.take m ls).flatten) ++ (List.getD ls m [])))] 36 [(6, vo 33), (25, vc (SC.sl 1 (List TokV) [] rowTs ls)), (26, vc (i6 (List.length ls : Int))), (27, vc (i6 (m : Int)))] [(33, AObj.grow 41 3 TokV tokd rowT (((List.take m ls).flatten) ++ (List.getD ls m [])))] (⟨_, rfl, rfl, rfl, by have h1 := Lib.flat_len ls m (by omega); have h2 := Lib.flat_le ls (m + 1); omega, by simp only [maxLen]; have h1 := Lib.flat_len ls m (by omega); have h2 := Lib.flat_le ls (m + 1); omega⟩) ?_
   refine AMx.blk ?_
   refine gR [] [InR .i64 ((m : Int) + 1)] 36 [(6, vo 33), (25, vc (SC.sl 1 (List TokV) [] rowTs ls)), (26, vc (i6 (List.length ls : Int))), (27, vc (i6 ((m : Int) + 1)))] [(33, AObj.grow 41 3 TokV tokd rowT (((List.take m ls).flatten) ++ (List.getD ls m [])))] (show InR .i64 ((m : Int) + 1) from (inR64 (by first | omega | (have h1 := Lib.flat_len ls k (by omega); have h2 := Lib.flat_le ls (k + 1); omega) | (have h3 := Lib.flat_le ls k; omega)) (by first | omega | (have h1 := Lib.flat_len ls k (by omega); have h2 := Lib.flat_le ls (k + 1); omega) | (have h3 := Lib.flat_le ls k; omega)))) ?_
   refine AMx.ent_inv (s' := AS.lst 36 [(6, vo 24), (25, vc (SC.sl 1 (List TokV) [] rowTs ls)), (26, vc (i6 (List.length ls : Int))), (27, vc (i6 ((m : Int) + 1)))] [(24, AObj.grow 41 3 TokV tokd rowT (((List.take m ls).flatten) ++ (List.getD ls m [])))]) (ent_swap 33 24 (by kernel_rfl) (by kernel_rfl)) ?_
   refine AMx.ent_inv (s' := AS.lst 36 [(6, vo 24), (25, vc (SC.sl 1 (List TokV) [] rowTs ls)), (26, vc (i6 (List.length ls : Int))), (27, vc (i6 ((m : Int) + 1)))] [(24, AObj.grow 41 3 TokV tokd rowT (((List.take m ls).flatten) ++ (List.getD ls m [])))]) (ent_proj [6, 25, 26, 27] [24]) ?_
   refine AMx.inv ⟨_, ?_, m + 1, ?_, rfl, ?_⟩
   rotate_left
   · omega
   · rw [← Lib.flat_step [] ls m (by omega)]; rfl
   · omega
  ·
   refine AMx.exit ?_
   refine AMx.code_exit ?_
   refine AMx.inv_exit ?_
   refine AMx.blk_exit ?_
   refine gS [] [] 36 [(2, vo 24)] [(24, AObj.grow 41 3 TokV tokd rowT ((List.take m ls).flatten))] trivial ?_
   refine AMx.ent (s' := AS.lst 36 [(2, vc (slT ((List.take m ls).flatten)))] []) (ent_freeze (id := 24) (T := 41) (by kernel_rfl)) ?_
   exact gT (vc (slT ((List.take m ls).flatten))) (by rw [Lib.flat_all ls m (by omega)])
theorem f53_body : Tryz.f53.body = some (.seq (.region 0 (rg Tryz.f53 0) false) (.seq (.region 1 (rg Tryz.f53 1) false) (.seq (.region 2 (rg Tryz.f53 2) true) (.ret)))) := by kernel_rfl
set_option maxRecDepth 100000 in
set_option maxHeartbeats 8000000 in
theorem with_c (l : List TokV) (t : TokV) (hs : SortT l) (hb : l.length ≤ 100000) (hr : t.2.2.length ≤ 100000) : Pure Tryz.prog 53 [TV.agg [.s (slT l)], TV.agg [.s (st t.1), .s (st t.2.1), .s (AL.Policy.slP t.2.2)]] (AV.t (TV.agg [.s (slT (intoT l t))])) := by
 refine Pure.of_body Tryz.func53 f53_body (by kernel_rfl) Tryz.ntmps53 (by kernel_rfl) (by kernel_rfl) ?_
 refine gS [] [] 28 [(2, vp 2 0), (3, vp 3 0), (4, vp 4 0)] [(2, AObj.row [.s (slT l)]), (3, AObj.row [.s (st t.1), .s (st t.2.1), .s (AL.Policy.slP t.2.2)]), (4, AObj.row [.s (SC.nilsl)])] trivial ?_
 refine gS [(3, CE.call [] [] (AV.tup [tc (i6 (locT l t.1 : Int)), tc (bo (decide (0 ≤ findT l t.1)))]) [])] [Spec Tryz.prog 45 [TV.agg [.s (slT l)], tc (st t.1)] (ofH []) (AV.tup [tc (i6 (locT l t.1 : Int)), tc (bo (decide (0 ≤ findT l t.1)))]) (ofH [])] 28 [(2, vp 2 0), (3, vp 3 0), (4, vp 4 0), (5, vc (i6 (locT l t.1 : Int)))] [(2, AObj.row [.s (slT l)]), (3, AObj.row [.s (st t.1), .s (st t.2.1), .s (AL.Policy.slP t.2.2)]), (4, AObj.row [.s (SC.nilsl)])] (find_c l t.1 (by assumption) (by first | omega | (have z := loc_le l t.1; first | omega | (simp only [List.flatten_cons, List.flatten_nil, List.length_append, List.length_cons, List.length_nil, List.length_take, List.length_drop]; omega)))) ?_
 refine gY [(5, CE.call [] [] (AV.t (TV.agg [.s (st t.1), .s (st t.2.1), .s (AL.Policy.slP t.2.2)])) []), (6, CE.shr (some (AObj.grow 41 3 TokV tokd rowT [t]))), (11, CE.obj (AObj.grow 27 1 (List TokV) [] rowTs [List.take (locT l t.1) l, [t], List.drop (locT l t.1) l])), (12, CE.call [25] [] (vc (slT (([List.take (locT l t.1) l, [t], List.drop (locT l t.1) l]).flatten))) [])] [(1, [2]), (4, [3]), (8, [2]), (12, [25]), (14, [4])] [0 ≤ (locT l t.1 : Int), (locT l t.1 : Int) ≤ List.length l, Spec Tryz.prog 58 [TV.agg [.s (st t.1), .s (st t.2.1), .s (AL.Policy.slP t.2.2)]] (ofH []) (AV.t (TV.agg [.s (st t.1), .s (st t.2.1), .s (AL.Policy.slP t.2.2)])) (ofH []), flat 3 rowT [t] = [.s (st t.1), .s (st t.2.1), .s (AL.Policy.slP t.2.2)], List.length ([t] : List TokV) = 1, 0 ≤ (locT l t.1 : Int), (locT l t.1 : Int) ≤ List.length l, flat 1 rowTs [List.take (locT l t.1) l, [t], List.drop (locT l t.1) l] = [.s (slT (List.take (locT l t.1) l)), .s (slT [t]), .s (slT (List.drop (locT l t.1) l))], List.length ([List.take (locT l t.1) l, [t], List.drop (locT l t.1) l] : List (List TokV)) = 3, Spec Tryz.prog 81 [tc (SC.sl 1 (List TokV) [] rowTs [List.take (locT l t.1) l, [t], List.drop (locT l t.1) l])] (ofH []) (vc (slT (([List.take (locT l t.1) l, [t], List.drop (locT l t.1) l]).flatten))) (ofH [])] 28 [(4, vp 4 0)] [(4, AObj.row [.s (slT (([List.take (locT l t.1) l, [t], List.drop (locT l t.1) l]).flatten))])] mixed ⟨(show 0 ≤ (locT l t.1 : Int) from (by first | omega | (have z := loc_le l t.1; first | omega | (simp only [List.flatten_cons, List.flatten_nil, List.length_append, List.length_cons, List.length_nil, List.length_take, List.length_drop]; omega)))), (show (locT l t.1 : Int) ≤ List.length l from (by first | omega | (have z := loc_le l t.1; first | omega | (simp only [List.flatten_cons, List.flatten_nil, List.length_append, List.length_cons, List.length_nil, List.length_take, List.length_drop]; omega)))), (copied_c t (by first | omega | (have z := loc_le l t.1; first | omega | (simp only [List.flatten_cons, List.flatten_nil, List.length_append, List.length_cons, List.length_nil, List.length_take, List.length_drop]; omega)))), rfl, rfl, (show 0 ≤ (locT l t.1 : Int) from (by first | omega | (have z := loc_le l t.1; first | omega | (simp only [List.flatten_cons, List.flatten_nil, List.length_append, List.length_cons, List.length_nil, List.length_take, List.length_drop]; omega)))), (show (locT l t.1 : Int) ≤ List.length l from (by first | omega | (have z := loc_le l t.1; first | omega | (simp only [List.flatten_cons, List.flatten_nil, List.length_append, List.length_cons, List.length_nil, List.length_take, List.length_drop]; omega)))), rfl, rfl, (ConcatT_c [List.take (locT l t.1) l, [t], List.drop (locT l t.1) l] (by simp only [List.flatten_cons, List.flatten_nil, List.length_append, List.length_cons, List.length_nil, List.length_take, List.length_drop]; first | omega | (have z := loc_le l t.1; first | omega | (simp only [List.flatten_cons, List.flatten_nil, List.length_append, List.length_cons, List.length_nil, List.length_take, List.length_drop]; omega))))⟩ ?_
 exact gT (AV.t (TV.agg [.s (slT (([List.take (locT l t.1) l, [t], List.drop (locT l t.1) l]).flatten))])) (by rw [into_flat])
theorem f20_body : Tryz.f20.body = some (.seq (.region 0 (rg Tryz.f20 0) false) (.seq (.seq (.region 1 (rg Tryz.f20 1) false) (.seq (.region 2 (rg Tryz.f20 2) false) (.cond (.tmp 14) (.seq (.region 3 (rg Tryz.f20 3) false) (.ret)) (.skip)))) (.seq (.seq (.region 4 (rg Tryz.f20 4) false) (.cond (.tmp 19) (.seq (.region 5 (rg Tryz.f20 5) false) (.ret)) (.skip))) (.seq (.seq (.region 6 (rg Tryz.f20 6) false) (.seq (.region 7 (rg Tryz.f20 7) false) (.cond (.tmp 28) (.seq (.region 8 (rg Tryz.f20 8) false) (.ret)) (.skip)))) (.seq (.region 9 (rg Tryz.f20 9) false) (.seq (.seq (.region 10 (rg Tryz.f20 10) false) (.cond (.tmp 38) (.seq (.region 11 (rg Tryz.f20 11) false) (.ret)) (.skip))) (.seq (.seq (.region 12 (rg Tryz.f20 12) true) (.cond (.tmp 49) (.seq (.region 13 (rg Tryz.f20 13) false) (.ret)) (.skip))) (.seq (.region 14 (rg Tryz.f20 14) false) (.ret))))))))) := by kernel_rfl
set_option maxRecDepth 100000 in
set_option maxHeartbeats 8000000 in
theorem Make_c (l : List TokV) (t : TokV) (hs : SortT l) (hb : l.length ≤ 100000) : Pure Tryz.prog 20 [TV.agg [.s (slT l)], TV.agg [.s (st t.1), .s (st t.2.1), .s (AL.Policy.slP t.2.2)]] (AV.tup [TV.agg [.s (slT ((makeT l t).1))], tc (i6 ((makeT l t).2))]) := by
 refine Pure.of_body Tryz.func20 f20_body (by kernel_rfl) Tryz.ntmps20 (by kernel_rfl) (by kernel_rfl) ?_
 refine gS [] [] 54 [(2, vp 2 0), (3, vp 3 0), (4, vp 4 0)] [(2, AObj.row [.s (slT l)]), (3, AObj.row [.s (st t.1), .s (st t.2.1), .s (AL.Policy.slP t.2.2)]), (4, AObj.row [.s (SC.nilsl)])] trivial ?_
 refine gQ ?_
 refine gS [(1, CE.call [] [] (vc (i6 (checkT t))) [])] [Spec Tryz.prog 13 [TV.agg [.s (st t.1), .s (st t.2.1), .s (AL.Policy.slP t.2.2)]] (ofH []) (vc (i6 (checkT t))) (ofH [])] 54 [(2, vp 2 0), (3, vp 3 0), (4, vp 4 0), (6, vc (i6 (checkT t)))] [(2, AObj.row [.s (slT l)]), (3, AObj.row [.s (st t.1), .s (st t.2.1), .s (AL.Policy.slP t.2.2)]), (4, AObj.row [.s (SC.nilsl)])] (Check_c t) ?_
 refine gS [] [] 54 [(2, vp 2 0), (3, vp 3 0), (4, vp 4 0), (6, vc (i6 (checkT t))), (14, vc (bo (!decide (checkT t = 0))))] [(2, AObj.row [.s (slT l)]), (3, AObj.row [.s (st t.1), .s (st t.2.1), .s (AL.Policy.slP t.2.2)]), (4, AObj.row [.s (SC.nilsl)])] trivial ?_
 refine gN (checkT t = 0) (fun hc1 => ?_) fun hc1 => ?_
 ·
  refine gS [] [] 54 [(4, vp 4 0), (5, vc (i6 (checkT t)))] [(4, AObj.row [.s (slT l)])] trivial ?_
  exact gT (AV.tup [TV.agg [.s (slT l)], tc (i6 (checkT t))]) (by rw [show makeT l t = (l, checkT t) from by first | exact make_1 (by assumption) | exact make_2 (by omega) (by assumption) | exact make_3 (by omega) (by assumption) (by assumption) | exact make_4 (by omega) (by assumption) (by assumption) (by omega) | exact make_5 (by omega) (by assumption) (by assumption) (by omega) (by first | assumption | (rw [(at_loc hs (by assumption)).1]; assumption)) | exact make_0 (by omega) (by assumption) (by assumption) (by omega) (by first | assumption | (rw [(at_loc hs (by assumption)).1]; assumption))])
 ·
  refine AMx.skip ?_
  refine gQ ?_
  refine gS [] [] 54 [(2, vp 2 0), (3, vp 3 0), (4, vp 4 0), (19, vc (bo (decide (t.2.1 = []))))] [(2, AObj.row [.s (slT l)]), (3, AObj.row [.s (st t.1), .s (st t.2.1), .s (AL.Policy.slP t.2.2)]), (4, AObj.row [.s (SC.nilsl)])] trivial ?_
  refine gC (t.2.1 = []) (fun hc2 => ?_) fun hc2 => ?_
  ·
   refine gS [] [] 54 [(4, vp 4 0), (5, vc (i6 2))] [(4, AObj.row [.s (slT l)])] trivial ?_
   exact gT (AV.tup [TV.agg [.s (slT l)], tc (i6 2)]) (by rw [show makeT l t = (l, 2) from by first | exact make_1 (by assumption) | exact make_2 (by omega) (by assumption) | exact make_3 (by omega) (by assumption) (by assumption) | exact make_4 (by omega) (by assumption) (by assumption) (by omega) | exact make_5 (by omega) (by assumption) (by assumption) (by omega) (by first | assumption | (rw [(at_loc hs (by assumption)).1]; assumption)) | exact make_0 (by omega) (by assumption) (by assumption) (by omega) (by first | assumption | (rw [(at_loc hs (by assumption)).1]; assumption))])
  ·
   refine AMx.skip ?_
   refine gQ ?_
   refine gS [(3, CE.call [] [] (AV.tup [tc (i6 (locT l t.1 : Int)), tc (bo (decide (0 ≤ findT l t.1)))]) [])] [Spec Tryz.prog 45 [TV.agg [.s (slT l)], tc (st t.1)] (ofH []) (AV.tup [tc (i6 (locT l t.1 : Int)), tc (bo (decide (0 ≤ findT l t.1)))]) (ofH [])] 54 [(2, vp 2 0), (3, vp 3 0), (4, vp 4 0), (8, vc (bo (decide (0 ≤ findT l t.1))))] [(2, AObj.row [.s (slT l)]), (3, AObj.row [.s (st t.1), .s (st t.2.1), .s (AL.Policy.slP t.2.2)]), (4, AObj.row [.s (SC.nilsl)])] (find_c l t.1 (by assumption) (by first | omega | (have z := check_le (t := t) (by omega); omega) | (have z := at_loc hs (by assumption); omega))) ?_
   refine gS [] [] 54 [(2, vp 2 0), (3, vp 3 0), (4, vp 4 0), (28, vc (bo (decide (0 ≤ findT l t.1))))] [(2, AObj.row [.s (slT l)]), (3, AObj.row [.s (st t.1), .s (st t.2.1), .s (AL.Policy.slP t.2.2)]), (4, AObj.row [.s (SC.nilsl)])] trivial ?_
   refine gC (0 ≤ findT l t.1) (fun hc3 => ?_) fun hc3 => ?_
   ·
    refine gS [] [] 54 [(4, vp 4 0), (5, vc (i6 20))] [(4, AObj.row [.s (slT l)])] trivial ?_
    exact gT (AV.tup [TV.agg [.s (slT l)], tc (i6 20)]) (by rw [show makeT l t = (l, 20) from by first | exact make_1 (by assumption) | exact make_2 (by omega) (by assumption) | exact make_3 (by omega) (by assumption) (by assumption) | exact make_4 (by omega) (by assumption) (by assumption) (by omega) | exact make_5 (by omega) (by assumption) (by assumption) (by omega) (by first | assumption | (rw [(at_loc hs (by assumption)).1]; assumption)) | exact make_0 (by omega) (by assumption) (by assumption) (by omega) (by first | assumption | (rw [(at_loc hs (by assumption)).1]; assumption))])
   ·
    refine AMx.skip ?_
    refine gS [(3, CE.call [] [] (AV.tup [tc (i6 (locT l t.2.1 : Int)), tc (bo (decide (0 ≤ findT l t.2.1)))]) [])] [Spec Tryz.prog 45 [TV.agg [.s (slT l)], tc (st t.2.1)] (ofH []) (AV.tup [tc (i6 (locT l t.2.1 : Int)), tc (bo (decide (0 ≤ findT l t.2.1)))]) (ofH [])] 54 [(2, vp 2 0), (3, vp 3 0), (4, vp 4 0), (9, vc (i6 (locT l t.2.1 : Int))), (10, vc (bo (decide (0 ≤ findT l t.2.1))))] [(2, AObj.row [.s (slT l)]), (3, AObj.row [.s (st t.1), .s (st t.2.1), .s (AL.Policy.slP t.2.2)]), (4, AObj.row [.s (SC.nilsl)])] (find_c l t.2.1 (by assumption) (by first | omega | (have z := check_le (t := t) (by omega); omega) | (have z := at_loc hs (by assumption); omega))) ?_
    refine gQ ?_
    refine gS [] [] 54 [(2, vp 2 0), (3, vp 3 0), (4, vp 4 0), (9, vc (i6 (locT l t.2.1 : Int))), (38, vc (bo (!(decide (0 ≤ findT l t.2.1)))))] [(2, AObj.row [.s (slT l)]), (3, AObj.row [.s (st t.1), .s (st t.2.1), .s (AL.Policy.slP t.2.2)]), (4, AObj.row [.s (SC.nilsl)])] trivial ?_
    refine gB (!(decide (0 ≤ findT l t.2.1))) (fun hc4 => ?_) fun hc4 => ?_
    ·
     try simp only [xT, xF, xN, xM] at hc4
     refine gS [] [] 54 [(4, vp 4 0), (5, vc (i6 6))] [(4, AObj.row [.s (slT l)])] trivial ?_
     exact gT (AV.tup [TV.agg [.s (slT l)], tc (i6 6)]) (by rw [show makeT l t = (l, 6) from by first | exact make_1 (by assumption) | exact make_2 (by omega) (by assumption) | exact make_3 (by omega) (by assumption) (by assumption) | exact make_4 (by omega) (by assumption) (by assumption) (by omega) | exact make_5 (by omega) (by assumption) (by assumption) (by omega) (by first | assumption | (rw [(at_loc hs (by assumption)).1]; assumption)) | exact make_0 (by omega) (by assumption) (by assumption) (by omega) (by first | assumption | (rw [(at_loc hs (by assumption)).1]; assumption))])
    ·
     try simp only [xT, xF, xN, xM] at hc4
     refine AMx.skip ?_
     refine gQ ?_
     refine gY [(8, CE.call [] [] (vc (bo (Policy.coversS t.2.2 ((List.getD l (locT l t.2.1) tokd).2.2)))) [])] [(1, [3]), (3, [2])] [(0 : Int) ≤ (locT l t.2.1 : Int), (locT l t.2.1 : Int) < List.length l, Spec Tryz.prog 28 [tc (AL.Policy.slP t.2.2), tc (AL.Policy.slP ((List.getD l (locT l t.2.1) tokd).2.2))] (ofH []) (vc (bo (Policy.coversS t.2.2 ((List.getD l (locT l t.2.1) tokd).2.2)))) (ofH [])] 54 [(2, vp 2 0), (3, vp 3 0), (4, vp 4 0), (49, vc (bo (!(Policy.coversS t.2.2 ((List.getD l (locT l t.2.1) tokd).2.2)))))] [(2, AObj.row [.s (slT l)]), (3, AObj.row [.s (st t.1), .s (st t.2.1), .s (AL.Policy.slP t.2.2)]), (4, AObj.row [.s (SC.nilsl)])] mixed ⟨(show (0 : Int) ≤ (locT l t.2.1 : Int) from (by first | omega | (have z := check_le (t := t) (by omega); omega) | (have z := at_loc hs (by assumption); omega))), (show (locT l t.2.1 : Int) < List.length l from (by first | omega | (have z := check_le (t := t) (by omega); omega) | (have z := at_loc hs (by assumption); omega))), (Policy.Covers_c t.2.2 ((List.getD l (locT l t.2.1) tokd).2.2))⟩ ?_
     refine gB (!(Policy.coversS t.2.2 ((List.getD l (locT l t.2.1) tokd).2.2))) (fun hc5 => ?_) fun hc5 => ?_
     ·
      try simp only [xT, xF, xN, xM] at hc5
      refine gS [] [] 54 [(4, vp 4 0), (5, vc (i6 13))] [(4, AObj.row [.s (slT l)])] trivial ?_
      exact gT (AV.tup [TV.agg [.s (slT l)], tc (i6 13)]) (by rw [show makeT l t = (l, 13) from by first | exact make_1 (by assumption) | exact make_2 (by omega) (by assumption) | exact make_3 (by omega) (by assumption) (by assumption) | exact make_4 (by omega) (by assumption) (by assumption) (by omega) | exact make_5 (by omega) (by assumption) (by assumption) (by omega) (by first | assumption | (rw [(at_loc hs (by assumption)).1]; assumption)) | exact make_0 (by omega) (by assumption) (by assumption) (by omega) (by first | assumption | (rw [(at_loc hs (by assumption)).1]; assumption))])
     ·
      try simp only [xT, xF, xN, xM] at hc5
      refine AMx.skip ?_
      refine gS [(2, CE.call [] [] (AV.t (TV.agg [.s (slT (intoT l t))])) [])] [Spec Tryz.prog 53 [TV.agg [.s (slT l)], TV.agg [.s (st t.1), .s (st t.2.1), .s (AL.Policy.slP t.2.2)]] (ofH []) (AV.t (TV.agg [.s (slT (intoT l t))])) (ofH [])] 54 [(4, vp 4 0), (5, vc (i6 0))] [(4, AObj.row [.s (slT (intoT l t))])] (with_c l t (by assumption) (by first | omega | (have z := check_le (t := t) (by omega); omega) | (have z := at_loc hs (by assumption); omega)) (by first | omega | (have z := check_le (t := t) (by omega); omega) | (have z := at_loc hs (by assumption); omega))) ?_
      exact gT (AV.tup [TV.agg [.s (slT (intoT l t))], tc (i6 0)]) (by rw [show makeT l t = ((intoT l t), 0) from by first | exact make_1 (by assumption) | exact make_2 (by omega) (by assumption) | exact make_3 (by omega) (by assumption) (by assumption) | exact make_4 (by omega) (by assumption) (by assumption) (by omega) | exact make_5 (by omega) (by assumption) (by assumption) (by omega) (by first | assumption | (rw [(at_loc hs (by assumption)).1]; assumption)) | exact make_0 (by omega) (by assumption) (by assumption) (by omega) (by first | assumption | (rw [(at_loc hs (by assumption)).1]; assumption))])
end AL.Token
