/- The proof library and the contracts that the law reaches: joined by a program. No condition. -/
import Derived.Test.YtlgmdlckjinfcaaGreatDoorTDa
namespace AL.Route
open Go Go.Proofs AL AL.Rune
set_option linter.unusedVariables false
set_option linter.unusedSimpArgs false
theorem f171_body : Tryz.f171.body = some (.seq (.region 0 (rg Tryz.f171 0) false) (.seq (.block 0 (.seq (.seq (.region 1 (rg Tryz.f171 1) false) (.cond (.tmp 3) (.skip) (.seq (.region 2 (rg Tryz.f171 2) false) (.cond (.tmp 3) (.skip) (.region 3 (rg Tryz.f171 3) false))))) (.cond (.tmp 3) (.seq (.region 4 (rg Tryz.f171 4) false) (.ret)) (.seq (.seq (.region 5 (rg Tryz.f171 5) false) (.cond (.tmp 22) (.skip) (.seq (.region 6 (rg Tryz.f171 6) false) (.cond (.tmp 22) (.skip) (.region 7 (rg Tryz.f171 7) false))))) (.cond (.tmp 22) (.seq (.region 8 (rg Tryz.f171 8) false) (.ret)) (.skip)))))) (.seq (.region 9 (rg Tryz.f171 9) false) (.ret)))) := by kernel_rfl
set_option maxRecDepth 100000 in
set_option maxHeartbeats 8000000 in
theorem Rune_c (c : Int) : Pure Tryz.prog 171 [tc (i3 c)] (vc (bo (runeOk c))) := by
 refine Pure.of_body Tryz.func171 f171_body (by kernel_rfl) Tryz.ntmps171 (by kernel_rfl) (by kernel_rfl) ?_
 refine gS [] [] 35 [(0, vc (i3 c))] [] trivial ?_
 refine gQ ?_
 refine AMx.block ?_
 refine gQ ?_
 refine gS [] [((decide (97 ≤ c)) = true) → allP [], ((decide (97 ≤ c)) = true) → allP [(decide (97 ≤ c)) = true], (decide (97 ≤ c)) = true → allP [(decide (97 ≤ c)) = true]] 35 [(0, vc (i3 c)), (3, vc (bo ((decide (97 ≤ c)) && (decide (c ≤ 122)))))] [] ⟨(fun _ => trivial), (fun hp => hp), (fun hp2 => (by first | exact hp2 | exact ⟨hp, hp2⟩))⟩ ?_
 refine gB (((decide (97 ≤ c)) && (decide (c ≤ 122)))) (fun hc1 => ?_) fun hc1 => ?_
 ·
  try simp only [xT, xF, xA, xB] at hc1
  refine AMx.skip ?_
  refine gB (((decide (97 ≤ c)) && (decide (c ≤ 122)))) (fun hc2 => ?_) fun hc2 => ?_
  ·
   try simp only [xT, xF, xA, xB] at hc2
   refine gS [] [] 35 [(2, vc (bo true))] [] trivial ?_
   exact gT (vc (bo true)) (by rw [show runeOk c = true from by first | rfl | (unfold runeOk; rw [Bool.eq_iff_iff]; simp only [Bool.or_eq_true, Bool.and_eq_true, decide_eq_true_eq, iff_true, Bool.false_eq_true, iff_false] <;> omega)])
  ·
   try simp only [xT, xF, xA, xB] at hc2
   refine gQ ?_
   refine gS [] [] 35 [(0, vc (i3 c)), (22, vc (bo (decide (c = 45))))] [] trivial ?_
   refine gC (c = 45) (fun hc3 => ?_) fun hc3 => ?_
   ·
    refine AMx.skip ?_
    refine gC (c = 45) (fun hc4 => ?_) fun hc4 => ?_
    ·
     refine gS [] [] 35 [(2, vc (bo true))] [] trivial ?_
     exact gT (vc (bo true)) (by rw [show runeOk c = true from by first | rfl | (unfold runeOk; rw [Bool.eq_iff_iff]; simp only [Bool.or_eq_true, Bool.and_eq_true, decide_eq_true_eq, iff_true, Bool.false_eq_true, iff_false] <;> omega)])
    ·
     refine AMx.skip ?_
     refine AMx.blk ?_
     refine gS [] [((decide (192 ≤ c)) = true) → allP [], ((decide (192 ≤ c)) = true) → allP [(decide (192 ≤ c)) = true], (decide (192 ≤ c)) = true → allP [(decide (192 ≤ c)) = true]] 35 [(2, vc (bo ((decide (192 ≤ c)) && (decide (c ≤ 55295)))))] [] ⟨(fun _ => trivial), (fun hp => hp), (fun hp2 => (by first | exact hp2 | exact ⟨hp, hp2⟩))⟩ ?_
     exact gT (vc (bo ((decide (192 ≤ c)) && (decide (c ≤ 55295))))) (by rw [show runeOk c = ((decide (192 ≤ c)) && (decide (c ≤ 55295))) from by first | rfl | (unfold runeOk; rw [Bool.eq_iff_iff]; simp only [Bool.or_eq_true, Bool.and_eq_true, decide_eq_true_eq, iff_true, Bool.false_eq_true, iff_false] <;> omega)])
   ·
    refine gS [] [] 35 [(0, vc (i3 c)), (22, vc (bo (decide (c = 46))))] [] trivial ?_
    refine gC (c = 46) (fun hc5 => ?_) fun hc5 => ?_
    ·
     refine AMx.skip ?_
     refine gC (c = 46) (fun hc6 => ?_) fun hc6 => ?_
     ·
      refine gS [] [] 35 [(2, vc (bo true))] [] trivial ?_
      exact gT (vc (bo true)) (by rw [show runeOk c = true from by first | rfl | (unfold runeOk; rw [Bool.eq_iff_iff]; simp only [Bool.or_eq_true, Bool.and_eq_true, decide_eq_true_eq, iff_true, Bool.false_eq_true, iff_false] <;> omega)])
     ·
      refine AMx.skip ?_
      refine AMx.blk ?_
      refine gS [] [((decide (192 ≤ c)) = true) → allP [], ((decide (192 ≤ c)) = true) → allP [(decide (192 ≤ c)) = true], (decide (192 ≤ c)) = true → allP [(decide (192 ≤ c)) = true]] 35 [(2, vc (bo ((decide (192 ≤ c)) && (decide (c ≤ 55295)))))] [] ⟨(fun _ => trivial), (fun hp => hp), (fun hp2 => (by first | exact hp2 | exact ⟨hp, hp2⟩))⟩ ?_
      exact gT (vc (bo ((decide (192 ≤ c)) && (decide (c ≤ 55295))))) (by rw [show runeOk c = ((decide (192 ≤ c)) && (decide (c ≤ 55295))) from by first | rfl | (unfold runeOk; rw [Bool.eq_iff_iff]; simp only [Bool.or_eq_true, Bool.and_eq_true, decide_eq_true_eq, iff_true, Bool.false_eq_true, iff_false] <;> omega)])
    ·
     refine gR [] [] 35 [(0, vc (i3 c)), (22, vc (bo (decide (c = 95))))] [] trivial ?_
     refine gC (c = 95) (fun hc7 => ?_) fun hc7 => ?_
     ·
      refine gS [] [] 35 [(2, vc (bo true))] [] trivial ?_
      exact gT (vc (bo true)) (by rw [show runeOk c = true from by first | rfl | (unfold runeOk; rw [Bool.eq_iff_iff]; simp only [Bool.or_eq_true, Bool.and_eq_true, decide_eq_true_eq, iff_true, Bool.false_eq_true, iff_false] <;> omega)])
     ·
      refine AMx.skip ?_
      refine AMx.blk ?_
      refine gS [] [((decide (192 ≤ c)) = true) → allP [], ((decide (192 ≤ c)) = true) → allP [(decide (192 ≤ c)) = true], (decide (192 ≤ c)) = true → allP [(decide (192 ≤ c)) = true]] 35 [(2, vc (bo ((decide (192 ≤ c)) && (decide (c ≤ 55295)))))] [] ⟨(fun _ => trivial), (fun hp => hp), (fun hp2 => (by first | exact hp2 | exact ⟨hp, hp2⟩))⟩ ?_
      exact gT (vc (bo ((decide (192 ≤ c)) && (decide (c ≤ 55295))))) (by rw [show runeOk c = ((decide (192 ≤ c)) && (decide (c ≤ 55295))) from by first | rfl | (unfold runeOk; rw [Bool.eq_iff_iff]; simp only [Bool.or_eq_true, Bool.and_eq_true, decide_eq_true_eq, iff_true, Bool.false_eq_true, iff_false] <;> omega)])
 ·
  try simp only [xT, xF, xA, xB] at hc1
  refine gS [] [((decide (65 ≤ c)) = true) → allP [], ((decide (65 ≤ c)) = true) → allP [(decide (65 ≤ c)) = true], (decide (65 ≤ c)) = true → allP [(decide (65 ≤ c)) = true]] 35 [(0, vc (i3 c)), (3, vc (bo ((decide (65 ≤ c)) && (decide (c ≤ 90)))))] [] ⟨(fun _ => trivial), (fun hp => hp), (fun hp2 => (by first | exact hp2 | exact ⟨hp, hp2⟩))⟩ ?_
  refine gB (((decide (65 ≤ c)) && (decide (c ≤ 90)))) (fun hc8 => ?_) fun hc8 => ?_
  ·
   try simp only [xT, xF, xA, xB] at hc8
   refine AMx.skip ?_
   refine gB (((decide (65 ≤ c)) && (decide (c ≤ 90)))) (fun hc9 => ?_) fun hc9 => ?_
   ·
    try simp only [xT, xF, xA, xB] at hc9
    refine gS [] [] 35 [(2, vc (bo true))] [] trivial ?_
    exact gT (vc (bo true)) (by rw [show runeOk c = true from by first | rfl | (unfold runeOk; rw [Bool.eq_iff_iff]; simp only [Bool.or_eq_true, Bool.and_eq_true, decide_eq_true_eq, iff_true, Bool.false_eq_true, iff_false] <;> omega)])
   ·
    try simp only [xT, xF, xA, xB] at hc9
    refine gQ ?_
    refine gS [] [] 35 [(0, vc (i3 c)), (22, vc (bo (decide (c = 45))))] [] trivial ?_
    refine gC (c = 45) (fun hc10 => ?_) fun hc10 => ?_
    ·
     refine AMx.skip ?_
     refine gC (c = 45) (fun hc11 => ?_) fun hc11 => ?_
     ·
      refine gS [] [] 35 [(2, vc (bo true))] [] trivial ?_
      exact gT (vc (bo true)) (by rw [show runeOk c = true from by first | rfl | (unfold runeOk; rw [Bool.eq_iff_iff]; simp only [Bool.or_eq_true, Bool.and_eq_true, decide_eq_true_eq, iff_true, Bool.false_eq_true, iff_false] <;> omega)])
     ·
      refine AMx.skip ?_
      refine AMx.blk ?_
      refine gS [] [((decide (192 ≤ c)) = true) → allP [], ((decide (192 ≤ c)) = true) → allP [(decide (192 ≤ c)) = true], (decide (192 ≤ c)) = true → allP [(decide (192 ≤ c)) = true]] 35 [(2, vc (bo ((decide (192 ≤ c)) && (decide (c ≤ 55295)))))] [] ⟨(fun _ => trivial), (fun hp => hp), (fun hp2 => (by first | exact hp2 | exact ⟨hp, hp2⟩))⟩ ?_
      exact gT (vc (bo ((decide (192 ≤ c)) && (decide (c ≤ 55295))))) (by rw [show runeOk c = ((decide (192 ≤ c)) && (decide (c ≤ 55295))) from by first | rfl | (unfold runeOk; rw [Bool.eq_iff_iff]; simp only [Bool.or_eq_true, Bool.and_eq_true, decide_eq_true_eq, iff_true, Bool.false_eq_true, iff_false] <;> omega)])
    ·
     refine gS [] [] 35 [(0, vc (i3 c)), (22, vc (bo (decide (c = 46))))] [] trivial ?_
     refine gC (c = 46) (fun hc12 => ?_) fun hc12 => ?_
     ·
      refine AMx.skip ?_
      refine gC (c = 46) (fun hc13 => ?_) fun hc13 => ?_
      ·
       refine gS [] [] 35 [(2, vc (bo true))] [] trivial ?_
       exact gT (vc (bo true)) (by rw [show runeOk c = true from by first | rfl | (unfold runeOk; rw [Bool.eq_iff_iff]; simp only [Bool.or_eq_true, Bool.and_eq_true, decide_eq_true_eq, iff_true, Bool.false_eq_true, iff_false] <;> omega)])
      ·
       refine AMx.skip ?_
       refine AMx.blk ?_
       refine gS [] [((decide (192 ≤ c)) = true) → allP [], ((decide (192 ≤ c)) = true) → allP [(decide (192 ≤ c)) = true], (decide (192 ≤ c)) = true → allP [(decide (192 ≤ c)) = true]] 35 [(2, vc (bo ((decide (192 ≤ c)) && (decide (c ≤ 55295)))))] [] ⟨(fun _ => trivial), (fun hp => hp), (fun hp2 => (by first | exact hp2 | exact ⟨hp, hp2⟩))⟩ ?_
       exact gT (vc (bo ((decide (192 ≤ c)) && (decide (c ≤ 55295))))) (by rw [show runeOk c = ((decide (192 ≤ c)) && (decide (c ≤ 55295))) from by first | rfl | (unfold runeOk; rw [Bool.eq_iff_iff]; simp only [Bool.or_eq_true, Bool.and_eq_true, decide_eq_true_eq, iff_true, Bool.false_eq_true, iff_false] <;> omega)])
     ·
      refine gR [] [] 35 [(0, vc (i3 c)), (22, vc (bo (decide (c = 95))))] [] trivial ?_
      refine gC (c = 95) (fun hc14 => ?_) fun hc14 => ?_
      ·
       refine gS [] [] 35 [(2, vc (bo true))] [] trivial ?_
       exact gT (vc (bo true)) (by rw [show runeOk c = true from by first | rfl | (unfold runeOk; rw [Bool.eq_iff_iff]; simp only [Bool.or_eq_true, Bool.and_eq_true, decide_eq_true_eq, iff_true, Bool.false_eq_true, iff_false] <;> omega)])
      ·
       refine AMx.skip ?_
       refine AMx.blk ?_
       refine gS [] [((decide (192 ≤ c)) = true) → allP [], ((decide (192 ≤ c)) = true) → allP [(decide (192 ≤ c)) = true], (decide (192 ≤ c)) = true → allP [(decide (192 ≤ c)) = true]] 35 [(2, vc (bo ((decide (192 ≤ c)) && (decide (c ≤ 55295)))))] [] ⟨(fun _ => trivial), (fun hp => hp), (fun hp2 => (by first | exact hp2 | exact ⟨hp, hp2⟩))⟩ ?_
       exact gT (vc (bo ((decide (192 ≤ c)) && (decide (c ≤ 55295))))) (by rw [show runeOk c = ((decide (192 ≤ c)) && (decide (c ≤ 55295))) from by first | rfl | (unfold runeOk; rw [Bool.eq_iff_iff]; simp only [Bool.or_eq_true, Bool.and_eq_true, decide_eq_true_eq, iff_true, Bool.false_eq_true, iff_false] <;> omega)])
  ·
   try simp only [xT, xF, xA, xB] at hc8
   refine gR [] [((decide (48 ≤ c)) = true) → allP [], ((decide (48 ≤ c)) = true) → allP [(decide (48 ≤ c)) = true], (decide (48 ≤ c)) = true → allP [(decide (48 ≤ c)) = true]] 35 [(0, vc (i3 c)), (3, vc (bo ((decide (48 ≤ c)) && (decide (c ≤ 57)))))] [] ⟨(fun _ => trivial), (fun hp => hp), (fun hp2 => (by first | exact hp2 | exact ⟨hp, hp2⟩))⟩ ?_
   refine gB (((decide (48 ≤ c)) && (decide (c ≤ 57)))) (fun hc15 => ?_) fun hc15 => ?_
   ·
    try simp only [xT, xF, xA, xB] at hc15
    refine gS [] [] 35 [(2, vc (bo true))] [] trivial ?_
    exact gT (vc (bo true)) (by rw [show runeOk c = true from by first | rfl | (unfold runeOk; rw [Bool.eq_iff_iff]; simp only [Bool.or_eq_true, Bool.and_eq_true, decide_eq_true_eq, iff_true, Bool.false_eq_true, iff_false] <;> omega)])
   ·
    try simp only [xT, xF, xA, xB] at hc15
    refine gQ ?_
    refine gS [] [] 35 [(0, vc (i3 c)), (22, vc (bo (decide (c = 45))))] [] trivial ?_
    refine gC (c = 45) (fun hc16 => ?_) fun hc16 => ?_
    ·
     refine AMx.skip ?_
     refine gC (c = 45) (fun hc17 => ?_) fun hc17 => ?_
     ·
      refine gS [] [] 35 [(2, vc (bo true))] [] trivial ?_
      exact gT (vc (bo true)) (by rw [show runeOk c = true from by first | rfl | (unfold runeOk; rw [Bool.eq_iff_iff]; simp only [Bool.or_eq_true, Bool.and_eq_true, decide_eq_true_eq, iff_true, Bool.false_eq_true, iff_false] <;> omega)])
     ·
      refine AMx.skip ?_
      refine AMx.blk ?_
      refine gS [] [((decide (192 ≤ c)) = true) → allP [], ((decide (192 ≤ c)) = true) → allP [(decide (192 ≤ c)) = true], (decide (192 ≤ c)) = true → allP [(decide (192 ≤ c)) = true]] 35 [(2, vc (bo ((decide (192 ≤ c)) && (decide (c ≤ 55295)))))] [] ⟨(fun _ => trivial), (fun hp => hp), (fun hp2 => (by first | exact hp2 | exact ⟨hp, hp2⟩))⟩ ?_
      exact gT (vc (bo ((decide (192 ≤ c)) && (decide (c ≤ 55295))))) (by rw [show runeOk c = ((decide (192 ≤ c)) && (decide (c ≤ 55295))) from by first | rfl | (unfold runeOk; rw [Bool.eq_iff_iff]; simp only [Bool.or_eq_true, Bool.and_eq_true, decide_eq_true_eq, iff_true, Bool.false_eq_true, iff_false] <;> omega)])
    ·
     refine gS [] [] 35 [(0, vc (i3 c)), (22, vc (bo (decide (c = 46))))] [] trivial ?_
     refine gC (c = 46) (fun hc18 => ?_) fun hc18 => ?_
     ·
      refine AMx.skip ?_
      refine gC (c = 46) (fun hc19 => ?_) fun hc19 => ?_
      ·
       refine gS [] [] 35 [(2, vc (bo true))] [] trivial ?_
       exact gT (vc (bo true)) (by rw [show runeOk c = true from by first | rfl | (unfold runeOk; rw [Bool.eq_iff_iff]; simp only [Bool.or_eq_true, Bool.and_eq_true, decide_eq_true_eq, iff_true, Bool.false_eq_true, iff_false] <;> omega)])
      ·
       refine AMx.skip ?_
       refine AMx.blk ?_
       refine gS [] [((decide (192 ≤ c)) = true) → allP [], ((decide (192 ≤ c)) = true) → allP [(decide (192 ≤ c)) = true], (decide (192 ≤ c)) = true → allP [(decide (192 ≤ c)) = true]] 35 [(2, vc (bo ((decide (192 ≤ c)) && (decide (c ≤ 55295)))))] [] ⟨(fun _ => trivial), (fun hp => hp), (fun hp2 => (by first | exact hp2 | exact ⟨hp, hp2⟩))⟩ ?_
       exact gT (vc (bo ((decide (192 ≤ c)) && (decide (c ≤ 55295))))) (by rw [show runeOk c = ((decide (192 ≤ c)) && (decide (c ≤ 55295))) from by first | rfl | (unfold runeOk; rw [Bool.eq_iff_iff]; simp only [Bool.or_eq_true, Bool.and_eq_true, decide_eq_true_eq, iff_true, Bool.false_eq_true, iff_false] <;> omega)])
     ·
      refine gR [] [] 35 [(0, vc (i3 c)), (22, vc (bo (decide (c = 95))))] [] trivial ?_
      refine gC (c = 95) (fun hc20 => ?_) fun hc20 => ?_
      ·
       refine gS [] [] 35 [(2, vc (bo true))] [] trivial ?_
       exact gT (vc (bo true)) (by rw [show runeOk c = true from by first | rfl | (unfold runeOk; rw [Bool.eq_iff_iff]; simp only [Bool.or_eq_true, Bool.and_eq_true, decide_eq_true_eq, iff_true, Bool.false_eq_true, iff_false] <;> omega)])
      ·
       refine AMx.skip ?_
       refine AMx.blk ?_
       refine gS [] [((decide (192 ≤ c)) = true) → allP [], ((decide (192 ≤ c)) = true) → allP [(decide (192 ≤ c)) = true], (decide (192 ≤ c)) = true → allP [(decide (192 ≤ c)) = true]] 35 [(2, vc (bo ((decide (192 ≤ c)) && (decide (c ≤ 55295)))))] [] ⟨(fun _ => trivial), (fun hp => hp), (fun hp2 => (by first | exact hp2 | exact ⟨hp, hp2⟩))⟩ ?_
       exact gT (vc (bo ((decide (192 ≤ c)) && (decide (c ≤ 55295))))) (by rw [show runeOk c = ((decide (192 ≤ c)) && (decide (c ≤ 55295))) from by first | rfl | (unfold runeOk; rw [Bool.eq_iff_iff]; simp only [Bool.or_eq_true, Bool.and_eq_true, decide_eq_true_eq, iff_true, Bool.false_eq_true, iff_false] <;> omega)])
theorem f134_body : Tryz.f134.body = some (.seq (.region 0 (rg Tryz.f134 0) false) (.seq (.region 1 (rg Tryz.f134 1) false) (.ret))) := by kernel_rfl
set_option maxRecDepth 100000 in
set_option maxHeartbeats 8000000 in
theorem RRune_c (c : Int) : Pure Tryz.prog 134 [tc (i6 c)] (vc (bo (runeOk c))) := by
 refine Pure.of_body Tryz.func134 f134_body (by kernel_rfl) Tryz.ntmps134 (by kernel_rfl) (by kernel_rfl) ?_
 refine gS [] [] 45 [(0, vc (i6 c))] [] trivial ?_
 refine gS [] [((decide (97 ≤ c)) = true) → allP [], ((decide (97 ≤ c)) = true) → allP [(decide (97 ≤ c)) = true], (decide (97 ≤ c)) = true → allP [(decide (97 ≤ c)) = true], (((decide (97 ≤ c)) && (decide (c ≤ 122))) = false) → allP [], (((decide (97 ≤ c)) && (decide (c ≤ 122))) = false) → allP [((decide (97 ≤ c)) && (decide (c ≤ 122))) = false], (((decide (97 ≤ c)) && (decide (c ≤ 122))) = false) → allP [((decide (97 ≤ c)) && (decide (c ≤ 122))) = false], ((((decide (97 ≤ c)) && (decide (c ≤ 122))) = false) ∧ (decide (65 ≤ c)) = true) → allP [], ((((decide (97 ≤ c)) && (decide (c ≤ 122))) = false) ∧ (decide (65 ≤ c)) = true) → allP [(((decide (97 ≤ c)) && (decide (c ≤ 122))) = false) ∧ (decide (65 ≤ c)) = true], (((decide (97 ≤ c)) && (decide (c ≤ 122))) = false) → allP [((decide (97 ≤ c)) && (decide (c ≤ 122))) = false, (decide (65 ≤ c)) = true → allP [(((decide (97 ≤ c)) && (decide (c ≤ 122))) = false) ∧ (decide (65 ≤ c)) = true]], ((decide (97 ≤ c)) && (decide (c ≤ 122))) = false → allP [((decide (97 ≤ c)) && (decide (c ≤ 122))) = false], ((((decide (97 ≤ c)) && (decide (c ≤ 122))) || ((decide (65 ≤ c)) && (decide (c ≤ 90)))) = false) → allP [], ((((decide (97 ≤ c)) && (decide (c ≤ 122))) || ((decide (65 ≤ c)) && (decide (c ≤ 90)))) = false) → allP [(((decide (97 ≤ c)) && (decide (c ≤ 122))) || ((decide (65 ≤ c)) && (decide (c ≤ 90)))) = false], ((((decide (97 ≤ c)) && (decide (c ≤ 122))) || ((decide (65 ≤ c)) && (decide (c ≤ 90)))) = false) → allP [(((decide (97 ≤ c)) && (decide (c ≤ 122))) || ((decide (65 ≤ c)) && (decide (c ≤ 90)))) = false], (((((decide (97 ≤ c)) && (decide (c ≤ 122))) || ((decide (65 ≤ c)) && (decide (c ≤ 90)))) = false) ∧ (decide (48 ≤ c)) = true) → allP [], (((((decide (97 ≤ c)) && (decide (c ≤ 122))) || ((decide (65 ≤ c)) && (decide (c ≤ 90)))) = false) ∧ (decide (48 ≤ c)) = true) → allP [((((decide (97 ≤ c)) && (decide (c ≤ 122))) || ((decide (65 ≤ c)) && (decide (c ≤ 90)))) = false) ∧ (decide (48 ≤ c)) = true], ((((decide (97 ≤ c)) && (decide (c ≤ 122))) || ((decide (65 ≤ c)) && (decide (c ≤ 90)))) = false) → allP [(((decide (97 ≤ c)) && (decide (c ≤ 122))) || ((decide (65 ≤ c)) && (decide (c ≤ 90)))) = false, (decide (48 ≤ c)) = true → allP [((((decide (97 ≤ c)) && (decide (c ≤ 122))) || ((decide (65 ≤ c)) && (decide (c ≤ 90)))) = false) ∧ (decide (48 ≤ c)) = true]], (((decide (97 ≤ c)) && (decide (c ≤ 122))) || ((decide (65 ≤ c)) && (decide (c ≤ 90)))) = false → allP [(((decide (97 ≤ c)) && (decide (c ≤ 122))) || ((decide (65 ≤ c)) && (decide (c ≤ 90)))) = false], (((((decide (97 ≤ c)) && (decide (c ≤ 122))) || ((decide (65 ≤ c)) && (decide (c ≤ 90)))) || ((decide (48 ≤ c)) && (decide (c ≤ 57)))) = false) → allP [], (((((decide (97 ≤ c)) && (decide (c ≤ 122))) || ((decide (65 ≤ c)) && (decide (c ≤ 90)))) || ((decide (48 ≤ c)) && (decide (c ≤ 57)))) = false) → allP [((((decide (97 ≤ c)) && (decide (c ≤ 122))) || ((decide (65 ≤ c)) && (decide (c ≤ 90)))) || ((decide (48 ≤ c)) && (decide (c ≤ 57)))) = false], ((((decide (97 ≤ c)) && (decide (c ≤ 122))) || ((decide (65 ≤ c)) && (decide (c ≤ 90)))) || ((decide (48 ≤ c)) && (decide (c ≤ 57)))) = false → allP [((((decide (97 ≤ c)) && (decide (c ≤ 122))) || ((decide (65 ≤ c)) && (decide (c ≤ 90)))) || ((decide (48 ≤ c)) && (decide (c ≤ 57)))) = false], ((((((decide (97 ≤ c)) && (decide (c ≤ 122))) || ((decide (65 ≤ c)) && (decide (c ≤ 90)))) || ((decide (48 ≤ c)) && (decide (c ≤ 57)))) || (decide (c = 45))) = false) → allP [], ((((((decide (97 ≤ c)) && (decide (c ≤ 122))) || ((decide (65 ≤ c)) && (decide (c ≤ 90)))) || ((decide (48 ≤ c)) && (decide (c ≤ 57)))) || (decide (c = 45))) = false) → allP [(((((decide (97 ≤ c)) && (decide (c ≤ 122))) || ((decide (65 ≤ c)) && (decide (c ≤ 90)))) || ((decide (48 ≤ c)) && (decide (c ≤ 57)))) || (decide (c = 45))) = false], (((((decide (97 ≤ c)) && (decide (c ≤ 122))) || ((decide (65 ≤ c)) && (decide (c ≤ 90)))) || ((decide (48 ≤ c)) && (decide (c ≤ 57)))) || (decide (c = 45))) = false → allP [(((((decide (97 ≤ c)) && (decide (c ≤ 122))) || ((decide (65 ≤ c)) && (decide (c ≤ 90)))) || ((decide (48 ≤ c)) && (decide (c ≤ 57)))) || (decide (c = 45))) = false], (((((((decide (97 ≤ c)) && (decide (c ≤ 122))) || ((decide (65 ≤ c)) && (decide (c ≤ 90)))) || ((decide (48 ≤ c)) && (decide (c ≤ 57)))) || (decide (c = 45))) || (decide (c = 46))) = false) → allP [], (((((((decide (97 ≤ c)) && (decide (c ≤ 122))) || ((decide (65 ≤ c)) && (decide (c ≤ 90)))) || ((decide (48 ≤ c)) && (decide (c ≤ 57)))) || (decide (c = 45))) || (decide (c = 46))) = false) → allP [((((((decide (97 ≤ c)) && (decide (c ≤ 122))) || ((decide (65 ≤ c)) && (decide (c ≤ 90)))) || ((decide (48 ≤ c)) && (decide (c ≤ 57)))) || (decide (c = 45))) || (decide (c = 46))) = false], ((((((decide (97 ≤ c)) && (decide (c ≤ 122))) || ((decide (65 ≤ c)) && (decide (c ≤ 90)))) || ((decide (48 ≤ c)) && (decide (c ≤ 57)))) || (decide (c = 45))) || (decide (c = 46))) = false → allP [((((((decide (97 ≤ c)) && (decide (c ≤ 122))) || ((decide (65 ≤ c)) && (decide (c ≤ 90)))) || ((decide (48 ≤ c)) && (decide (c ≤ 57)))) || (decide (c = 45))) || (decide (c = 46))) = false], ((((((((decide (97 ≤ c)) && (decide (c ≤ 122))) || ((decide (65 ≤ c)) && (decide (c ≤ 90)))) || ((decide (48 ≤ c)) && (decide (c ≤ 57)))) || (decide (c = 45))) || (decide (c = 46))) || (decide (c = 95))) = false) → allP [], ((((((((decide (97 ≤ c)) && (decide (c ≤ 122))) || ((decide (65 ≤ c)) && (decide (c ≤ 90)))) || ((decide (48 ≤ c)) && (decide (c ≤ 57)))) || (decide (c = 45))) || (decide (c = 46))) || (decide (c = 95))) = false) → allP [(((((((decide (97 ≤ c)) && (decide (c ≤ 122))) || ((decide (65 ≤ c)) && (decide (c ≤ 90)))) || ((decide (48 ≤ c)) && (decide (c ≤ 57)))) || (decide (c = 45))) || (decide (c = 46))) || (decide (c = 95))) = false], ((((((((decide (97 ≤ c)) && (decide (c ≤ 122))) || ((decide (65 ≤ c)) && (decide (c ≤ 90)))) || ((decide (48 ≤ c)) && (decide (c ≤ 57)))) || (decide (c = 45))) || (decide (c = 46))) || (decide (c = 95))) = false) → allP [(((((((decide (97 ≤ c)) && (decide (c ≤ 122))) || ((decide (65 ≤ c)) && (decide (c ≤ 90)))) || ((decide (48 ≤ c)) && (decide (c ≤ 57)))) || (decide (c = 45))) || (decide (c = 46))) || (decide (c = 95))) = false], (((((((((decide (97 ≤ c)) && (decide (c ≤ 122))) || ((decide (65 ≤ c)) && (decide (c ≤ 90)))) || ((decide (48 ≤ c)) && (decide (c ≤ 57)))) || (decide (c = 45))) || (decide (c = 46))) || (decide (c = 95))) = false) ∧ (decide (192 ≤ c)) = true) → allP [], (((((((((decide (97 ≤ c)) && (decide (c ≤ 122))) || ((decide (65 ≤ c)) && (decide (c ≤ 90)))) || ((decide (48 ≤ c)) && (decide (c ≤ 57)))) || (decide (c = 45))) || (decide (c = 46))) || (decide (c = 95))) = false) ∧ (decide (192 ≤ c)) = true) → allP [((((((((decide (97 ≤ c)) && (decide (c ≤ 122))) || ((decide (65 ≤ c)) && (decide (c ≤ 90)))) || ((decide (48 ≤ c)) && (decide (c ≤ 57)))) || (decide (c = 45))) || (decide (c = 46))) || (decide (c = 95))) = false) ∧ (decide (192 ≤ c)) = true], ((((((((decide (97 ≤ c)) && (decide (c ≤ 122))) || ((decide (65 ≤ c)) && (decide (c ≤ 90)))) || ((decide (48 ≤ c)) && (decide (c ≤ 57)))) || (decide (c = 45))) || (decide (c = 46))) || (decide (c = 95))) = false) → allP [(((((((decide (97 ≤ c)) && (decide (c ≤ 122))) || ((decide (65 ≤ c)) && (decide (c ≤ 90)))) || ((decide (48 ≤ c)) && (decide (c ≤ 57)))) || (decide (c = 45))) || (decide (c = 46))) || (decide (c = 95))) = false, (decide (192 ≤ c)) = true → allP [((((((((decide (97 ≤ c)) && (decide (c ≤ 122))) || ((decide (65 ≤ c)) && (decide (c ≤ 90)))) || ((decide (48 ≤ c)) && (decide (c ≤ 57)))) || (decide (c = 45))) || (decide (c = 46))) || (decide (c = 95))) = false) ∧ (decide (192 ≤ c)) = true]], (((((((decide (97 ≤ c)) && (decide (c ≤ 122))) || ((decide (65 ≤ c)) && (decide (c ≤ 90)))) || ((decide (48 ≤ c)) && (decide (c ≤ 57)))) || (decide (c = 45))) || (decide (c = 46))) || (decide (c = 95))) = false → allP [(((((((decide (97 ≤ c)) && (decide (c ≤ 122))) || ((decide (65 ≤ c)) && (decide (c ≤ 90)))) || ((decide (48 ≤ c)) && (decide (c ≤ 57)))) || (decide (c = 45))) || (decide (c = 46))) || (decide (c = 95))) = false]] 45 [(2, vc (bo ((((((((decide (97 ≤ c)) && (decide (c ≤ 122))) || ((decide (65 ≤ c)) && (decide (c ≤ 90)))) || ((decide (48 ≤ c)) && (decide (c ≤ 57)))) || (decide (c = 45))) || (decide (c = 46))) || (decide (c = 95))) || ((decide (192 ≤ c)) && (decide (c ≤ 55295))))))] [] ⟨(fun _ => trivial), (fun hp => hp), (fun hp2 => (by first | exact hp2 | exact ⟨hp, hp2⟩)), (fun _ => trivial), (fun hp => hp), (fun hp => hp), (fun _ => trivial), (fun hp => hp), (fun hp => by have hq := hp; (try simp only [decide_eq_true_eq, decide_eq_false_iff_not, Bool.and_eq_true, Bool.or_eq_true, Bool.and_eq_false_iff, Bool.or_eq_false_iff, Bool.not_eq_true', Bool.not_eq_false', Bool.not_eq_true, Bool.not_eq_false] at hq); exact ⟨hp, (fun hp2 => (by first | exact hp2 | exact ⟨hp, hp2⟩))⟩), (fun hp2 => (by first | exact hp2 | exact ⟨hp, hp2⟩)), (fun _ => trivial), (fun hp => hp), (fun hp => hp), (fun _ => trivial), (fun hp => hp), (fun hp => by have hq := hp; (try simp only [decide_eq_true_eq, decide_eq_false_iff_not, Bool.and_eq_true, Bool.or_eq_true, Bool.and_eq_false_iff, Bool.or_eq_false_iff, Bool.not_eq_true', Bool.not_eq_false', Bool.not_eq_true, Bool.not_eq_false] at hq); exact ⟨hp, (fun hp2 => (by first | exact hp2 | exact ⟨hp, hp2⟩))⟩), (fun hp2 => (by first | exact hp2 | exact ⟨hp, hp2⟩)), (fun _ => trivial), (fun hp => hp), (fun hp2 => (by first | exact hp2 | exact ⟨hp, hp2⟩)), (fun _ => trivial), (fun hp => hp), (fun hp2 => (by first | exact hp2 | exact ⟨hp, hp2⟩)), (fun _ => trivial), (fun hp => hp), (fun hp2 => (by first | exact hp2 | exact ⟨hp, hp2⟩)), (fun _ => trivial), (fun hp => hp), (fun hp => hp), (fun _ => trivial), (fun hp => hp), (fun hp => by have hq := hp; (try simp only [decide_eq_true_eq, decide_eq_false_iff_not, Bool.and_eq_true, Bool.or_eq_true, Bool.and_eq_false_iff, Bool.or_eq_false_iff, Bool.not_eq_true', Bool.not_eq_false', Bool.not_eq_true, Bool.not_eq_false] at hq); exact ⟨hp, (fun hp2 => (by first | exact hp2 | exact ⟨hp, hp2⟩))⟩), (fun hp2 => (by first | exact hp2 | exact ⟨hp, hp2⟩))⟩ ?_
 exact gT (vc (bo ((((((((decide (97 ≤ c)) && (decide (c ≤ 122))) || ((decide (65 ≤ c)) && (decide (c ≤ 90)))) || ((decide (48 ≤ c)) && (decide (c ≤ 57)))) || (decide (c = 45))) || (decide (c = 46))) || (decide (c = 95))) || ((decide (192 ≤ c)) && (decide (c ≤ 55295)))))) (by rw [show runeOk c = ((((((((decide (97 ≤ c)) && (decide (c ≤ 122))) || ((decide (65 ≤ c)) && (decide (c ≤ 90)))) || ((decide (48 ≤ c)) && (decide (c ≤ 57)))) || (decide (c = 45))) || (decide (c = 46))) || (decide (c = 95))) || ((decide (192 ≤ c)) && (decide (c ≤ 55295)))) from by first | rfl | (unfold runeOk; rw [Bool.eq_iff_iff]; simp only [Bool.or_eq_true, Bool.and_eq_true, decide_eq_true_eq, iff_true, Bool.false_eq_true, iff_false] <;> omega)])
theorem f152_body : Tryz.f152.body = some (.seq (.region 0 (rg Tryz.f152 0) false) (.seq (.region 1 (rg Tryz.f152 1) false) (.ret))) := by kernel_rfl
set_option maxRecDepth 100000 in
set_option maxHeartbeats 8000000 in
theorem tail_c (s : Bytes) (i : Int) (hi : 0 ≤ i) : Pure Tryz.prog 152 [tc (st s), tc (i6 i)] (vc (bo (tailS s i))) := by
 refine Pure.of_body Tryz.func152 f152_body (by kernel_rfl) Tryz.ntmps152 (by kernel_rfl) (by kernel_rfl) ?_
 refine gS [] [] 21 [(0, vc (st s)), (1, vc (i6 i))] [] trivial ?_
 refine gS [] [((decide (i < (List.length s : Int))) = true) → allP [], ((decide (i < (List.length s : Int))) = true) → allP [], ((decide (i < (List.length s : Int))) = true) → allP [(decide (i < (List.length s : Int))) = true, (decide (i < (List.length s : Int))) = true, (0 : Int) ≤ i, i < List.length s], ((decide (i < (List.length s : Int))) = true) → allP [(decide (i < (List.length s : Int))) = true], (decide (i < (List.length s : Int))) = true → allP [(decide (i < (List.length s : Int))) = true], (((decide (i < (List.length s : Int))) && (decide (128 ≤ ((List.getD s (i).toNat 0).toNat : Int)))) = true) → allP [], (((decide (i < (List.length s : Int))) && (decide (128 ≤ ((List.getD s (i).toNat 0).toNat : Int)))) = true) → allP [], (((decide (i < (List.length s : Int))) && (decide (128 ≤ ((List.getD s (i).toNat 0).toNat : Int)))) = true) → allP [((decide (i < (List.length s : Int))) && (decide (128 ≤ ((List.getD s (i).toNat 0).toNat : Int)))) = true, ((decide (i < (List.length s : Int))) && (decide (128 ≤ ((List.getD s (i).toNat 0).toNat : Int)))) = true, (0 : Int) ≤ i, i < List.length s], (((decide (i < (List.length s : Int))) && (decide (128 ≤ ((List.getD s (i).toNat 0).toNat : Int)))) = true) → allP [((decide (i < (List.length s : Int))) && (decide (128 ≤ ((List.getD s (i).toNat 0).toNat : Int)))) = true], ((decide (i < (List.length s : Int))) && (decide (128 ≤ ((List.getD s (i).toNat 0).toNat : Int)))) = true → allP [((decide (i < (List.length s : Int))) && (decide (128 ≤ ((List.getD s (i).toNat 0).toNat : Int)))) = true]] 21 [(4, vc (bo (((decide (i < (List.length s : Int))) && (decide (128 ≤ ((List.getD s (i).toNat 0).toNat : Int)))) && (decide (((List.getD s (i).toNat 0).toNat : Int) < 192)))))] [] ⟨(fun _ => trivial), (fun _ => trivial), (fun hp => by have hq := hp; (try simp only [decide_eq_true_eq, decide_eq_false_iff_not, Bool.and_eq_true, Bool.or_eq_true, Bool.and_eq_false_iff, Bool.or_eq_false_iff, Bool.not_eq_true', Bool.not_eq_false', Bool.not_eq_true, Bool.not_eq_false] at hq); exact ⟨hp, hp, (show (0 : Int) ≤ i from (by omega)), (show i < List.length s from (by omega))⟩), (fun hp => hp), (fun hp2 => (by first | exact hp2 | exact ⟨hp, hp2⟩)), (fun _ => trivial), (fun _ => trivial), (fun hp => by have hq := hp; (try simp only [decide_eq_true_eq, decide_eq_false_iff_not, Bool.and_eq_true, Bool.or_eq_true, Bool.and_eq_false_iff, Bool.or_eq_false_iff, Bool.not_eq_true', Bool.not_eq_false', Bool.not_eq_true, Bool.not_eq_false] at hq); exact ⟨hp, hp, (show (0 : Int) ≤ i from (by omega)), (show i < List.length s from (by omega))⟩), (fun hp => hp), (fun hp2 => (by first | exact hp2 | exact ⟨hp, hp2⟩))⟩ ?_
 exact gT (vc (bo (((decide (i < (List.length s : Int))) && (decide (128 ≤ ((List.getD s (i).toNat 0).toNat : Int)))) && (decide (((List.getD s (i).toNat 0).toNat : Int) < 192))))) (by rw [show tailS s i = (((decide (i < (List.length s : Int))) && (decide (128 ≤ ((List.getD s (i).toNat 0).toNat : Int)))) && (decide (((List.getD s (i).toNat 0).toNat : Int) < 192))) from by unfold tailS; first | rfl | (rw [Bool.eq_iff_iff]; simp only [Bool.or_eq_true, Bool.and_eq_true, decide_eq_true_eq]; omega)])
theorem f153_body : Tryz.f153.body = some (.seq (.region 0 (rg Tryz.f153 0) false) (.seq (.region 1 (rg Tryz.f153 1) false) (.ret))) := by kernel_rfl
set_option maxRecDepth 100000 in
set_option maxHeartbeats 8000000 in
theorem low_c (s : Bytes) (i : Int) (hi : 0 ≤ i ∧ i < (List.length s : Int)) : Pure Tryz.prog 153 [tc (st s), tc (i6 i)] (vc (i6 (((List.getD s i.toNat 0).toNat : Int) - 128))) := by
 refine Pure.of_body Tryz.func153 f153_body (by kernel_rfl) Tryz.ntmps153 (by kernel_rfl) (by kernel_rfl) ?_
 refine gS [] [] 10 [(0, vc (st s)), (1, vc (i6 i))] [] trivial ?_
 refine gS [] [(0 : Int) ≤ i, i < List.length s, InR .i64 (((List.getD s (i).toNat 0).toNat : Int) - 128)] 10 [(4, vc (i6 (((List.getD s (i).toNat 0).toNat : Int) - 128)))] [] ⟨(show (0 : Int) ≤ i from (by first | omega | (have := byte_lt s i.toNat; omega))), (show i < List.length s from (by first | omega | (have := byte_lt s i.toNat; omega))), (show InR .i64 (((List.getD s (i).toNat 0).toNat : Int) - 128) from (inR64 (by first | omega | (have := byte_lt s i.toNat; omega)) (by first | omega | (have := byte_lt s i.toNat; omega))))⟩ ?_
 exact gT (vc (i6 (((List.getD s (i).toNat 0).toNat : Int) - 128))) rfl
theorem f133_body : Tryz.f133.body = some (.seq (.region 0 (rg Tryz.f133 0) false) (.seq (.region 1 (rg Tryz.f133 1) false) (.seq (.seq (.region 2 (rg Tryz.f133 2) false) (.cond (.tmp 15) (.seq (.region 3 (rg Tryz.f133 3) false) (.ret)) (.skip))) (.seq (.seq (.region 4 (rg Tryz.f133 4) false) (.cond (.tmp 28) (.seq (.region 5 (rg Tryz.f133 5) false) (.seq (.region 6 (rg Tryz.f133 6) false) (.cond (.tmp 38) (.seq (.region 7 (rg Tryz.f133 7) false) (.ret)) (.skip)))) (.skip))) (.seq (.seq (.region 8 (rg Tryz.f133 8) false) (.cond (.tmp 57) (.seq (.region 9 (rg Tryz.f133 9) false) (.seq (.region 10 (rg Tryz.f133 10) false) (.cond (.tmp 81) (.seq (.region 11 (rg Tryz.f133 11) false) (.ret)) (.skip)))) (.skip))) (.seq (.seq (.region 12 (rg Tryz.f133 12) false) (.cond (.tmp 106) (.seq (.region 13 (rg Tryz.f133 13) false) (.seq (.region 14 (rg Tryz.f133 14) false) (.cond (.tmp 132) (.seq (.region 15 (rg Tryz.f133 15) false) (.ret)) (.skip)))) (.skip))) (.seq (.region 16 (rg Tryz.f133 16) false) (.ret)))))))) := by kernel_rfl
set_option maxRecDepth 100000 in
set_option maxHeartbeats 8000000 in
theorem Next_c (s : Bytes) (i : Nat) (hi : i < s.length) (hl : s.length ≤ 100000) : Pure Tryz.prog 133 [tc (st s), tc (i6 (i : Int))] (AV.tup [tc (i6 ((nextS s i).1)), tc (i6 ((nextS s i).2))]) := by
 refine Pure.of_body Tryz.func133 f133_body (by kernel_rfl) Tryz.ntmps133 (by kernel_rfl) (by kernel_rfl) ?_
 have e1 : ((i : Int) + 1).toNat = i + 1 := by omega
 have e2 : ((i : Int) + 2).toNat = i + 2 := by omega
 have e3 : ((i : Int) + 3).toNat = i + 3 := by omega
 have b0 := byte_lt s i
 have b1 := byte_lt s (i + 1)
 have b2 := byte_lt s (i + 2)
 have b3 := byte_lt s (i + 3)
 refine gS [] [] 134 [(0, vc (st s)), (1, vc (i6 (i : Int)))] [] trivial ?_
 refine gS [] [(0 : Int) ≤ (i : Int), (i : Int) < List.length s] 134 [(0, vc (st s)), (1, vc (i6 (i : Int))), (6, vc (i6 ((List.getD s i 0).toNat : Int)))] [] ⟨(show (0 : Int) ≤ (i : Int) from (by first | omega | (simp only [tail_iff, tail_neg, e1, e2, e3] at * <;> omega))), (show (i : Int) < List.length s from (by first | omega | (simp only [tail_iff, tail_neg, e1, e2, e3] at * <;> omega)))⟩ ?_
 refine gQ ?_
 refine gS [] [] 134 [(0, vc (st s)), (1, vc (i6 (i : Int))), (6, vc (i6 ((List.getD s i 0).toNat : Int))), (15, vc (bo (decide (((List.getD s i 0).toNat : Int) < 128))))] [] trivial ?_
 refine gC (((List.getD s i 0).toNat : Int) < 128) (fun hc1 => ?_) fun hc1 => ?_
 ·
  refine gS [] [] 134 [(4, vc (i6 ((List.getD s i 0).toNat : Int))), (5, vc (i6 1))] [] trivial ?_
  exact gT (AV.tup [tc (i6 ((List.getD s i 0).toNat : Int)), tc (i6 1)]) (by rw [show (nextS s i) = (((List.getD s i 0).toNat : Int), 1) from by simp only [tail_iff, tail_neg, e1, e2, e3, Bool.and_eq_true, decide_eq_true_eq] at *; first | (exfalso; omega) | (rw [next_1 (by omega)]; done) | (rw [next_2 rfl rfl (by omega) (by omega) (by omega)] <;> exact Prod.ext (by simp only []; omega) rfl) | (rw [next_3 rfl rfl rfl (by omega) (by omega) (by omega) (by omega) (by omega)] <;> exact Prod.ext (by simp only []; omega) rfl) | (rw [next_4 rfl rfl rfl rfl (by omega) (by omega) (by omega) (by omega) (by omega) (by omega)] <;> exact Prod.ext (by simp only []; omega) rfl) | (exact next_bad hi rfl rfl rfl rfl b0 b1 b2 b3 (by omega) (by omega) (by omega) (by omega))])
 ·
  refine AMx.skip ?_
  refine gQ ?_
  refine gS [(10, CE.call [] [] (vc (bo (tailS s ((i : Int) + 1)))) [])] [((decide (192 ≤ ((List.getD s i 0).toNat : Int))) = true) → allP [], ((decide (192 ≤ ((List.getD s i 0).toNat : Int))) = true) → allP [(decide (192 ≤ ((List.getD s i 0).toNat : Int))) = true], (decide (192 ≤ ((List.getD s i 0).toNat : Int))) = true → allP [(decide (192 ≤ ((List.getD s i 0).toNat : Int))) = true], (((decide (192 ≤ ((List.getD s i 0).toNat : Int))) && (decide (((List.getD s i 0).toNat : Int) < 224))) = true) → allP [], (((decide (192 ≤ ((List.getD s i 0).toNat : Int))) && (decide (((List.getD s i 0).toNat : Int) < 224))) = true) → allP [], (((decide (192 ≤ ((List.getD s i 0).toNat : Int))) && (decide (((List.getD s i 0).toNat : Int) < 224))) = true) → allP [((decide (192 ≤ ((List.getD s i 0).toNat : Int))) && (decide (((List.getD s i 0).toNat : Int) < 224))) = true, InR .i64 ((i : Int) + 1)], (((decide (192 ≤ ((List.getD s i 0).toNat : Int))) && (decide (((List.getD s i 0).toNat : Int) < 224))) = true) → allP [((decide (192 ≤ ((List.getD s i 0).toNat : Int))) && (decide (((List.getD s i 0).toNat : Int) < 224))) = true, ((decide (192 ≤ ((List.getD s i 0).toNat : Int))) && (decide (((List.getD s i 0).toNat : Int) < 224))) = true, Spec Tryz.prog 152 [tc (st s), tc (i6 ((i : Int) + 1))] (ofH []) (vc (bo (tailS s ((i : Int) + 1)))) (ofH [])], ((decide (192 ≤ ((List.getD s i 0).toNat : Int))) && (decide (((List.getD s i 0).toNat : Int) < 224))) = true → allP [((decide (192 ≤ ((List.getD s i 0).toNat : Int))) && (decide (((List.getD s i 0).toNat : Int) < 224))) = true]] 134 [(0, vc (st s)), (1, vc (i6 (i : Int))), (6, vc (i6 ((List.getD s i 0).toNat : Int))), (28, vc (bo (((decide (192 ≤ ((List.getD s i 0).toNat : Int))) && (decide (((List.getD s i 0).toNat : Int) < 224))) && (tailS s ((i : Int) + 1)))))] [] ⟨(fun _ => trivial), (fun hp => hp), (fun hp2 => (by first | exact hp2 | exact ⟨hp, hp2⟩)), (fun _ => trivial), (fun _ => trivial), (fun hp => by have hq := hp; (try simp only [decide_eq_true_eq, decide_eq_false_iff_not, Bool.and_eq_true, Bool.or_eq_true, Bool.and_eq_false_iff, Bool.or_eq_false_iff, Bool.not_eq_true', Bool.not_eq_false', Bool.not_eq_true, Bool.not_eq_false] at hq); exact ⟨hp, (show InR .i64 ((i : Int) + 1) from (inR64 (by first | omega | (simp only [tail_iff, tail_neg, e1, e2, e3] at * <;> omega)) (by first | omega | (simp only [tail_iff, tail_neg, e1, e2, e3] at * <;> omega))))⟩), (fun hp => by have hq := hp; (try simp only [decide_eq_true_eq, decide_eq_false_iff_not, Bool.and_eq_true, Bool.or_eq_true, Bool.and_eq_false_iff, Bool.or_eq_false_iff, Bool.not_eq_true', Bool.not_eq_false', Bool.not_eq_true, Bool.not_eq_false] at hq); exact ⟨hp, hp, (tail_c s ((i : Int) + 1) (by omega))⟩), (fun hp2 => (by first | exact hp2 | exact ⟨hp, hp2⟩))⟩ ?_
  refine gB ((((decide (192 ≤ ((List.getD s i 0).toNat : Int))) && (decide (((List.getD s i 0).toNat : Int) < 224))) && (tailS s ((i : Int) + 1)))) (fun hc2 => ?_) fun hc2 => ?_
  ·
   try simp only [xT, xF, xA, xB] at hc2
   refine gS [(6, CE.call [] [] (vc (i6 (((List.getD s ((i : Int) + 1).toNat 0).toNat : Int) - 128))) [])] [InR .i64 (((List.getD s i 0).toNat : Int) - 192), InR .i64 (64 * (((List.getD s i 0).toNat : Int) - 192)), InR .i64 ((i : Int) + 1), Spec Tryz.prog 153 [tc (st s), tc (i6 ((i : Int) + 1))] (ofH []) (vc (i6 (((List.getD s ((i : Int) + 1).toNat 0).toNat : Int) - 128))) (ofH []), InR .i64 ((64 * (((List.getD s i 0).toNat : Int) - 192)) + (((List.getD s ((i : Int) + 1).toNat 0).toNat : Int) - 128))] 134 [(0, vc (st s)), (1, vc (i6 (i : Int))), (6, vc (i6 ((List.getD s i 0).toNat : Int))), (7, vc (i6 ((64 * (((List.getD s i 0).toNat : Int) - 192)) + (((List.getD s ((i : Int) + 1).toNat 0).toNat : Int) - 128))))] [] ⟨(show InR .i64 (((List.getD s i 0).toNat : Int) - 192) from (inR64 (by first | omega | (simp only [tail_iff, tail_neg, e1, e2, e3] at * <;> omega)) (by first | omega | (simp only [tail_iff, tail_neg, e1, e2, e3] at * <;> omega)))), (show InR .i64 (64 * (((List.getD s i 0).toNat : Int) - 192)) from (inR64 (by first | omega | (simp only [tail_iff, tail_neg, e1, e2, e3] at * <;> omega)) (by first | omega | (simp only [tail_iff, tail_neg, e1, e2, e3] at * <;> omega)))), (show InR .i64 ((i : Int) + 1) from (inR64 (by first | omega | (simp only [tail_iff, tail_neg, e1, e2, e3] at * <;> omega)) (by first | omega | (simp only [tail_iff, tail_neg, e1, e2, e3] at * <;> omega)))), (low_c s ((i : Int) + 1) (by first | omega | (simp only [tail_iff, tail_neg, Bool.and_eq_true, decide_eq_true_eq] at * <;> omega))), (show InR .i64 ((64 * (((List.getD s i 0).toNat : Int) - 192)) + (((List.getD s ((i : Int) + 1).toNat 0).toNat : Int) - 128)) from (inR64 (by first | omega | (simp only [tail_iff, tail_neg, e1, e2, e3] at * <;> omega)) (by first | omega | (simp only [tail_iff, tail_neg, e1, e2, e3] at * <;> omega))))⟩ ?_
   refine gS [] [] 134 [(0, vc (st s)), (1, vc (i6 (i : Int))), (6, vc (i6 ((List.getD s i 0).toNat : Int))), (7, vc (i6 ((64 * (((List.getD s i 0).toNat : Int) - 192)) + (((List.getD s ((i : Int) + 1).toNat 0).toNat : Int) - 128)))), (38, vc (bo (decide (128 ≤ (64 * (((List.getD s i 0).toNat : Int) - 192)) + (((List.getD s ((i : Int) + 1).toNat 0).toNat : Int) - 128)))))] [] trivial ?_
   refine gC (128 ≤ (64 * (((List.getD s i 0).toNat : Int) - 192)) + (((List.getD s ((i : Int) + 1).toNat 0).toNat : Int) - 128)) (fun hc3 => ?_) fun hc3 => ?_
   ·
    refine gS [] [] 134 [(4, vc (i6 ((64 * (((List.getD s i 0).toNat : Int) - 192)) + (((List.getD s ((i : Int) + 1).toNat 0).toNat : Int) - 128)))), (5, vc (i6 2))] [] trivial ?_
    exact gT (AV.tup [tc (i6 ((64 * (((List.getD s i 0).toNat : Int) - 192)) + (((List.getD s ((i : Int) + 1).toNat 0).toNat : Int) - 128))), tc (i6 2)]) (by rw [show (nextS s i) = ((64 * (((List.getD s i 0).toNat : Int) - 192)) + (((List.getD s ((i : Int) + 1).toNat 0).toNat : Int) - 128), 2) from by simp only [tail_iff, tail_neg, e1, e2, e3, Bool.and_eq_true, decide_eq_true_eq] at *; first | (exfalso; omega) | (rw [next_1 (by omega)]; done) | (rw [next_2 rfl rfl (by omega) (by omega) (by omega)] <;> exact Prod.ext (by simp only []; omega) rfl) | (rw [next_3 rfl rfl rfl (by omega) (by omega) (by omega) (by omega) (by omega)] <;> exact Prod.ext (by simp only []; omega) rfl) | (rw [next_4 rfl rfl rfl rfl (by omega) (by omega) (by omega) (by omega) (by omega) (by omega)] <;> exact Prod.ext (by simp only []; omega) rfl) | (exact next_bad hi rfl rfl rfl rfl b0 b1 b2 b3 (by omega) (by omega) (by omega) (by omega))])
   ·
    refine AMx.skip ?_
    refine gQ ?_
    refine gS [(10, CE.call [] [] (vc (bo (tailS s ((i : Int) + 1)))) []), (16, CE.call [] [] (vc (bo (tailS s ((i : Int) + 2)))) [])] [((decide (224 ≤ ((List.getD s i 0).toNat : Int))) = true) → allP [], ((decide (224 ≤ ((List.getD s i 0).toNat : Int))) = true) → allP [(decide (224 ≤ ((List.getD s i 0).toNat : Int))) = true], (decide (224 ≤ ((List.getD s i 0).toNat : Int))) = true → allP [(decide (224 ≤ ((List.getD s i 0).toNat : Int))) = true], (((decide (224 ≤ ((List.getD s i 0).toNat : Int))) && (decide (((List.getD s i 0).toNat : Int) < 240))) = true) → allP [], (((decide (224 ≤ ((List.getD s i 0).toNat : Int))) && (decide (((List.getD s i 0).toNat : Int) < 240))) = true) → allP [], (((decide (224 ≤ ((List.getD s i 0).toNat : Int))) && (decide (((List.getD s i 0).toNat : Int) < 240))) = true) → allP [((decide (224 ≤ ((List.getD s i 0).toNat : Int))) && (decide (((List.getD s i 0).toNat : Int) < 240))) = true, InR .i64 ((i : Int) + 1)], (((decide (224 ≤ ((List.getD s i 0).toNat : Int))) && (decide (((List.getD s i 0).toNat : Int) < 240))) = true) → allP [((decide (224 ≤ ((List.getD s i 0).toNat : Int))) && (decide (((List.getD s i 0).toNat : Int) < 240))) = true, ((decide (224 ≤ ((List.getD s i 0).toNat : Int))) && (decide (((List.getD s i 0).toNat : Int) < 240))) = true, Spec Tryz.prog 152 [tc (st s), tc (i6 ((i : Int) + 1))] (ofH []) (vc (bo (tailS s ((i : Int) + 1)))) (ofH [])], ((decide (224 ≤ ((List.getD s i 0).toNat : Int))) && (decide (((List.getD s i 0).toNat : Int) < 240))) = true → allP [((decide (224 ≤ ((List.getD s i 0).toNat : Int))) && (decide (((List.getD s i 0).toNat : Int) < 240))) = true], ((((decide (224 ≤ ((List.getD s i 0).toNat : Int))) && (decide (((List.getD s i 0).toNat : Int) < 240))) && (tailS s ((i : Int) + 1))) = true) → allP [], ((((decide (224 ≤ ((List.getD s i 0).toNat : Int))) && (decide (((List.getD s i 0).toNat : Int) < 240))) && (tailS s ((i : Int) + 1))) = true) → allP [], ((((decide (224 ≤ ((List.getD s i 0).toNat : Int))) && (decide (((List.getD s i 0).toNat : Int) < 240))) && (tailS s ((i : Int) + 1))) = true) → allP [(((decide (224 ≤ ((List.getD s i 0).toNat : Int))) && (decide (((List.getD s i 0).toNat : Int) < 240))) && (tailS s ((i : Int) + 1))) = true, InR .i64 ((i : Int) + 2)], ((((decide (224 ≤ ((List.getD s i 0).toNat : Int))) && (decide (((List.getD s i 0).toNat : Int) < 240))) && (tailS s ((i : Int) + 1))) = true) → allP [(((decide (224 ≤ ((List.getD s i 0).toNat : Int))) && (decide (((List.getD s i 0).toNat : Int) < 240))) && (tailS s ((i : Int) + 1))) = true, (((decide (224 ≤ ((List.getD s i 0).toNat : Int))) && (decide (((List.getD s i 0).toNat : Int) < 240))) && (tailS s ((i : Int) + 1))) = true, Spec Tryz.prog 152 [tc (st s), tc (i6 ((i : Int) + 2))] (ofH []) (vc (bo (tailS s ((i : Int) + 2)))) (ofH [])], (((decide (224 ≤ ((List.getD s i 0).toNat : Int))) && (decide (((List.getD s i 0).toNat : Int) < 240))) && (tailS s ((i : Int) + 1))) = true → allP [(((decide (224 ≤ ((List.getD s i 0).toNat : Int))) && (decide (((List.getD s i 0).toNat : Int) < 240))) && (tailS s ((i : Int) + 1))) = true]] 134 [(0, vc (st s)), (1, vc (i6 (i : Int))), (6, vc (i6 ((List.getD s i 0).toNat : Int))), (57, vc (bo ((((decide (224 ≤ ((List.getD s i 0).toNat : Int))) && (decide (((List.getD s i 0).toNat : Int) < 240))) && (tailS s ((i : Int) + 1))) && (tailS s ((i : Int) + 2)))))] [] ⟨(fun _ => trivial), (fun hp => hp), (fun hp2 => (by first | exact hp2 | exact ⟨hp, hp2⟩)), (fun _ => trivial), (fun _ => trivial), (fun hp => by have hq := hp; (try simp only [decide_eq_true_eq, decide_eq_false_iff_not, Bool.and_eq_true, Bool.or_eq_true, Bool.and_eq_false_iff, Bool.or_eq_false_iff, Bool.not_eq_true', Bool.not_eq_false', Bool.not_eq_true, Bool.not_eq_false] at hq); exact ⟨hp, (show InR .i64 ((i : Int) + 1) from (inR64 (by first | omega | (simp only [tail_iff, tail_neg, e1, e2, e3] at * <;> omega)) (by first | omega | (simp only [tail_iff, tail_neg, e1, e2, e3] at * <;> omega))))⟩), (fun hp => by have hq := hp; (try simp only [decide_eq_true_eq, decide_eq_false_iff_not, Bool.and_eq_true, Bool.or_eq_true, Bool.and_eq_false_iff, Bool.or_eq_false_iff, Bool.not_eq_true', Bool.not_eq_false', Bool.not_eq_true, Bool.not_eq_false] at hq); exact ⟨hp, hp, (tail_c s ((i : Int) + 1) (by omega))⟩), (fun hp2 => (by first | exact hp2 | exact ⟨hp, hp2⟩)), (fun _ => trivial), (fun _ => trivial), (fun hp => by have hq := hp; (try simp only [decide_eq_true_eq, decide_eq_false_iff_not, Bool.and_eq_true, Bool.or_eq_true, Bool.and_eq_false_iff, Bool.or_eq_false_iff, Bool.not_eq_true', Bool.not_eq_false', Bool.not_eq_true, Bool.not_eq_false] at hq); exact ⟨hp, (show InR .i64 ((i : Int) + 2) from (inR64 (by first | omega | (simp only [tail_iff, tail_neg, e1, e2, e3] at * <;> omega)) (by first | omega | (simp only [tail_iff, tail_neg, e1, e2, e3] at * <;> omega))))⟩), (fun hp => by have hq := hp; (try simp only [decide_eq_true_eq, decide_eq_false_iff_not, Bool.and_eq_true, Bool.or_eq_true, Bool.and_eq_false_iff, Bool.or_eq_false_iff, Bool.not_eq_true', Bool.not_eq_false', Bool.not_eq_true, Bool.not_eq_false] at hq); exact ⟨hp, hp, (tail_c s ((i : Int) + 2) (by omega))⟩), (fun hp2 => (by first | exact hp2 | exact ⟨hp, hp2⟩))⟩ ?_
    refine gB (((((decide (224 ≤ ((List.getD s i 0).toNat : Int))) && (decide (((List.getD s i 0).toNat : Int) < 240))) && (tailS s ((i : Int) + 1))) && (tailS s ((i : Int) + 2)))) (fun hc4 => ?_) fun hc4 => ?_
    ·
     try simp only [xT, xF, xA, xB] at hc4
     refine gS [(6, CE.call [] [] (vc (i6 (((List.getD s ((i : Int) + 1).toNat 0).toNat : Int) - 128))) []), (12, CE.call [] [] (vc (i6 (((List.getD s ((i : Int) + 2).toNat 0).toNat : Int) - 128))) [])] [InR .i64 (((List.getD s i 0).toNat : Int) - 224), InR .i64 (4096 * (((List.getD s i 0).toNat : Int) - 224)), InR .i64 ((i : Int) + 1), Spec Tryz.prog 153 [tc (st s), tc (i6 ((i : Int) + 1))] (ofH []) (vc (i6 (((List.getD s ((i : Int) + 1).toNat 0).toNat : Int) - 128))) (ofH []), InR .i64 (64 * (((List.getD s ((i : Int) + 1).toNat 0).toNat : Int) - 128)), InR .i64 ((4096 * (((List.getD s i 0).toNat : Int) - 224)) + (64 * (((List.getD s ((i : Int) + 1).toNat 0).toNat : Int) - 128))), InR .i64 ((i : Int) + 2), Spec Tryz.prog 153 [tc (st s), tc (i6 ((i : Int) + 2))] (ofH []) (vc (i6 (((List.getD s ((i : Int) + 2).toNat 0).toNat : Int) - 128))) (ofH []), InR .i64 (((4096 * (((List.getD s i 0).toNat : Int) - 224)) + (64 * (((List.getD s ((i : Int) + 1).toNat 0).toNat : Int) - 128))) + (((List.getD s ((i : Int) + 2).toNat 0).toNat : Int) - 128))] 134 [(0, vc (st s)), (1, vc (i6 (i : Int))), (6, vc (i6 ((List.getD s i 0).toNat : Int))), (8, vc (i6 (((4096 * (((List.getD s i 0).toNat : Int) - 224)) + (64 * (((List.getD s ((i : Int) + 1).toNat 0).toNat : Int) - 128))) + (((List.getD s ((i : Int) + 2).toNat 0).toNat : Int) - 128))))] [] ⟨(show InR .i64 (((List.getD s i 0).toNat : Int) - 224) from (inR64 (by first | omega | (simp only [tail_iff, tail_neg, e1, e2, e3] at * <;> omega)) (by first | omega | (simp only [tail_iff, tail_neg, e1, e2, e3] at * <;> omega)))), (show InR .i64 (4096 * (((List.getD s i 0).toNat : Int) - 224)) from (inR64 (by first | omega | (simp only [tail_iff, tail_neg, e1, e2, e3] at * <;> omega)) (by first | omega | (simp only [tail_iff, tail_neg, e1, e2, e3] at * <;> omega)))), (show InR .i64 ((i : Int) + 1) from (inR64 (by first | omega | (simp only [tail_iff, tail_neg, e1, e2, e3] at * <;> omega)) (by first | omega | (simp only [tail_iff, tail_neg, e1, e2, e3] at * <;> omega)))), (low_c s ((i : Int) + 1) (by first | omega | (simp only [tail_iff, tail_neg, Bool.and_eq_true, decide_eq_true_eq] at * <;> omega))), (show InR .i64 (64 * (((List.getD s ((i : Int) + 1).toNat 0).toNat : Int) - 128)) from (inR64 (by first | omega | (simp only [tail_iff, tail_neg, e1, e2, e3] at * <;> omega)) (by first | omega | (simp only [tail_iff, tail_neg, e1, e2, e3] at * <;> omega)))), (show InR .i64 ((4096 * (((List.getD s i 0).toNat : Int) - 224)) + (64 * (((List.getD s ((i : Int) + 1).toNat 0).toNat : Int) - 128))) from (inR64 (by first | omega | (simp only [tail_iff, tail_neg, e1, e2, e3] at * <;> omega)) (by first | omega | (simp only [tail_iff, tail_neg, e1, e2, e3] at * <;> omega)))), (show InR .i64 ((i : Int) + 2) from (inR64 (by first | omega | (simp only [tail_iff, tail_neg, e1, e2, e3] at * <;> omega)) (by first | omega | (simp only [tail_iff, tail_neg, e1, e2, e3] at * <;> omega)))), (low_c s ((i : Int) + 2) (by first | omega | (simp only [tail_iff, tail_neg, Bool.and_eq_true, decide_eq_true_eq] at * <;> omega))), (show InR .i64 (((4096 * (((List.getD s i 0).toNat : Int) - 224)) + (64 * (((List.getD s ((i : Int) + 1).toNat 0).toNat : Int) - 128))) + (((List.getD s ((i : Int) + 2).toNat 0).toNat : Int) - 128)) from (inR64 (by first | omega | (simp only [tail_iff, tail_neg, e1, e2, e3] at * <;> omega)) (by first | omega | (simp only [tail_iff, tail_neg, e1, e2, e3] at * <;> omega))))⟩ ?_
     refine gS [] [((decide (2048 ≤ ((4096 * (((List.getD s i 0).toNat : Int) - 224)) + (64 * (((List.getD s ((i : Int) + 1).toNat 0).toNat : Int) - 128))) + (((List.getD s ((i : Int) + 2).toNat 0).toNat : Int) - 128))) = true) → allP [], ((decide (2048 ≤ ((4096 * (((List.getD s i 0).toNat : Int) - 224)) + (64 * (((List.getD s ((i : Int) + 1).toNat 0).toNat : Int) - 128))) + (((List.getD s ((i : Int) + 2).toNat 0).toNat : Int) - 128))) = true) → allP [(decide (2048 ≤ ((4096 * (((List.getD s i 0).toNat : Int) - 224)) + (64 * (((List.getD s ((i : Int) + 1).toNat 0).toNat : Int) - 128))) + (((List.getD s ((i : Int) + 2).toNat 0).toNat : Int) - 128))) = true], ((decide (2048 ≤ ((4096 * (((List.getD s i 0).toNat : Int) - 224)) + (64 * (((List.getD s ((i : Int) + 1).toNat 0).toNat : Int) - 128))) + (((List.getD s ((i : Int) + 2).toNat 0).toNat : Int) - 128))) = true) → allP [(decide (2048 ≤ ((4096 * (((List.getD s i 0).toNat : Int) - 224)) + (64 * (((List.getD s ((i : Int) + 1).toNat 0).toNat : Int) - 128))) + (((List.getD s ((i : Int) + 2).toNat 0).toNat : Int) - 128))) = true], (((decide (2048 ≤ ((4096 * (((List.getD s i 0).toNat : Int) - 224)) + (64 * (((List.getD s ((i : Int) + 1).toNat 0).toNat : Int) - 128))) + (((List.getD s ((i : Int) + 2).toNat 0).toNat : Int) - 128))) = true) ∧ (decide (((4096 * (((List.getD s i 0).toNat : Int) - 224)) + (64 * (((List.getD s ((i : Int) + 1).toNat 0).toNat : Int) - 128))) + (((List.getD s ((i : Int) + 2).toNat 0).toNat : Int) - 128) < 55296)) = false) → allP [], (((decide (2048 ≤ ((4096 * (((List.getD s i 0).toNat : Int) - 224)) + (64 * (((List.getD s ((i : Int) + 1).toNat 0).toNat : Int) - 128))) + (((List.getD s ((i : Int) + 2).toNat 0).toNat : Int) - 128))) = true) ∧ (decide (((4096 * (((List.getD s i 0).toNat : Int) - 224)) + (64 * (((List.getD s ((i : Int) + 1).toNat 0).toNat : Int) - 128))) + (((List.getD s ((i : Int) + 2).toNat 0).toNat : Int) - 128) < 55296)) = false) → allP [((decide (2048 ≤ ((4096 * (((List.getD s i 0).toNat : Int) - 224)) + (64 * (((List.getD s ((i : Int) + 1).toNat 0).toNat : Int) - 128))) + (((List.getD s ((i : Int) + 2).toNat 0).toNat : Int) - 128))) = true) ∧ (decide (((4096 * (((List.getD s i 0).toNat : Int) - 224)) + (64 * (((List.getD s ((i : Int) + 1).toNat 0).toNat : Int) - 128))) + (((List.getD s ((i : Int) + 2).toNat 0).toNat : Int) - 128) < 55296)) = false], ((decide (2048 ≤ ((4096 * (((List.getD s i 0).toNat : Int) - 224)) + (64 * (((List.getD s ((i : Int) + 1).toNat 0).toNat : Int) - 128))) + (((List.getD s ((i : Int) + 2).toNat 0).toNat : Int) - 128))) = true) → allP [(decide (2048 ≤ ((4096 * (((List.getD s i 0).toNat : Int) - 224)) + (64 * (((List.getD s ((i : Int) + 1).toNat 0).toNat : Int) - 128))) + (((List.getD s ((i : Int) + 2).toNat 0).toNat : Int) - 128))) = true, (decide (((4096 * (((List.getD s i 0).toNat : Int) - 224)) + (64 * (((List.getD s ((i : Int) + 1).toNat 0).toNat : Int) - 128))) + (((List.getD s ((i : Int) + 2).toNat 0).toNat : Int) - 128) < 55296)) = false → allP [((decide (2048 ≤ ((4096 * (((List.getD s i 0).toNat : Int) - 224)) + (64 * (((List.getD s ((i : Int) + 1).toNat 0).toNat : Int) - 128))) + (((List.getD s ((i : Int) + 2).toNat 0).toNat : Int) - 128))) = true) ∧ (decide (((4096 * (((List.getD s i 0).toNat : Int) - 224)) + (64 * (((List.getD s ((i : Int) + 1).toNat 0).toNat : Int) - 128))) + (((List.getD s ((i : Int) + 2).toNat 0).toNat : Int) - 128) < 55296)) = false]], (decide (2048 ≤ ((4096 * (((List.getD s i 0).toNat : Int) - 224)) + (64 * (((List.getD s ((i : Int) + 1).toNat 0).toNat : Int) - 128))) + (((List.getD s ((i : Int) + 2).toNat 0).toNat : Int) - 128))) = true → allP [(decide (2048 ≤ ((4096 * (((List.getD s i 0).toNat : Int) - 224)) + (64 * (((List.getD s ((i : Int) + 1).toNat 0).toNat : Int) - 128))) + (((List.getD s ((i : Int) + 2).toNat 0).toNat : Int) - 128))) = true]] 134 [(0, vc (st s)), (1, vc (i6 (i : Int))), (6, vc (i6 ((List.getD s i 0).toNat : Int))), (8, vc (i6 (((4096 * (((List.getD s i 0).toNat : Int) - 224)) + (64 * (((List.getD s ((i : Int) + 1).toNat 0).toNat : Int) - 128))) + (((List.getD s ((i : Int) + 2).toNat 0).toNat : Int) - 128)))), (81, vc (bo ((decide (2048 ≤ ((4096 * (((List.getD s i 0).toNat : Int) - 224)) + (64 * (((List.getD s ((i : Int) + 1).toNat 0).toNat : Int) - 128))) + (((List.getD s ((i : Int) + 2).toNat 0).toNat : Int) - 128))) && ((decide (((4096 * (((List.getD s i 0).toNat : Int) - 224)) + (64 * (((List.getD s ((i : Int) + 1).toNat 0).toNat : Int) - 128))) + (((List.getD s ((i : Int) + 2).toNat 0).toNat : Int) - 128) < 55296)) || (decide (57343 < ((4096 * (((List.getD s i 0).toNat : Int) - 224)) + (64 * (((List.getD s ((i : Int) + 1).toNat 0).toNat : Int) - 128))) + (((List.getD s ((i : Int) + 2).toNat 0).toNat : Int) - 128)))))))] [] ⟨(fun _ => trivial), (fun hp => hp), (fun hp => hp), (fun _ => trivial), (fun hp => hp), (fun hp => by have hq := hp; (try simp only [decide_eq_true_eq, decide_eq_false_iff_not, Bool.and_eq_true, Bool.or_eq_true, Bool.and_eq_false_iff, Bool.or_eq_false_iff, Bool.not_eq_true', Bool.not_eq_false', Bool.not_eq_true, Bool.not_eq_false] at hq); exact ⟨hp, (fun hp2 => (by first | exact hp2 | exact ⟨hp, hp2⟩))⟩), (fun hp2 => (by first | exact hp2 | exact ⟨hp, hp2⟩))⟩ ?_
     refine gB (((decide (2048 ≤ ((4096 * (((List.getD s i 0).toNat : Int) - 224)) + (64 * (((List.getD s ((i : Int) + 1).toNat 0).toNat : Int) - 128))) + (((List.getD s ((i : Int) + 2).toNat 0).toNat : Int) - 128))) && ((decide (((4096 * (((List.getD s i 0).toNat : Int) - 224)) + (64 * (((List.getD s ((i : Int) + 1).toNat 0).toNat : Int) - 128))) + (((List.getD s ((i : Int) + 2).toNat 0).toNat : Int) - 128) < 55296)) || (decide (57343 < ((4096 * (((List.getD s i 0).toNat : Int) - 224)) + (64 * (((List.getD s ((i : Int) + 1).toNat 0).toNat : Int) - 128))) + (((List.getD s ((i : Int) + 2).toNat 0).toNat : Int) - 128)))))) (fun hc5 => ?_) fun hc5 => ?_
     ·
      try simp only [xT, xF, xA, xB, xO, xP] at hc5
      refine gS [] [] 134 [(4, vc (i6 (((4096 * (((List.getD s i 0).toNat : Int) - 224)) + (64 * (((List.getD s ((i : Int) + 1).toNat 0).toNat : Int) - 128))) + (((List.getD s ((i : Int) + 2).toNat 0).toNat : Int) - 128)))), (5, vc (i6 3))] [] trivial ?_
      exact gT (AV.tup [tc (i6 (((4096 * (((List.getD s i 0).toNat : Int) - 224)) + (64 * (((List.getD s ((i : Int) + 1).toNat 0).toNat : Int) - 128))) + (((List.getD s ((i : Int) + 2).toNat 0).toNat : Int) - 128))), tc (i6 3)]) (by rw [show (nextS s i) = (((4096 * (((List.getD s i 0).toNat : Int) - 224)) + (64 * (((List.getD s ((i : Int) + 1).toNat 0).toNat : Int) - 128))) + (((List.getD s ((i : Int) + 2).toNat 0).toNat : Int) - 128), 3) from by simp only [tail_iff, tail_neg, e1, e2, e3, Bool.and_eq_true, decide_eq_true_eq] at *; first | (exfalso; omega) | (rw [next_1 (by omega)]; done) | (rw [next_2 rfl rfl (by omega) (by omega) (by omega)] <;> exact Prod.ext (by simp only []; omega) rfl) | (rw [next_3 rfl rfl rfl (by omega) (by omega) (by omega) (by omega) (by omega)] <;> exact Prod.ext (by simp only []; omega) rfl) | (rw [next_4 rfl rfl rfl rfl (by omega) (by omega) (by omega) (by omega) (by omega) (by omega)] <;> exact Prod.ext (by simp only []; omega) rfl) | (exact next_bad hi rfl rfl rfl rfl b0 b1 b2 b3 (by omega) (by omega) (by omega) (by omega))])
     ·
      try simp only [xT, xF, xA, xB, xO, xP] at hc5
      refine AMx.skip ?_
      refine gQ ?_
      refine gS [(10, CE.call [] [] (vc (bo (tailS s ((i : Int) + 1)))) []), (16, CE.call [] [] (vc (bo (tailS s ((i : Int) + 2)))) []), (22, CE.call [] [] (vc (bo (tailS s ((i : Int) + 3)))) [])] [((decide (240 ≤ ((List.getD s i 0).toNat : Int))) = true) → allP [], ((decide (240 ≤ ((List.getD s i 0).toNat : Int))) = true) → allP [(decide (240 ≤ ((List.getD s i 0).toNat : Int))) = true], (decide (240 ≤ ((List.getD s i 0).toNat : Int))) = true → allP [(decide (240 ≤ ((List.getD s i 0).toNat : Int))) = true], (((decide (240 ≤ ((List.getD s i 0).toNat : Int))) && (decide (((List.getD s i 0).toNat : Int) < 248))) = true) → allP [], (((decide (240 ≤ ((List.getD s i 0).toNat : Int))) && (decide (((List.getD s i 0).toNat : Int) < 248))) = true) → allP [], (((decide (240 ≤ ((List.getD s i 0).toNat : Int))) && (decide (((List.getD s i 0).toNat : Int) < 248))) = true) → allP [((decide (240 ≤ ((List.getD s i 0).toNat : Int))) && (decide (((List.getD s i 0).toNat : Int) < 248))) = true, InR .i64 ((i : Int) + 1)], (((decide (240 ≤ ((List.getD s i 0).toNat : Int))) && (decide (((List.getD s i 0).toNat : Int) < 248))) = true) → allP [((decide (240 ≤ ((List.getD s i 0).toNat : Int))) && (decide (((List.getD s i 0).toNat : Int) < 248))) = true, ((decide (240 ≤ ((List.getD s i 0).toNat : Int))) && (decide (((List.getD s i 0).toNat : Int) < 248))) = true, Spec Tryz.prog 152 [tc (st s), tc (i6 ((i : Int) + 1))] (ofH []) (vc (bo (tailS s ((i : Int) + 1)))) (ofH [])], ((decide (240 ≤ ((List.getD s i 0).toNat : Int))) && (decide (((List.getD s i 0).toNat : Int) < 248))) = true → allP [((decide (240 ≤ ((List.getD s i 0).toNat : Int))) && (decide (((List.getD s i 0).toNat : Int) < 248))) = true], ((((decide (240 ≤ ((List.getD s i 0).toNat : Int))) && (decide (((List.getD s i 0).toNat : Int) < 248))) && (tailS s ((i : Int) + 1))) = true) → allP [], ((((decide (240 ≤ ((List.getD s i 0).toNat : Int))) && (decide (((List.getD s i 0).toNat : Int) < 248))) && (tailS s ((i : Int) + 1))) = true) → allP [], ((((decide (240 ≤ ((List.getD s i 0).toNat : Int))) && (decide (((List.getD s i 0).toNat : Int) < 248))) && (tailS s ((i : Int) + 1))) = true) → allP [(((decide (240 ≤ ((List.getD s i 0).toNat : Int))) && (decide (((List.getD s i 0).toNat : Int) < 248))) && (tailS s ((i : Int) + 1))) = true, InR .i64 ((i : Int) + 2)], ((((decide (240 ≤ ((List.getD s i 0).toNat : Int))) && (decide (((List.getD s i 0).toNat : Int) < 248))) && (tailS s ((i : Int) + 1))) = true) → allP [(((decide (240 ≤ ((List.getD s i 0).toNat : Int))) && (decide (((List.getD s i 0).toNat : Int) < 248))) && (tailS s ((i : Int) + 1))) = true, (((decide (240 ≤ ((List.getD s i 0).toNat : Int))) && (decide (((List.getD s i 0).toNat : Int) < 248))) && (tailS s ((i : Int) + 1))) = true, Spec Tryz.prog 152 [tc (st s), tc (i6 ((i : Int) + 2))] (ofH []) (vc (bo (tailS s ((i : Int) + 2)))) (ofH [])], (((decide (240 ≤ ((List.getD s i 0).toNat : Int))) && (decide (((List.getD s i 0).toNat : Int) < 248))) && (tailS s ((i : Int) + 1))) = true → allP [(((decide (240 ≤ ((List.getD s i 0).toNat : Int))) && (decide (((List.getD s i 0).toNat : Int) < 248))) && (tailS s ((i : Int) + 1))) = true], (((((decide (240 ≤ ((List.getD s i 0).toNat : Int))) && (decide (((List.getD s i 0).toNat : Int) < 248))) && (tailS s ((i : Int) + 1))) && (tailS s ((i : Int) + 2))) = true) → allP [], (((((decide (240 ≤ ((List.getD s i 0).toNat : Int))) && (decide (((List.getD s i 0).toNat : Int) < 248))) && (tailS s ((i : Int) + 1))) && (tailS s ((i : Int) + 2))) = true) → allP [], (((((decide (240 ≤ ((List.getD s i 0).toNat : Int))) && (decide (((List.getD s i 0).toNat : Int) < 248))) && (tailS s ((i : Int) + 1))) && (tailS s ((i : Int) + 2))) = true) → allP [((((decide (240 ≤ ((List.getD s i 0).toNat : Int))) && (decide (((List.getD s i 0).toNat : Int) < 248))) && (tailS s ((i : Int) + 1))) && (tailS s ((i : Int) + 2))) = true, InR .i64 ((i : Int) + 3)], (((((decide (240 ≤ ((List.getD s i 0).toNat : Int))) && (decide (((List.getD s i 0).toNat : Int) < 248))) && (tailS s ((i : Int) + 1))) && (tailS s ((i : Int) + 2))) = true) → allP [((((decide (240 ≤ ((List.getD s i 0).toNat : Int))) && (decide (((List.getD s i 0).toNat : Int) < 248))) && (tailS s ((i : Int) + 1))) && (tailS s ((i : Int) + 2))) = true, ((((decide (240 ≤ ((List.getD s i 0).toNat : Int))) && (decide (((List.getD s i 0).toNat : Int) < 248))) && (tailS s ((i : Int) + 1))) && (tailS s ((i : Int) + 2))) = true, Spec Tryz.prog 152 [tc (st s), tc (i6 ((i : Int) + 3))] (ofH []) (vc (bo (tailS s ((i : Int) + 3)))) (ofH [])], ((((decide (240 ≤ ((List.getD s i 0).toNat : Int))) && (decide (((List.getD s i 0).toNat : Int) < 248))) && (tailS s ((i : Int) + 1))) && (tailS s ((i : Int) + 2))) = true → allP [((((decide (240 ≤ ((List.getD s i 0).toNat : Int))) && (decide (((List.getD s i 0).toNat : Int) < 248))) && (tailS s ((i : Int) + 1))) && (tailS s ((i : Int) + 2))) = true]] 134 [(0, vc (st s)), (1, vc (i6 (i : Int))), (6, vc (i6 ((List.getD s i 0).toNat : Int))), (106, vc (bo (((((decide (240 ≤ ((List.getD s i 0).toNat : Int))) && (decide (((List.getD s i 0).toNat : Int) < 248))) && (tailS s ((i : Int) + 1))) && (tailS s ((i : Int) + 2))) && (tailS s ((i : Int) + 3)))))] [] ⟨(fun _ => trivial), (fun hp => hp), (fun hp2 => (by first | exact hp2 | exact ⟨hp, hp2⟩)), (fun _ => trivial), (fun _ => trivial), (fun hp => by have hq := hp; (try simp only [decide_eq_true_eq, decide_eq_false_iff_not, Bool.and_eq_true, Bool.or_eq_true, Bool.and_eq_false_iff, Bool.or_eq_false_iff, Bool.not_eq_true', Bool.not_eq_false', Bool.not_eq_true, Bool.not_eq_false] at hq); exact ⟨hp, (show InR .i64 ((i : Int) + 1) from (inR64 (by first | omega | (simp only [tail_iff, tail_neg, e1, e2, e3] at * <;> omega)) (by first | omega | (simp only [tail_iff, tail_neg, e1, e2, e3] at * <;> omega))))⟩), (fun hp => by have hq := hp; (try simp only [decide_eq_true_eq, decide_eq_false_iff_not, Bool.and_eq_true, Bool.or_eq_true, Bool.and_eq_false_iff, Bool.or_eq_false_iff, Bool.not_eq_true', Bool.not_eq_false', Bool.not_eq_true, Bool.not_eq_false] at hq); exact ⟨hp, hp, (tail_c s ((i : Int) + 1) (by omega))⟩), (fun hp2 => (by first | exact hp2 | exact ⟨hp, hp2⟩)), (fun _ => trivial), (fun _ => trivial), (fun hp => by have hq := hp; (try simp only [decide_eq_true_eq, decide_eq_false_iff_not, Bool.and_eq_true, Bool.or_eq_true, Bool.and_eq_false_iff, Bool.or_eq_false_iff, Bool.not_eq_true', Bool.not_eq_false', Bool.not_eq_true, Bool.not_eq_false] at hq); exact ⟨hp, (show InR .i64 ((i : Int) + 2) from (inR64 (by first | omega | (simp only [tail_iff, tail_neg, e1, e2, e3] at * <;> omega)) (by first | omega | (simp only [tail_iff, tail_neg, e1, e2, e3] at * <;> omega))))⟩), (fun hp => by have hq := hp; (try simp only [decide_eq_true_eq, decide_eq_false_iff_not, Bool.and_eq_true, Bool.or_eq_true, Bool.and_eq_false_iff, Bool.or_eq_false_iff, Bool.not_eq_true', Bool.not_eq_false', Bool.not_eq_true, Bool.not_eq_false] at hq); exact ⟨hp, hp, (tail_c s ((i : Int) + 2) (by omega))⟩), (fun hp2 => (by first | exact hp2 | exact ⟨hp, hp2⟩)), (fun _ => trivial), (fun _ => trivial), (fun hp => by have hq := hp; (try simp only [decide_eq_true_eq, decide_eq_false_iff_not, Bool.and_eq_true, Bool.or_eq_true, Bool.and_eq_false_iff, Bool.or_eq_false_iff, Bool.not_eq_true', Bool.not_eq_false', Bool.not_eq_true, Bool.not_eq_false] at hq); exact ⟨hp, (show InR .i64 ((i : Int) + 3) from (inR64 (by first | omega | (simp only [tail_iff, tail_neg, e1, e2, e3] at * <;> omega)) (by first | omega | (simp only [tail_iff, tail_neg, e1, e2, e3] at * <;> omega))))⟩), (fun hp => by have hq := hp; (try simp only [decide_eq_true_eq, decide_eq_false_iff_not, Bool.and_eq_true, Bool.or_eq_true, Bool.and_eq_false_iff, Bool.or_eq_false_iff, Bool.not_eq_true', Bool.not_eq_false', Bool.not_eq_true, Bool.not_eq_false] at hq); exact ⟨hp, hp, (tail_c s ((i : Int) + 3) (by omega))⟩), (fun hp2 => (by first | exact hp2 | exact ⟨hp, hp2⟩))⟩ ?_
      refine gB ((((((decide (240 ≤ ((List.getD s i 0).toNat : Int))) && (decide (((List.getD s i 0).toNat : Int) < 248))) && (tailS s ((i : Int) + 1))) && (tailS s ((i : Int) + 2))) && (tailS s ((i : Int) + 3)))) (fun hc6 => ?_) fun hc6 => ?_
      ·
       try simp only [xT, xF, xA, xB] at hc6
       refine gS [(6, CE.call [] [] (vc (i6 (((List.getD s ((i : Int) + 1).toNat 0).toNat : Int) - 128))) []), (12, CE.call [] [] (vc (i6 (((List.getD s ((i : Int) + 2).toNat 0).toNat : Int) - 128))) []), (18, CE.call [] [] (vc (i6 (((List.getD s ((i : Int) + 3).toNat 0).toNat : Int) - 128))) [])] [InR .i64 (((List.getD s i 0).toNat : Int) - 240), InR .i64 (262144 * (((List.getD s i 0).toNat : Int) - 240)), InR .i64 ((i : Int) + 1), Spec Tryz.prog 153 [tc (st s), tc (i6 ((i : Int) + 1))] (ofH []) (vc (i6 (((List.getD s ((i : Int) + 1).toNat 0).toNat : Int) - 128))) (ofH []), InR .i64 (4096 * (((List.getD s ((i : Int) + 1).toNat 0).toNat : Int) - 128)), InR .i64 ((262144 * (((List.getD s i 0).toNat : Int) - 240)) + (4096 * (((List.getD s ((i : Int) + 1).toNat 0).toNat : Int) - 128))), InR .i64 ((i : Int) + 2), Spec Tryz.prog 153 [tc (st s), tc (i6 ((i : Int) + 2))] (ofH []) (vc (i6 (((List.getD s ((i : Int) + 2).toNat 0).toNat : Int) - 128))) (ofH []), InR .i64 (64 * (((List.getD s ((i : Int) + 2).toNat 0).toNat : Int) - 128)), InR .i64 (((262144 * (((List.getD s i 0).toNat : Int) - 240)) + (4096 * (((List.getD s ((i : Int) + 1).toNat 0).toNat : Int) - 128))) + (64 * (((List.getD s ((i : Int) + 2).toNat 0).toNat : Int) - 128))), InR .i64 ((i : Int) + 3), Spec Tryz.prog 153 [tc (st s), tc (i6 ((i : Int) + 3))] (ofH []) (vc (i6 (((List.getD s ((i : Int) + 3).toNat 0).toNat : Int) - 128))) (ofH []), InR .i64 ((((262144 * (((List.getD s i 0).toNat : Int) - 240)) + (4096 * (((List.getD s ((i : Int) + 1).toNat 0).toNat : Int) - 128))) + (64 * (((List.getD s ((i : Int) + 2).toNat 0).toNat : Int) - 128))) + (((List.getD s ((i : Int) + 3).toNat 0).toNat : Int) - 128))] 134 [(9, vc (i6 ((((262144 * (((List.getD s i 0).toNat : Int) - 240)) + (4096 * (((List.getD s ((i : Int) + 1).toNat 0).toNat : Int) - 128))) + (64 * (((List.getD s ((i : Int) + 2).toNat 0).toNat : Int) - 128))) + (((List.getD s ((i : Int) + 3).toNat 0).toNat : Int) - 128))))] [] ⟨(show InR .i64 (((List.getD s i 0).toNat : Int) - 240) from (inR64 (by first | omega | (simp only [tail_iff, tail_neg, e1, e2, e3] at * <;> omega)) (by first | omega | (simp only [tail_iff, tail_neg, e1, e2, e3] at * <;> omega)))), (show InR .i64 (262144 * (((List.getD s i 0).toNat : Int) - 240)) from (inR64 (by first | omega | (simp only [tail_iff, tail_neg, e1, e2, e3] at * <;> omega)) (by first | omega | (simp only [tail_iff, tail_neg, e1, e2, e3] at * <;> omega)))), (show InR .i64 ((i : Int) + 1) from (inR64 (by first | omega | (simp only [tail_iff, tail_neg, e1, e2, e3] at * <;> omega)) (by first | omega | (simp only [tail_iff, tail_neg, e1, e2, e3] at * <;> omega)))), (low_c s ((i : Int) + 1) (by first | omega | (simp only [tail_iff, tail_neg, Bool.and_eq_true, decide_eq_true_eq] at * <;> omega))), (show InR .i64 (4096 * (((List.getD s ((i : Int) + 1).toNat 0).toNat : Int) - 128)) from (inR64 (by first | omega | (simp only [tail_iff, tail_neg, e1, e2, e3] at * <;> omega)) (by first | omega | (simp only [tail_iff, tail_neg, e1, e2, e3] at * <;> omega)))), (show InR .i64 ((262144 * (((List.getD s i 0).toNat : Int) - 240)) + (4096 * (((List.getD s ((i : Int) + 1).toNat 0).toNat : Int) - 128))) from (inR64 (by first | omega | (simp only [tail_iff, tail_neg, e1, e2, e3] at * <;> omega)) (by first | omega | (simp only [tail_iff, tail_neg, e1, e2, e3] at * <;> omega)))), (show InR .i64 ((i : Int) + 2) from (inR64 (by first | omega | (simp only [tail_iff, tail_neg, e1, e2, e3] at * <;> omega)) (by first | omega | (simp only [tail_iff, tail_neg, e1, e2, e3] at * <;> omega)))), (low_c s ((i : Int) + 2) (by first | omega | (simp only [tail_iff, tail_neg, Bool.and_eq_true, decide_eq_true_eq] at * <;> omega))), (show InR .i64 (64 * (((List.getD s ((i : Int) + 2).toNat 0).toNat : Int) - 128)) from (inR64 (by first | omega | (simp only [tail_iff, tail_neg, e1, e2, e3] at * <;> omega)) (by first | omega | (simp only [tail_iff, tail_neg, e1, e2, e3] at * <;> omega)))), (show InR .i64 (((262144 * (((List.getD s i 0).toNat : Int) - 240)) + (4096 * (((List.getD s ((i : Int) + 1).toNat 0).toNat : Int) - 128))) + (64 * (((List.getD s ((i : Int) + 2).toNat 0).toNat : Int) - 128))) from (inR64 (by first | omega | (simp only [tail_iff, tail_neg, e1, e2, e3] at * <;> omega)) (by first | omega | (simp only [tail_iff, tail_neg, e1, e2, e3] at * <;> omega)))), (show InR .i64 ((i : Int) + 3) from (inR64 (by first | omega | (simp only [tail_iff, tail_neg, e1, e2, e3] at * <;> omega)) (by first | omega | (simp only [tail_iff, tail_neg, e1, e2, e3] at * <;> omega)))), (low_c s ((i : Int) + 3) (by first | omega | (simp only [tail_iff, tail_neg, Bool.and_eq_true, decide_eq_true_eq] at * <;> omega))), (show InR .i64 ((((262144 * (((List.getD s i 0).toNat : Int) - 240)) + (4096 * (((List.getD s ((i : Int) + 1).toNat 0).toNat : Int) - 128))) + (64 * (((List.getD s ((i : Int) + 2).toNat 0).toNat : Int) - 128))) + (((List.getD s ((i : Int) + 3).toNat 0).toNat : Int) - 128)) from (inR64 (by first | omega | (simp only [tail_iff, tail_neg, e1, e2, e3] at * <;> omega)) (by first | omega | (simp only [tail_iff, tail_neg, e1, e2, e3] at * <;> omega))))⟩ ?_
       refine gS [] [((decide (65536 ≤ (((262144 * (((List.getD s i 0).toNat : Int) - 240)) + (4096 * (((List.getD s ((i : Int) + 1).toNat 0).toNat : Int) - 128))) + (64 * (((List.getD s ((i : Int) + 2).toNat 0).toNat : Int) - 128))) + (((List.getD s ((i : Int) + 3).toNat 0).toNat : Int) - 128))) = true) → allP [], ((decide (65536 ≤ (((262144 * (((List.getD s i 0).toNat : Int) - 240)) + (4096 * (((List.getD s ((i : Int) + 1).toNat 0).toNat : Int) - 128))) + (64 * (((List.getD s ((i : Int) + 2).toNat 0).toNat : Int) - 128))) + (((List.getD s ((i : Int) + 3).toNat 0).toNat : Int) - 128))) = true) → allP [(decide (65536 ≤ (((262144 * (((List.getD s i 0).toNat : Int) - 240)) + (4096 * (((List.getD s ((i : Int) + 1).toNat 0).toNat : Int) - 128))) + (64 * (((List.getD s ((i : Int) + 2).toNat 0).toNat : Int) - 128))) + (((List.getD s ((i : Int) + 3).toNat 0).toNat : Int) - 128))) = true], (decide (65536 ≤ (((262144 * (((List.getD s i 0).toNat : Int) - 240)) + (4096 * (((List.getD s ((i : Int) + 1).toNat 0).toNat : Int) - 128))) + (64 * (((List.getD s ((i : Int) + 2).toNat 0).toNat : Int) - 128))) + (((List.getD s ((i : Int) + 3).toNat 0).toNat : Int) - 128))) = true → allP [(decide (65536 ≤ (((262144 * (((List.getD s i 0).toNat : Int) - 240)) + (4096 * (((List.getD s ((i : Int) + 1).toNat 0).toNat : Int) - 128))) + (64 * (((List.getD s ((i : Int) + 2).toNat 0).toNat : Int) - 128))) + (((List.getD s ((i : Int) + 3).toNat 0).toNat : Int) - 128))) = true]] 134 [(9, vc (i6 ((((262144 * (((List.getD s i 0).toNat : Int) - 240)) + (4096 * (((List.getD s ((i : Int) + 1).toNat 0).toNat : Int) - 128))) + (64 * (((List.getD s ((i : Int) + 2).toNat 0).toNat : Int) - 128))) + (((List.getD s ((i : Int) + 3).toNat 0).toNat : Int) - 128)))), (132, vc (bo ((decide (65536 ≤ (((262144 * (((List.getD s i 0).toNat : Int) - 240)) + (4096 * (((List.getD s ((i : Int) + 1).toNat 0).toNat : Int) - 128))) + (64 * (((List.getD s ((i : Int) + 2).toNat 0).toNat : Int) - 128))) + (((List.getD s ((i : Int) + 3).toNat 0).toNat : Int) - 128))) && (decide ((((262144 * (((List.getD s i 0).toNat : Int) - 240)) + (4096 * (((List.getD s ((i : Int) + 1).toNat 0).toNat : Int) - 128))) + (64 * (((List.getD s ((i : Int) + 2).toNat 0).toNat : Int) - 128))) + (((List.getD s ((i : Int) + 3).toNat 0).toNat : Int) - 128) ≤ 1114111)))))] [] ⟨(fun _ => trivial), (fun hp => hp), (fun hp2 => (by first | exact hp2 | exact ⟨hp, hp2⟩))⟩ ?_
       refine gB (((decide (65536 ≤ (((262144 * (((List.getD s i 0).toNat : Int) - 240)) + (4096 * (((List.getD s ((i : Int) + 1).toNat 0).toNat : Int) - 128))) + (64 * (((List.getD s ((i : Int) + 2).toNat 0).toNat : Int) - 128))) + (((List.getD s ((i : Int) + 3).toNat 0).toNat : Int) - 128))) && (decide ((((262144 * (((List.getD s i 0).toNat : Int) - 240)) + (4096 * (((List.getD s ((i : Int) + 1).toNat 0).toNat : Int) - 128))) + (64 * (((List.getD s ((i : Int) + 2).toNat 0).toNat : Int) - 128))) + (((List.getD s ((i : Int) + 3).toNat 0).toNat : Int) - 128) ≤ 1114111)))) (fun hc7 => ?_) fun hc7 => ?_
       ·
        try simp only [xT, xF, xA, xB] at hc7
        refine gS [] [] 134 [(4, vc (i6 ((((262144 * (((List.getD s i 0).toNat : Int) - 240)) + (4096 * (((List.getD s ((i : Int) + 1).toNat 0).toNat : Int) - 128))) + (64 * (((List.getD s ((i : Int) + 2).toNat 0).toNat : Int) - 128))) + (((List.getD s ((i : Int) + 3).toNat 0).toNat : Int) - 128)))), (5, vc (i6 4))] [] trivial ?_
        exact gT (AV.tup [tc (i6 ((((262144 * (((List.getD s i 0).toNat : Int) - 240)) + (4096 * (((List.getD s ((i : Int) + 1).toNat 0).toNat : Int) - 128))) + (64 * (((List.getD s ((i : Int) + 2).toNat 0).toNat : Int) - 128))) + (((List.getD s ((i : Int) + 3).toNat 0).toNat : Int) - 128))), tc (i6 4)]) (by rw [show (nextS s i) = ((((262144 * (((List.getD s i 0).toNat : Int) - 240)) + (4096 * (((List.getD s ((i : Int) + 1).toNat 0).toNat : Int) - 128))) + (64 * (((List.getD s ((i : Int) + 2).toNat 0).toNat : Int) - 128))) + (((List.getD s ((i : Int) + 3).toNat 0).toNat : Int) - 128), 4) from by simp only [tail_iff, tail_neg, e1, e2, e3, Bool.and_eq_true, decide_eq_true_eq] at *; first | (exfalso; omega) | (rw [next_1 (by omega)]; done) | (rw [next_2 rfl rfl (by omega) (by omega) (by omega)] <;> exact Prod.ext (by simp only []; omega) rfl) | (rw [next_3 rfl rfl rfl (by omega) (by omega) (by omega) (by omega) (by omega)] <;> exact Prod.ext (by simp only []; omega) rfl) | (rw [next_4 rfl rfl rfl rfl (by omega) (by omega) (by omega) (by omega) (by omega) (by omega)] <;> exact Prod.ext (by simp only []; omega) rfl) | (exact next_bad hi rfl rfl rfl rfl b0 b1 b2 b3 (by omega) (by omega) (by omega) (by omega))])
       ·
        try simp only [xT, xF, xA, xB] at hc7
        refine AMx.skip ?_
        refine gS [] [] 134 [(4, vc (i6 (-1))), (5, vc (i6 1))] [] trivial ?_
        exact gT (AV.tup [tc (i6 (-1)), tc (i6 1)]) (by rw [show (nextS s i) = ((-1), 1) from by simp only [tail_iff, tail_neg, e1, e2, e3, Bool.and_eq_true, decide_eq_true_eq] at *; first | (exfalso; omega) | (rw [next_1 (by omega)]; done) | (rw [next_2 rfl rfl (by omega) (by omega) (by omega)] <;> exact Prod.ext (by simp only []; omega) rfl) | (rw [next_3 rfl rfl rfl (by omega) (by omega) (by omega) (by omega) (by omega)] <;> exact Prod.ext (by simp only []; omega) rfl) | (rw [next_4 rfl rfl rfl rfl (by omega) (by omega) (by omega) (by omega) (by omega) (by omega)] <;> exact Prod.ext (by simp only []; omega) rfl) | (exact next_bad hi rfl rfl rfl rfl b0 b1 b2 b3 (by omega) (by omega) (by omega) (by omega))])
      ·
       try simp only [xT, xF, xA, xB] at hc6
       refine AMx.skip ?_
       refine gS [] [] 134 [(4, vc (i6 (-1))), (5, vc (i6 1))] [] trivial ?_
       exact gT (AV.tup [tc (i6 (-1)), tc (i6 1)]) (by rw [show (nextS s i) = ((-1), 1) from by simp only [tail_iff, tail_neg, e1, e2, e3, Bool.and_eq_true, decide_eq_true_eq] at *; first | (exfalso; omega) | (rw [next_1 (by omega)]; done) | (rw [next_2 rfl rfl (by omega) (by omega) (by omega)] <;> exact Prod.ext (by simp only []; omega) rfl) | (rw [next_3 rfl rfl rfl (by omega) (by omega) (by omega) (by omega) (by omega)] <;> exact Prod.ext (by simp only []; omega) rfl) | (rw [next_4 rfl rfl rfl rfl (by omega) (by omega) (by omega) (by omega) (by omega) (by omega)] <;> exact Prod.ext (by simp only []; omega) rfl) | (exact next_bad hi rfl rfl rfl rfl b0 b1 b2 b3 (by omega) (by omega) (by omega) (by omega))])
    ·
     try simp only [xT, xF, xA, xB] at hc4
     refine AMx.skip ?_
     refine gQ ?_
     refine gS [(10, CE.call [] [] (vc (bo (tailS s ((i : Int) + 1)))) []), (16, CE.call [] [] (vc (bo (tailS s ((i : Int) + 2)))) []), (22, CE.call [] [] (vc (bo (tailS s ((i : Int) + 3)))) [])] [((decide (240 ≤ ((List.getD s i 0).toNat : Int))) = true) → allP [], ((decide (240 ≤ ((List.getD s i 0).toNat : Int))) = true) → allP [(decide (240 ≤ ((List.getD s i 0).toNat : Int))) = true], (decide (240 ≤ ((List.getD s i 0).toNat : Int))) = true → allP [(decide (240 ≤ ((List.getD s i 0).toNat : Int))) = true], (((decide (240 ≤ ((List.getD s i 0).toNat : Int))) && (decide (((List.getD s i 0).toNat : Int) < 248))) = true) → allP [], (((decide (240 ≤ ((List.getD s i 0).toNat : Int))) && (decide (((List.getD s i 0).toNat : Int) < 248))) = true) → allP [], (((decide (240 ≤ ((List.getD s i 0).toNat : Int))) && (decide (((List.getD s i 0).toNat : Int) < 248))) = true) → allP [((decide (240 ≤ ((List.getD s i 0).toNat : Int))) && (decide (((List.getD s i 0).toNat : Int) < 248))) = true, InR .i64 ((i : Int) + 1)], (((decide (240 ≤ ((List.getD s i 0).toNat : Int))) && (decide (((List.getD s i 0).toNat : Int) < 248))) = true) → allP [((decide (240 ≤ ((List.getD s i 0).toNat : Int))) && (decide (((List.getD s i 0).toNat : Int) < 248))) = true, ((decide (240 ≤ ((List.getD s i 0).toNat : Int))) && (decide (((List.getD s i 0).toNat : Int) < 248))) = true, Spec Tryz.prog 152 [tc (st s), tc (i6 ((i : Int) + 1))] (ofH []) (vc (bo (tailS s ((i : Int) + 1)))) (ofH [])], ((decide (240 ≤ ((List.getD s i 0).toNat : Int))) && (decide (((List.getD s i 0).toNat : Int) < 248))) = true → allP [((decide (240 ≤ ((List.getD s i 0).toNat : Int))) && (decide (((List.getD s i 0).toNat : Int) < 248))) = true], ((((decide (240 ≤ ((List.getD s i 0).toNat : Int))) && (decide (((List.getD s i 0).toNat : Int) < 248))) && (tailS s ((i : Int) + 1))) = true) → allP [], ((((decide (240 ≤ ((List.getD s i 0).toNat : Int))) && (decide (((List.getD s i 0).toNat : Int) < 248))) && (tailS s ((i : Int) + 1))) = true) → allP [], ((((decide (240 ≤ ((List.getD s i 0).toNat : Int))) && (decide (((List.getD s i 0).toNat : Int) < 248))) && (tailS s ((i : Int) + 1))) = true) → allP [(((decide (240 ≤ ((List.getD s i 0).toNat : Int))) && (decide (((List.getD s i 0).toNat : Int) < 248))) && (tailS s ((i : Int) + 1))) = true, InR .i64 ((i : Int) + 2)], ((((decide (240 ≤ ((List.getD s i 0).toNat : Int))) && (decide (((List.getD s i 0).toNat : Int) < 248))) && (tailS s ((i : Int) + 1))) = true) → allP [(((decide (240 ≤ ((List.getD s i 0).toNat : Int))) && (decide (((List.getD s i 0).toNat : Int) < 248))) && (tailS s ((i : Int) + 1))) = true, (((decide (240 ≤ ((List.getD s i 0).toNat : Int))) && (decide (((List.getD s i 0).toNat : Int) < 248))) && (tailS s ((i : Int) + 1))) = true, Spec Tryz.prog 152 [tc (st s), tc (i6 ((i : Int) + 2))] (ofH []) (vc (bo (tailS s ((i : Int) + 2)))) (ofH [])], (((decide (240 ≤ ((List.getD s i 0).toNat : Int))) && (decide (((List.getD s i 0).toNat : Int) < 248))) && (tailS s ((i : Int) + 1))) = true → allP [(((decide (240 ≤ ((List.getD s i 0).toNat : Int))) && (decide (((List.getD s i 0).toNat : Int) < 248))) && (tailS s ((i : Int) + 1))) = true], (((((decide (240 ≤ ((List.getD s i 0).toNat : Int))) && (decide (((List.getD s i 0).toNat : Int) < 248))) && (tailS s ((i : Int) + 1))) && (tailS s ((i : Int) + 2))) = true) → allP [], (((((decide (240 ≤ ((List.getD s i 0).toNat : Int))) && (decide (((List.getD s i 0).toNat : Int) < 248))) && (tailS s ((i : Int) + 1))) && (tailS s ((i : Int) + 2))) = true) → allP [], (((((decide (240 ≤ ((List.getD s i 0).toNat : Int))) && (decide (((List.getD s i 0).toNat : Int) < 248))) && (tailS s ((i : Int) + 1))) && (tailS s ((i : Int) + 2))) = true) → allP [((((decide (240 ≤ ((List.getD s i 0).toNat : Int))) && (decide (((List.getD s i 0).toNat : Int) < 248))) && (tailS s ((i : Int) + 1))) && (tailS s ((i : Int) + 2))) = true, InR .i64 ((i : Int) + 3)], (((((decide (240 ≤ ((List.getD s i 0).toNat : Int))) && (decide (((List.getD s i 0).toNat : Int) < 248))) && (tailS s ((i : Int) + 1))) && (tailS s ((i : Int) + 2))) = true) → allP [((((decide (240 ≤ ((List.getD s i 0).toNat : Int))) && (decide (((List.getD s i 0).toNat : Int) < 248))) && (tailS s ((i : Int) + 1))) && (tailS s ((i : Int) + 2))) = true, ((((decide (240 ≤ ((List.getD s i 0).toNat : Int))) && (decide (((List.getD s i 0).toNat : Int) < 248))) && (tailS s ((i : Int) + 1))) && (tailS s ((i : Int) + 2))) = true, Spec Tryz.prog 152 [tc (st s), tc (i6 ((i : Int) + 3))] (ofH []) (vc (bo (tailS s ((i : Int) + 3)))) (ofH [])], ((((decide (240 ≤ ((List.getD s i 0).toNat : Int))) && (decide (((List.getD s i 0).toNat : Int) < 248))) && (tailS s ((i : Int) + 1))) && (tailS s ((i : Int) + 2))) = true → allP [((((decide (240 ≤ ((List.getD s i 0).toNat : Int))) && (decide (((List.getD s i 0).toNat : Int) < 248))) && (tailS s ((i : Int) + 1))) && (tailS s ((i : Int) + 2))) = true]] 134 [(0, vc (st s)), (1, vc (i6 (i : Int))), (6, vc (i6 ((List.getD s i 0).toNat : Int))), (106, vc (bo (((((decide (240 ≤ ((List.getD s i 0).toNat : Int))) && (decide (((List.getD s i 0).toNat : Int) < 248))) && (tailS s ((i : Int) + 1))) && (tailS s ((i : Int) + 2))) && (tailS s ((i : Int) + 3)))))] [] ⟨(fun _ => trivial), (fun hp => hp), (fun hp2 => (by first | exact hp2 | exact ⟨hp, hp2⟩)), (fun _ => trivial), (fun _ => trivial), (fun hp => by have hq := hp; (try simp only [decide_eq_true_eq, decide_eq_false_iff_not, Bool.and_eq_true, Bool.or_eq_true, Bool.and_eq_false_iff, Bool.or_eq_false_iff, Bool.not_eq_true', Bool.not_eq_false', Bool.not_eq_true, Bool.not_eq_false] at hq); exact ⟨hp, (show InR .i64 ((i : Int) + 1) from (inR64 (by first | omega | (simp only [tail_iff, tail_neg, e1, e2, e3] at * <;> omega)) (by first | omega | (simp only [tail_iff, tail_neg, e1, e2, e3] at * <;> omega))))⟩), (fun hp => by have hq := hp; (try simp only [decide_eq_true_eq, decide_eq_false_iff_not, Bool.and_eq_true, Bool.or_eq_true, Bool.and_eq_false_iff, Bool.or_eq_false_iff, Bool.not_eq_true', Bool.not_eq_false', Bool.not_eq_true, Bool.not_eq_false] at hq); exact ⟨hp, hp, (tail_c s ((i : Int) + 1) (by omega))⟩), (fun hp2 => (by first | exact hp2 | exact ⟨hp, hp2⟩)), (fun _ => trivial), (fun _ => trivial), (fun hp => by have hq := hp; (try simp only [decide_eq_true_eq, decide_eq_false_iff_not, Bool.and_eq_true, Bool.or_eq_true, Bool.and_eq_false_iff, Bool.or_eq_false_iff, Bool.not_eq_true', Bool.not_eq_false', Bool.not_eq_true, Bool.not_eq_false] at hq); exact ⟨hp, (show InR .i64 ((i : Int) + 2) from (inR64 (by first | omega | (simp only [tail_iff, tail_neg, e1, e2, e3] at * <;> omega)) (by first | omega | (simp only [tail_iff, tail_neg, e1, e2, e3] at * <;> omega))))⟩), (fun hp => by have hq := hp; (try simp only [decide_eq_true_eq, decide_eq_false_iff_not, Bool.and_eq_true, Bool.or_eq_true, Bool.and_eq_false_iff, Bool.or_eq_false_iff, Bool.not_eq_true', Bool.not_eq_false', Bool.not_eq_true, Bool.not_eq_false] at hq); exact ⟨hp, hp, (tail_c s ((i : Int) + 2) (by omega))⟩), (fun hp2 => (by first | exact hp2 | exact ⟨hp, hp2⟩)), (fun _ => trivial), (fun _ => trivial), (fun hp => by have hq := hp; (try simp only [decide_eq_true_eq, decide_eq_false_iff_not, Bool.and_eq_true, Bool.or_eq_true, Bool.and_eq_false_iff, Bool.or_eq_false_iff, Bool.not_eq_true', Bool.not_eq_false', Bool.not_eq_true, Bool.not_eq_false] at hq); exact ⟨hp, (show InR .i64 ((i : Int) + 3) from (inR64 (by first | omega | (simp only [tail_iff, tail_neg, e1, e2, e3] at * <;> omega)) (by first | omega | (simp only [tail_iff, tail_neg, e1, e2, e3] at * <;> omega))))⟩), (fun hp => by have hq := hp; (try simp only [decide_eq_true_eq, decide_eq_false_iff_not, Bool.and_eq_true, Bool.or_eq_true, Bool.and_eq_false_iff, Bool.or_eq_false_iff, Bool.not_eq_true', Bool.not_eq_false', Bool.not_eq_true, Bool.not_eq_false] at hq); exact ⟨hp, hp, (tail_c s ((i : Int) + 3) (by omega))⟩), (fun hp2 => (by first | exact hp2 | exact ⟨hp, hp2⟩))⟩ ?_
     refine gB ((((((decide (240 ≤ ((List.getD s i 0).toNat : Int))) && (decide (((List.getD s i 0).toNat : Int) < 248))) && (tailS s ((i : Int) + 1))) && (tailS s ((i : Int) + 2))) && (tailS s ((i : Int) + 3)))) (fun hc8 => ?_) fun hc8 => ?_
     ·
      try simp only [xT, xF, xA, xB] at hc8
      refine gS [(6, CE.call [] [] (vc (i6 (((List.getD s ((i : Int) + 1).toNat 0).toNat : Int) - 128))) []), (12, CE.call [] [] (vc (i6 (((List.getD s ((i : Int) + 2).toNat 0).toNat : Int) - 128))) []), (18, CE.call [] [] (vc (i6 (((List.getD s ((i : Int) + 3).toNat 0).toNat : Int) - 128))) [])] [InR .i64 (((List.getD s i 0).toNat : Int) - 240), InR .i64 (262144 * (((List.getD s i 0).toNat : Int) - 240)), InR .i64 ((i : Int) + 1), Spec Tryz.prog 153 [tc (st s), tc (i6 ((i : Int) + 1))] (ofH []) (vc (i6 (((List.getD s ((i : Int) + 1).toNat 0).toNat : Int) - 128))) (ofH []), InR .i64 (4096 * (((List.getD s ((i : Int) + 1).toNat 0).toNat : Int) - 128)), InR .i64 ((262144 * (((List.getD s i 0).toNat : Int) - 240)) + (4096 * (((List.getD s ((i : Int) + 1).toNat 0).toNat : Int) - 128))), InR .i64 ((i : Int) + 2), Spec Tryz.prog 153 [tc (st s), tc (i6 ((i : Int) + 2))] (ofH []) (vc (i6 (((List.getD s ((i : Int) + 2).toNat 0).toNat : Int) - 128))) (ofH []), InR .i64 (64 * (((List.getD s ((i : Int) + 2).toNat 0).toNat : Int) - 128)), InR .i64 (((262144 * (((List.getD s i 0).toNat : Int) - 240)) + (4096 * (((List.getD s ((i : Int) + 1).toNat 0).toNat : Int) - 128))) + (64 * (((List.getD s ((i : Int) + 2).toNat 0).toNat : Int) - 128))), InR .i64 ((i : Int) + 3), Spec Tryz.prog 153 [tc (st s), tc (i6 ((i : Int) + 3))] (ofH []) (vc (i6 (((List.getD s ((i : Int) + 3).toNat 0).toNat : Int) - 128))) (ofH []), InR .i64 ((((262144 * (((List.getD s i 0).toNat : Int) - 240)) + (4096 * (((List.getD s ((i : Int) + 1).toNat 0).toNat : Int) - 128))) + (64 * (((List.getD s ((i : Int) + 2).toNat 0).toNat : Int) - 128))) + (((List.getD s ((i : Int) + 3).toNat 0).toNat : Int) - 128))] 134 [(9, vc (i6 ((((262144 * (((List.getD s i 0).toNat : Int) - 240)) + (4096 * (((List.getD s ((i : Int) + 1).toNat 0).toNat : Int) - 128))) + (64 * (((List.getD s ((i : Int) + 2).toNat 0).toNat : Int) - 128))) + (((List.getD s ((i : Int) + 3).toNat 0).toNat : Int) - 128))))] [] ⟨(show InR .i64 (((List.getD s i 0).toNat : Int) - 240) from (inR64 (by first | omega | (simp only [tail_iff, tail_neg, e1, e2, e3] at * <;> omega)) (by first | omega | (simp only [tail_iff, tail_neg, e1, e2, e3] at * <;> omega)))), (show InR .i64 (262144 * (((List.getD s i 0).toNat : Int) - 240)) from (inR64 (by first | omega | (simp only [tail_iff, tail_neg, e1, e2, e3] at * <;> omega)) (by first | omega | (simp only [tail_iff, tail_neg, e1, e2, e3] at * <;> omega)))), (show InR .i64 ((i : Int) + 1) from (inR64 (by first | omega | (simp only [tail_iff, tail_neg, e1, e2, e3] at * <;> omega)) (by first | omega | (simp only [tail_iff, tail_neg, e1, e2, e3] at * <;> omega)))), (low_c s ((i : Int) + 1) (by first | omega | (simp only [tail_iff, tail_neg, Bool.and_eq_true, decide_eq_true_eq] at * <;> omega))), (show InR .i64 (4096 * (((List.getD s ((i : Int) + 1).toNat 0).toNat : Int) - 128)) from (inR64 (by first | omega | (simp only [tail_iff, tail_neg, e1, e2, e3] at * <;> omega)) (by first | omega | (simp only [tail_iff, tail_neg, e1, e2, e3] at * <;> omega)))), (show InR .i64 ((262144 * (((List.getD s i 0).toNat : Int) - 240)) + (4096 * (((List.getD s ((i : Int) + 1).toNat 0).toNat : Int) - 128))) from (inR64 (by first | omega | (simp only [tail_iff, tail_neg, e1, e2, e3] at * <;> omega)) (by first | omega | (simp only [tail_iff, tail_neg, e1, e2, e3] at * <;> omega)))), (show InR .i64 ((i : Int) + 2) from (inR64 (by first | omega | (simp only [tail_iff, tail_neg, e1, e2, e3] at * <;> omega)) (by first | omega | (simp only [tail_iff, tail_neg, e1, e2, e3] at * <;> omega)))), (low_c s ((i : Int) + 2) (by first | omega | (simp only [tail_iff, tail_neg, Bool.and_eq_true, decide_eq_true_eq] at * <;> omega))), (show InR .i64 (64 * (((List.getD s ((i : Int) + 2).toNat 0).toNat : Int) - 128)) from (inR64 (by first | omega | (simp only [tail_iff, tail_neg, e1, e2, e3] at * <;> omega)) (by first | omega | (simp only [tail_iff, tail_neg, e1, e2, e3] at * <;> omega)))), (show InR .i64 (((262144 * (((List.getD s i 0).toNat : Int) - 240)) + (4096 * (((List.getD s ((i : Int) + 1).toNat 0).toNat : Int) - 128))) + (64 * (((List.getD s ((i : Int) + 2).toNat 0).toNat : Int) - 128))) from (inR64 (by first | omega | (simp only [tail_iff, tail_neg, e1, e2, e3] at * <;> omega)) (by first | omega | (simp only [tail_iff, tail_neg, e1, e2, e3] at * <;> omega)))), (show InR .i64 ((i : Int) + 3) from (inR64 (by first | omega | (simp only [tail_iff, tail_neg, e1, e2, e3] at * <;> omega)) (by first | omega | (simp only [tail_iff, tail_neg, e1, e2, e3] at * <;> omega)))), (low_c s ((i : Int) + 3) (by first | omega | (simp only [tail_iff, tail_neg, Bool.and_eq_true, decide_eq_true_eq] at * <;> omega))), (show InR .i64 ((((262144 * (((List.getD s i 0).toNat : Int) - 240)) + (4096 * (((List.getD s ((i : Int) + 1).toNat 0).toNat : Int) - 128))) + (64 * (((List.getD s ((i : Int) + 2).toNat 0).toNat : Int) - 128))) + (((List.getD s ((i : Int) + 3).toNat 0).toNat : Int) - 128)) from (inR64 (by first | omega | (simp only [tail_iff, tail_neg, e1, e2, e3] at * <;> omega)) (by first | omega | (simp only [tail_iff, tail_neg, e1, e2, e3] at * <;> omega))))⟩ ?_
      refine gS [] [((decide (65536 ≤ (((262144 * (((List.getD s i 0).toNat : Int) - 240)) + (4096 * (((List.getD s ((i : Int) + 1).toNat 0).toNat : Int) - 128))) + (64 * (((List.getD s ((i : Int) + 2).toNat 0).toNat : Int) - 128))) + (((List.getD s ((i : Int) + 3).toNat 0).toNat : Int) - 128))) = true) → allP [], ((decide (65536 ≤ (((262144 * (((List.getD s i 0).toNat : Int) - 240)) + (4096 * (((List.getD s ((i : Int) + 1).toNat 0).toNat : Int) - 128))) + (64 * (((List.getD s ((i : Int) + 2).toNat 0).toNat : Int) - 128))) + (((List.getD s ((i : Int) + 3).toNat 0).toNat : Int) - 128))) = true) → allP [(decide (65536 ≤ (((262144 * (((List.getD s i 0).toNat : Int) - 240)) + (4096 * (((List.getD s ((i : Int) + 1).toNat 0).toNat : Int) - 128))) + (64 * (((List.getD s ((i : Int) + 2).toNat 0).toNat : Int) - 128))) + (((List.getD s ((i : Int) + 3).toNat 0).toNat : Int) - 128))) = true], (decide (65536 ≤ (((262144 * (((List.getD s i 0).toNat : Int) - 240)) + (4096 * (((List.getD s ((i : Int) + 1).toNat 0).toNat : Int) - 128))) + (64 * (((List.getD s ((i : Int) + 2).toNat 0).toNat : Int) - 128))) + (((List.getD s ((i : Int) + 3).toNat 0).toNat : Int) - 128))) = true → allP [(decide (65536 ≤ (((262144 * (((List.getD s i 0).toNat : Int) - 240)) + (4096 * (((List.getD s ((i : Int) + 1).toNat 0).toNat : Int) - 128))) + (64 * (((List.getD s ((i : Int) + 2).toNat 0).toNat : Int) - 128))) + (((List.getD s ((i : Int) + 3).toNat 0).toNat : Int) - 128))) = true]] 134 [(9, vc (i6 ((((262144 * (((List.getD s i 0).toNat : Int) - 240)) + (4096 * (((List.getD s ((i : Int) + 1).toNat 0).toNat : Int) - 128))) + (64 * (((List.getD s ((i : Int) + 2).toNat 0).toNat : Int) - 128))) + (((List.getD s ((i : Int) + 3).toNat 0).toNat : Int) - 128)))), (132, vc (bo ((decide (65536 ≤ (((262144 * (((List.getD s i 0).toNat : Int) - 240)) + (4096 * (((List.getD s ((i : Int) + 1).toNat 0).toNat : Int) - 128))) + (64 * (((List.getD s ((i : Int) + 2).toNat 0).toNat : Int) - 128))) + (((List.getD s ((i : Int) + 3).toNat 0).toNat : Int) - 128))) && (decide ((((262144 * (((List.getD s i 0).toNat : Int) - 240)) + (4096 * (((List.getD s ((i : Int) + 1).toNat 0).toNat : Int) - 128))) + (64 * (((List.getD s ((i : Int) + 2).toNat 0).toNat : Int) - 128))) + (((List.getD s ((i : Int) + 3).toNat 0).toNat : Int) - 128) ≤ 1114111)))))] [] ⟨(fun _ => trivial), (fun hp => hp), (fun hp2 => (by first | exact hp2 | exact ⟨hp, hp2⟩))⟩ ?_
      refine gB (((decide (65536 ≤ (((262144 * (((List.getD s i 0).toNat : Int) - 240)) + (4096 * (((List.getD s ((i : Int) + 1).toNat 0).toNat : Int) - 128))) + (64 * (((List.getD s ((i : Int) + 2).toNat 0).toNat : Int) - 128))) + (((List.getD s ((i : Int) + 3).toNat 0).toNat : Int) - 128))) && (decide ((((262144 * (((List.getD s i 0).toNat : Int) - 240)) + (4096 * (((List.getD s ((i : Int) + 1).toNat 0).toNat : Int) - 128))) + (64 * (((List.getD s ((i : Int) + 2).toNat 0).toNat : Int) - 128))) + (((List.getD s ((i : Int) + 3).toNat 0).toNat : Int) - 128) ≤ 1114111)))) (fun hc9 => ?_) fun hc9 => ?_
      ·
       try simp only [xT, xF, xA, xB] at hc9
       refine gS [] [] 134 [(4, vc (i6 ((((262144 * (((List.getD s i 0).toNat : Int) - 240)) + (4096 * (((List.getD s ((i : Int) + 1).toNat 0).toNat : Int) - 128))) + (64 * (((List.getD s ((i : Int) + 2).toNat 0).toNat : Int) - 128))) + (((List.getD s ((i : Int) + 3).toNat 0).toNat : Int) - 128)))), (5, vc (i6 4))] [] trivial ?_
       exact gT (AV.tup [tc (i6 ((((262144 * (((List.getD s i 0).toNat : Int) - 240)) + (4096 * (((List.getD s ((i : Int) + 1).toNat 0).toNat : Int) - 128))) + (64 * (((List.getD s ((i : Int) + 2).toNat 0).toNat : Int) - 128))) + (((List.getD s ((i : Int) + 3).toNat 0).toNat : Int) - 128))), tc (i6 4)]) (by rw [show (nextS s i) = ((((262144 * (((List.getD s i 0).toNat : Int) - 240)) + (4096 * (((List.getD s ((i : Int) + 1).toNat 0).toNat : Int) - 128))) + (64 * (((List.getD s ((i : Int) + 2).toNat 0).toNat : Int) - 128))) + (((List.getD s ((i : Int) + 3).toNat 0).toNat : Int) - 128), 4) from by simp only [tail_iff, tail_neg, e1, e2, e3, Bool.and_eq_true, decide_eq_true_eq] at *; first | (exfalso; omega) | (rw [next_1 (by omega)]; done) | (rw [next_2 rfl rfl (by omega) (by omega) (by omega)] <;> exact Prod.ext (by simp only []; omega) rfl) | (rw [next_3 rfl rfl rfl (by omega) (by omega) (by omega) (by omega) (by omega)] <;> exact Prod.ext (by simp only []; omega) rfl) | (rw [next_4 rfl rfl rfl rfl (by omega) (by omega) (by omega) (by omega) (by omega) (by omega)] <;> exact Prod.ext (by simp only []; omega) rfl) | (exact next_bad hi rfl rfl rfl rfl b0 b1 b2 b3 (by omega) (by omega) (by omega) (by omega))])
      ·
       try simp only [xT, xF, xA, xB] at hc9
       refine AMx.skip ?_
       refine gS [] [] 134 [(4, vc (i6 (-1))), (5, vc (i6 1))] [] trivial ?_
       exact gT (AV.tup [tc (i6 (-1)), tc (i6 1)]) (by rw [show (nextS s i) = ((-1), 1) from by simp only [tail_iff, tail_neg, e1, e2, e3, Bool.and_eq_true, decide_eq_true_eq] at *; first | (exfalso; omega) | (rw [next_1 (by omega)]; done) | (rw [next_2 rfl rfl (by omega) (by omega) (by omega)] <;> exact Prod.ext (by simp only []; omega) rfl) | (rw [next_3 rfl rfl rfl (by omega) (by omega) (by omega) (by omega) (by omega)] <;> exact Prod.ext (by simp only []; omega) rfl) | (rw [next_4 rfl rfl rfl rfl (by omega) (by omega) (by omega) (by omega) (by omega) (by omega)] <;> exact Prod.ext (by simp only []; omega) rfl) | (exact next_bad hi rfl rfl rfl rfl b0 b1 b2 b3 (by omega) (by omega) (by omega) (by omega))])
     ·
      try simp only [xT, xF, xA, xB] at hc8
      refine AMx.skip ?_
      refine gS [] [] 134 [(4, vc (i6 (-1))), (5, vc (i6 1))] [] trivial ?_
      exact gT (AV.tup [tc (i6 (-1)), tc (i6 1)]) (by rw [show (nextS s i) = ((-1), 1) from by simp only [tail_iff, tail_neg, e1, e2, e3, Bool.and_eq_true, decide_eq_true_eq] at *; first | (exfalso; omega) | (rw [next_1 (by omega)]; done) | (rw [next_2 rfl rfl (by omega) (by omega) (by omega)] <;> exact Prod.ext (by simp only []; omega) rfl) | (rw [next_3 rfl rfl rfl (by omega) (by omega) (by omega) (by omega) (by omega)] <;> exact Prod.ext (by simp only []; omega) rfl) | (rw [next_4 rfl rfl rfl rfl (by omega) (by omega) (by omega) (by omega) (by omega) (by omega)] <;> exact Prod.ext (by simp only []; omega) rfl) | (exact next_bad hi rfl rfl rfl rfl b0 b1 b2 b3 (by omega) (by omega) (by omega) (by omega))])
  ·
   try simp only [xT, xF, xA, xB] at hc2
   refine AMx.skip ?_
   refine gQ ?_
   refine gS [(10, CE.call [] [] (vc (bo (tailS s ((i : Int) + 1)))) []), (16, CE.call [] [] (vc (bo (tailS s ((i : Int) + 2)))) [])] [((decide (224 ≤ ((List.getD s i 0).toNat : Int))) = true) → allP [], ((decide (224 ≤ ((List.getD s i 0).toNat : Int))) = true) → allP [(decide (224 ≤ ((List.getD s i 0).toNat : Int))) = true], (decide (224 ≤ ((List.getD s i 0).toNat : Int))) = true → allP [(decide (224 ≤ ((List.getD s i 0).toNat : Int))) = true], (((decide (224 ≤ ((List.getD s i 0).toNat : Int))) && (decide (((List.getD s i 0).toNat : Int) < 240))) = true) → allP [], (((decide (224 ≤ ((List.getD s i 0).toNat : Int))) && (decide (((List.getD s i 0).toNat : Int) < 240))) = true) → allP [], (((decide (224 ≤ ((List.getD s i 0).toNat : Int))) && (decide (((List.getD s i 0).toNat : Int) < 240))) = true) → allP [((decide (224 ≤ ((List.getD s i 0).toNat : Int))) && (decide (((List.getD s i 0).toNat : Int) < 240))) = true, InR .i64 ((i : Int) + 1)], (((decide (224 ≤ ((List.getD s i 0).toNat : Int))) && (decide (((List.getD s i 0).toNat : Int) < 240))) = true) → allP [((decide (224 ≤ ((List.getD s i 0).toNat : Int))) && (decide (((List.getD s i 0).toNat : Int) < 240))) = true, ((decide (224 ≤ ((List.getD s i 0).toNat : Int))) && (decide (((List.getD s i 0).toNat : Int) < 240))) = true, Spec Tryz.prog 152 [tc (st s), tc (i6 ((i : Int) + 1))] (ofH []) (vc (bo (tailS s ((i : Int) + 1)))) (ofH [])], ((decide (224 ≤ ((List.getD s i 0).toNat : Int))) && (decide (((List.getD s i 0).toNat : Int) < 240))) = true → allP [((decide (224 ≤ ((List.getD s i 0).toNat : Int))) && (decide (((List.getD s i 0).toNat : Int) < 240))) = true], ((((decide (224 ≤ ((List.getD s i 0).toNat : Int))) && (decide (((List.getD s i 0).toNat : Int) < 240))) && (tailS s ((i : Int) + 1))) = true) → allP [], ((((decide (224 ≤ ((List.getD s i 0).toNat : Int))) && (decide (((List.getD s i 0).toNat : Int) < 240))) && (tailS s ((i : Int) + 1))) = true) → allP [], ((((decide (224 ≤ ((List.getD s i 0).toNat : Int))) && (decide (((List.getD s i 0).toNat : Int) < 240))) && (tailS s ((i : Int) + 1))) = true) → allP [(((decide (224 ≤ ((List.getD s i 0).toNat : Int))) && (decide (((List.getD s i 0).toNat : Int) < 240))) && (tailS s ((i : Int) + 1))) = true, InR .i64 ((i : Int) + 2)], ((((decide (224 ≤ ((List.getD s i 0).toNat : Int))) && (decide (((List.getD s i 0).toNat : Int) < 240))) && (tailS s ((i : Int) + 1))) = true) → allP [(((decide (224 ≤ ((List.getD s i 0).toNat : Int))) && (decide (((List.getD s i 0).toNat : Int) < 240))) && (tailS s ((i : Int) + 1))) = true, (((decide (224 ≤ ((List.getD s i 0).toNat : Int))) && (decide (((List.getD s i 0).toNat : Int) < 240))) && (tailS s ((i : Int) + 1))) = true, Spec Tryz.prog 152 [tc (st s), tc (i6 ((i : Int) + 2))] (ofH []) (vc (bo (tailS s ((i : Int) + 2)))) (ofH [])], (((decide (224 ≤ ((List.getD s i 0).toNat : Int))) && (decide (((List.getD s i 0).toNat : Int) < 240))) && (tailS s ((i : Int) + 1))) = true → allP [(((decide (224 ≤ ((List.getD s i 0).toNat : Int))) && (decide (((List.getD s i 0).toNat : Int) < 240))) && (tailS s ((i : Int) + 1))) = true]] 134 [(0, vc (st s)), (1, vc (i6 (i : Int))), (6, vc (i6 ((List.getD s i 0).toNat : Int))), (57, vc (bo ((((decide (224 ≤ ((List.getD s i 0).toNat : Int))) && (decide (((List.getD s i 0).toNat : Int) < 240))) && (tailS s ((i : Int) + 1))) && (tailS s ((i : Int) + 2)))))] [] ⟨(fun _ => trivial), (fun hp => hp), (fun hp2 => (by first | exact hp2 | exact ⟨hp, hp2⟩)), (fun _ => trivial), (fun _ => trivial), (fun hp => by have hq := hp; (try simp only [decide_eq_true_eq, decide_eq_false_iff_not, Bool.and_eq_true, Bool.or_eq_true, Bool.and_eq_false_iff, Bool.or_eq_false_iff, Bool.not_eq_true', Bool.not_eq_false', Bool.not_eq_true, Bool.not_eq_false] at hq); exact ⟨hp, (show InR .i64 ((i : Int) + 1) from (inR64 (by first | omega | (simp only [tail_iff, tail_neg, e1, e2, e3] at * <;> omega)) (by first | omega | (simp only [tail_iff, tail_neg, e1, e2, e3] at * <;> omega))))⟩), (fun hp => by have hq := hp; (try simp only [decide_eq_true_eq, decide_eq_false_iff_not, Bool.and_eq_true, Bool.or_eq_true, Bool.and_eq_false_iff, Bool.or_eq_false_iff, Bool.not_eq_true', Bool.not_eq_false', Bool.not_eq_true, Bool.not_eq_false] at hq); exact ⟨hp, hp, (tail_c s ((i : Int) + 1) (by omega))⟩), (fun hp2 => (by first | exact hp2 | exact ⟨hp, hp2⟩)), (fun _ => trivial), (fun _ => trivial), (fun hp => by have hq := hp; (try simp only [decide_eq_true_eq, decide_eq_false_iff_not, Bool.and_eq_true, Bool.or_eq_true, Bool.and_eq_false_iff, Bool.or_eq_false_iff, Bool.not_eq_true', Bool.not_eq_false', Bool.not_eq_true, Bool.not_eq_false] at hq); exact ⟨hp, (show InR .i64 ((i : Int) + 2) from (inR64 (by first | omega | (simp only [tail_iff, tail_neg, e1, e2, e3] at * <;> omega)) (by first | omega | (simp only [tail_iff, tail_neg, e1, e2, e3] at * <;> omega))))⟩), (fun hp => by have hq := hp; (try simp only [decide_eq_true_eq, decide_eq_false_iff_not, Bool.and_eq_true, Bool.or_eq_true, Bool.and_eq_false_iff, Bool.or_eq_false_iff, Bool.not_eq_true', Bool.not_eq_false', Bool.not_eq_true, Bool.not_eq_false] at hq); exact ⟨hp, hp, (tail_c s ((i : Int) + 2) (by omega))⟩), (fun hp2 => (by first | exact hp2 | exact ⟨hp, hp2⟩))⟩ ?_
   refine gB (((((decide (224 ≤ ((List.getD s i 0).toNat : Int))) && (decide (((List.getD s i 0).toNat : Int) < 240))) && (tailS s ((i : Int) + 1))) && (tailS s ((i : Int) + 2)))) (fun hc10 => ?_) fun hc10 => ?_
   ·
    try simp only [xT, xF, xA, xB] at hc10
    refine gS [(6, CE.call [] [] (vc (i6 (((List.getD s ((i : Int) + 1).toNat 0).toNat : Int) - 128))) []), (12, CE.call [] [] (vc (i6 (((List.getD s ((i : Int) + 2).toNat 0).toNat : Int) - 128))) [])] [InR .i64 (((List.getD s i 0).toNat : Int) - 224), InR .i64 (4096 * (((List.getD s i 0).toNat : Int) - 224)), InR .i64 ((i : Int) + 1), Spec Tryz.prog 153 [tc (st s), tc (i6 ((i : Int) + 1))] (ofH []) (vc (i6 (((List.getD s ((i : Int) + 1).toNat 0).toNat : Int) - 128))) (ofH []), InR .i64 (64 * (((List.getD s ((i : Int) + 1).toNat 0).toNat : Int) - 128)), InR .i64 ((4096 * (((List.getD s i 0).toNat : Int) - 224)) + (64 * (((List.getD s ((i : Int) + 1).toNat 0).toNat : Int) - 128))), InR .i64 ((i : Int) + 2), Spec Tryz.prog 153 [tc (st s), tc (i6 ((i : Int) + 2))] (ofH []) (vc (i6 (((List.getD s ((i : Int) + 2).toNat 0).toNat : Int) - 128))) (ofH []), InR .i64 (((4096 * (((List.getD s i 0).toNat : Int) - 224)) + (64 * (((List.getD s ((i : Int) + 1).toNat 0).toNat : Int) - 128))) + (((List.getD s ((i : Int) + 2).toNat 0).toNat : Int) - 128))] 134 [(0, vc (st s)), (1, vc (i6 (i : Int))), (6, vc (i6 ((List.getD s i 0).toNat : Int))), (8, vc (i6 (((4096 * (((List.getD s i 0).toNat : Int) - 224)) + (64 * (((List.getD s ((i : Int) + 1).toNat 0).toNat : Int) - 128))) + (((List.getD s ((i : Int) + 2).toNat 0).toNat : Int) - 128))))] [] ⟨(show InR .i64 (((List.getD s i 0).toNat : Int) - 224) from (inR64 (by first | omega | (simp only [tail_iff, tail_neg, e1, e2, e3] at * <;> omega)) (by first | omega | (simp only [tail_iff, tail_neg, e1, e2, e3] at * <;> omega)))), (show InR .i64 (4096 * (((List.getD s i 0).toNat : Int) - 224)) from (inR64 (by first | omega | (simp only [tail_iff, tail_neg, e1, e2, e3] at * <;> omega)) (by first | omega | (simp only [tail_iff, tail_neg, e1, e2, e3] at * <;> omega)))), (show InR .i64 ((i : Int) + 1) from (inR64 (by first | omega | (simp only [tail_iff, tail_neg, e1, e2, e3] at * <;> omega)) (by first | omega | (simp only [tail_iff, tail_neg, e1, e2, e3] at * <;> omega)))), (low_c s ((i : Int) + 1) (by first | omega | (simp only [tail_iff, tail_neg, Bool.and_eq_true, decide_eq_true_eq] at * <;> omega))), (show InR .i64 (64 * (((List.getD s ((i : Int) + 1).toNat 0).toNat : Int) - 128)) from (inR64 (by first | omega | (simp only [tail_iff, tail_neg, e1, e2, e3] at * <;> omega)) (by first | omega | (simp only [tail_iff, tail_neg, e1, e2, e3] at * <;> omega)))), (show InR .i64 ((4096 * (((List.getD s i 0).toNat : Int) - 224)) + (64 * (((List.getD s ((i : Int) + 1).toNat 0).toNat : Int) - 128))) from (inR64 (by first | omega | (simp only [tail_iff, tail_neg, e1, e2, e3] at * <;> omega)) (by first | omega | (simp only [tail_iff, tail_neg, e1, e2, e3] at * <;> omega)))), (show InR .i64 ((i : Int) + 2) from (inR64 (by first | omega | (simp only [tail_iff, tail_neg, e1, e2, e3] at * <;> omega)) (by first | omega | (simp only [tail_iff, tail_neg, e1, e2, e3] at * <;> omega)))), (low_c s ((i : Int) + 2) (by first | omega | (simp only [tail_iff, tail_neg, Bool.and_eq_true, decide_eq_true_eq] at * <;> omega))), (show InR .i64 (((4096 * (((List.getD s i 0).toNat : Int) - 224)) + (64 * (((List.getD s ((i : Int) + 1).toNat 0).toNat : Int) - 128))) + (((List.getD s ((i : Int) + 2).toNat 0).toNat : Int) - 128)) from (inR64 (by first | omega | (simp only [tail_iff, tail_neg, e1, e2, e3] at * <;> omega)) (by first | omega | (simp only [tail_iff, tail_neg, e1, e2, e3] at * <;> omega))))⟩ ?_
    refine gS [] [((decide (2048 ≤ ((4096 * (((List.getD s i 0).toNat : Int) - 224)) + (64 * (((List.getD s ((i : Int) + 1).toNat 0).toNat : Int) - 128))) + (((List.getD s ((i : Int) + 2).toNat 0).toNat : Int) - 128))) = true) → allP [], ((decide (2048 ≤ ((4096 * (((List.getD s i 0).toNat : Int) - 224)) + (64 * (((List.getD s ((i : Int) + 1).toNat 0).toNat : Int) - 128))) + (((List.getD s ((i : Int) + 2).toNat 0).toNat : Int) - 128))) = true) → allP [(decide (2048 ≤ ((4096 * (((List.getD s i 0).toNat : Int) - 224)) + (64 * (((List.getD s ((i : Int) + 1).toNat 0).toNat : Int) - 128))) + (((List.getD s ((i : Int) + 2).toNat 0).toNat : Int) - 128))) = true], ((decide (2048 ≤ ((4096 * (((List.getD s i 0).toNat : Int) - 224)) + (64 * (((List.getD s ((i : Int) + 1).toNat 0).toNat : Int) - 128))) + (((List.getD s ((i : Int) + 2).toNat 0).toNat : Int) - 128))) = true) → allP [(decide (2048 ≤ ((4096 * (((List.getD s i 0).toNat : Int) - 224)) + (64 * (((List.getD s ((i : Int) + 1).toNat 0).toNat : Int) - 128))) + (((List.getD s ((i : Int) + 2).toNat 0).toNat : Int) - 128))) = true], (((decide (2048 ≤ ((4096 * (((List.getD s i 0).toNat : Int) - 224)) + (64 * (((List.getD s ((i : Int) + 1).toNat 0).toNat : Int) - 128))) + (((List.getD s ((i : Int) + 2).toNat 0).toNat : Int) - 128))) = true) ∧ (decide (((4096 * (((List.getD s i 0).toNat : Int) - 224)) + (64 * (((List.getD s ((i : Int) + 1).toNat 0).toNat : Int) - 128))) + (((List.getD s ((i : Int) + 2).toNat 0).toNat : Int) - 128) < 55296)) = false) → allP [], (((decide (2048 ≤ ((4096 * (((List.getD s i 0).toNat : Int) - 224)) + (64 * (((List.getD s ((i : Int) + 1).toNat 0).toNat : Int) - 128))) + (((List.getD s ((i : Int) + 2).toNat 0).toNat : Int) - 128))) = true) ∧ (decide (((4096 * (((List.getD s i 0).toNat : Int) - 224)) + (64 * (((List.getD s ((i : Int) + 1).toNat 0).toNat : Int) - 128))) + (((List.getD s ((i : Int) + 2).toNat 0).toNat : Int) - 128) < 55296)) = false) → allP [((decide (2048 ≤ ((4096 * (((List.getD s i 0).toNat : Int) - 224)) + (64 * (((List.getD s ((i : Int) + 1).toNat 0).toNat : Int) - 128))) + (((List.getD s ((i : Int) + 2).toNat 0).toNat : Int) - 128))) = true) ∧ (decide (((4096 * (((List.getD s i 0).toNat : Int) - 224)) + (64 * (((List.getD s ((i : Int) + 1).toNat 0).toNat : Int) - 128))) + (((List.getD s ((i : Int) + 2).toNat 0).toNat : Int) - 128) < 55296)) = false], ((decide (2048 ≤ ((4096 * (((List.getD s i 0).toNat : Int) - 224)) + (64 * (((List.getD s ((i : Int) + 1).toNat 0).toNat : Int) - 128))) + (((List.getD s ((i : Int) + 2).toNat 0).toNat : Int) - 128))) = true) → allP [(decide (2048 ≤ ((4096 * (((List.getD s i 0).toNat : Int) - 224)) + (64 * (((List.getD s ((i : Int) + 1).toNat 0).toNat : Int) - 128))) + (((List.getD s ((i : Int) + 2).toNat 0).toNat : Int) - 128))) = true, (decide (((4096 * (((List.getD s i 0).toNat : Int) - 224)) + (64 * (((List.getD s ((i : Int) + 1).toNat 0).toNat : Int) - 128))) + (((List.getD s ((i : Int) + 2).toNat 0).toNat : Int) - 128) < 55296)) = false → allP [((decide (2048 ≤ ((4096 * (((List.getD s i 0).toNat : Int) - 224)) + (64 * (((List.getD s ((i : Int) + 1).toNat 0).toNat : Int) - 128))) + (((List.getD s ((i : Int) + 2).toNat 0).toNat : Int) - 128))) = true) ∧ (decide (((4096 * (((List.getD s i 0).toNat : Int) - 224)) + (64 * (((List.getD s ((i : Int) + 1).toNat 0).toNat : Int) - 128))) + (((List.getD s ((i : Int) + 2).toNat 0).toNat : Int) - 128) < 55296)) = false]], (decide (2048 ≤ ((4096 * (((List.getD s i 0).toNat : Int) - 224)) + (64 * (((List.getD s ((i : Int) + 1).toNat 0).toNat : Int) - 128))) + (((List.getD s ((i : Int) + 2).toNat 0).toNat : Int) - 128))) = true → allP [(decide (2048 ≤ ((4096 * (((List.getD s i 0).toNat : Int) - 224)) + (64 * (((List.getD s ((i : Int) + 1).toNat 0).toNat : Int) - 128))) + (((List.getD s ((i : Int) + 2).toNat 0).toNat : Int) - 128))) = true]] 134 [(0, vc (st s)), (1, vc (i6 (i : Int))), (6, vc (i6 ((List.getD s i 0).toNat : Int))), (8, vc (i6 (((4096 * (((List.getD s i 0).toNat : Int) - 224)) + (64 * (((List.getD s ((i : Int) + 1).toNat 0).toNat : Int) - 128))) + (((List.getD s ((i : Int) + 2).toNat 0).toNat : Int) - 128)))), (81, vc (bo ((decide (2048 ≤ ((4096 * (((List.getD s i 0).toNat : Int) - 224)) + (64 * (((List.getD s ((i : Int) + 1).toNat 0).toNat : Int) - 128))) + (((List.getD s ((i : Int) + 2).toNat 0).toNat : Int) - 128))) && ((decide (((4096 * (((List.getD s i 0).toNat : Int) - 224)) + (64 * (((List.getD s ((i : Int) + 1).toNat 0).toNat : Int) - 128))) + (((List.getD s ((i : Int) + 2).toNat 0).toNat : Int) - 128) < 55296)) || (decide (57343 < ((4096 * (((List.getD s i 0).toNat : Int) - 224)) + (64 * (((List.getD s ((i : Int) + 1).toNat 0).toNat : Int) - 128))) + (((List.getD s ((i : Int) + 2).toNat 0).toNat : Int) - 128)))))))] [] ⟨(fun _ => trivial), (fun hp => hp), (fun hp => hp), (fun _ => trivial), (fun hp => hp), (fun hp => by have hq := hp; (try simp only [decide_eq_true_eq, decide_eq_false_iff_not, Bool.and_eq_true, Bool.or_eq_true, Bool.and_eq_false_iff, Bool.or_eq_false_iff, Bool.not_eq_true', Bool.not_eq_false', Bool.not_eq_true, Bool.not_eq_false] at hq); exact ⟨hp, (fun hp2 => (by first | exact hp2 | exact ⟨hp, hp2⟩))⟩), (fun hp2 => (by first | exact hp2 | exact ⟨hp, hp2⟩))⟩ ?_
    refine gB (((decide (2048 ≤ ((4096 * (((List.getD s i 0).toNat : Int) - 224)) + (64 * (((List.getD s ((i : Int) + 1).toNat 0).toNat : Int) - 128))) + (((List.getD s ((i : Int) + 2).toNat 0).toNat : Int) - 128))) && ((decide (((4096 * (((List.getD s i 0).toNat : Int) - 224)) + (64 * (((List.getD s ((i : Int) + 1).toNat 0).toNat : Int) - 128))) + (((List.getD s ((i : Int) + 2).toNat 0).toNat : Int) - 128) < 55296)) || (decide (57343 < ((4096 * (((List.getD s i 0).toNat : Int) - 224)) + (64 * (((List.getD s ((i : Int) + 1).toNat 0).toNat : Int) - 128))) + (((List.getD s ((i : Int) + 2).toNat 0).toNat : Int) - 128)))))) (fun hc11 => ?_) fun hc11 => ?_
    ·
     try simp only [xT, xF, xA, xB, xO, xP] at hc11
     refine gS [] [] 134 [(4, vc (i6 (((4096 * (((List.getD s i 0).toNat : Int) - 224)) + (64 * (((List.getD s ((i : Int) + 1).toNat 0).toNat : Int) - 128))) + (((List.getD s ((i : Int) + 2).toNat 0).toNat : Int) - 128)))), (5, vc (i6 3))] [] trivial ?_
     exact gT (AV.tup [tc (i6 (((4096 * (((List.getD s i 0).toNat : Int) - 224)) + (64 * (((List.getD s ((i : Int) + 1).toNat 0).toNat : Int) - 128))) + (((List.getD s ((i : Int) + 2).toNat 0).toNat : Int) - 128))), tc (i6 3)]) (by rw [show (nextS s i) = (((4096 * (((List.getD s i 0).toNat : Int) - 224)) + (64 * (((List.getD s ((i : Int) + 1).toNat 0).toNat : Int) - 128))) + (((List.getD s ((i : Int) + 2).toNat 0).toNat : Int) - 128), 3) from by simp only [tail_iff, tail_neg, e1, e2, e3, Bool.and_eq_true, decide_eq_true_eq] at *; first | (exfalso; omega) | (rw [next_1 (by omega)]; done) | (rw [next_2 rfl rfl (by omega) (by omega) (by omega)] <;> exact Prod.ext (by simp only []; omega) rfl) | (rw [next_3 rfl rfl rfl (by omega) (by omega) (by omega) (by omega) (by omega)] <;> exact Prod.ext (by simp only []; omega) rfl) | (rw [next_4 rfl rfl rfl rfl (by omega) (by omega) (by omega) (by omega) (by omega) (by omega)] <;> exact Prod.ext (by simp only []; omega) rfl) | (exact next_bad hi rfl rfl rfl rfl b0 b1 b2 b3 (by omega) (by omega) (by omega) (by omega))])
    ·
     try simp only [xT, xF, xA, xB, xO, xP] at hc11
     refine AMx.skip ?_
     refine gQ ?_
     refine gS [(10, CE.call [] [] (vc (bo (tailS s ((i : Int) + 1)))) []), (16, CE.call [] [] (vc (bo (tailS s ((i : Int) + 2)))) []), (22, CE.call [] [] (vc (bo (tailS s ((i : Int) + 3)))) [])] [((decide (240 ≤ ((List.getD s i 0).toNat : Int))) = true) → allP [], ((decide (240 ≤ ((List.getD s i 0).toNat : Int))) = true) → allP [(decide (240 ≤ ((List.getD s i 0).toNat : Int))) = true], (decide (240 ≤ ((List.getD s i 0).toNat : Int))) = true → allP [(decide (240 ≤ ((List.getD s i 0).toNat : Int))) = true], (((decide (240 ≤ ((List.getD s i 0).toNat : Int))) && (decide (((List.getD s i 0).toNat : Int) < 248))) = true) → allP [], (((decide (240 ≤ ((List.getD s i 0).toNat : Int))) && (decide (((List.getD s i 0).toNat : Int) < 248))) = true) → allP [], (((decide (240 ≤ ((List.getD s i 0).toNat : Int))) && (decide (((List.getD s i 0).toNat : Int) < 248))) = true) → allP [((decide (240 ≤ ((List.getD s i 0).toNat : Int))) && (decide (((List.getD s i 0).toNat : Int) < 248))) = true, InR .i64 ((i : Int) + 1)], (((decide (240 ≤ ((List.getD s i 0).toNat : Int))) && (decide (((List.getD s i 0).toNat : Int) < 248))) = true) → allP [((decide (240 ≤ ((List.getD s i 0).toNat : Int))) && (decide (((List.getD s i 0).toNat : Int) < 248))) = true, ((decide (240 ≤ ((List.getD s i 0).toNat : Int))) && (decide (((List.getD s i 0).toNat : Int) < 248))) = true, Spec Tryz.prog 152 [tc (st s), tc (i6 ((i : Int) + 1))] (ofH []) (vc (bo (tailS s ((i : Int) + 1)))) (ofH [])], ((decide (240 ≤ ((List.getD s i 0).toNat : Int))) && (decide (((List.getD s i 0).toNat : Int) < 248))) = true → allP [((decide (240 ≤ ((List.getD s i 0).toNat : Int))) && (decide (((List.getD s i 0).toNat : Int) < 248))) = true], ((((decide (240 ≤ ((List.getD s i 0).toNat : Int))) && (decide (((List.getD s i 0).toNat : Int) < 248))) && (tailS s ((i : Int) + 1))) = true) → allP [], ((((decide (240 ≤ ((List.getD s i 0).toNat : Int))) && (decide (((List.getD s i 0).toNat : Int) < 248))) && (tailS s ((i : Int) + 1))) = true) → allP [], ((((decide (240 ≤ ((List.getD s i 0).toNat : Int))) && (decide (((List.getD s i 0).toNat : Int) < 248))) && (tailS s ((i : Int) + 1))) = true) → allP [(((decide (240 ≤ ((List.getD s i 0).toNat : Int))) && (decide (((List.getD s i 0).toNat : Int) < 248))) && (tailS s ((i : Int) + 1))) = true, InR .i64 ((i : Int) + 2)], ((((decide (240 ≤ ((List.getD s i 0).toNat : Int))) && (decide (((List.getD s i 0).toNat : Int) < 248))) && (tailS s ((i : Int) + 1))) = true) → allP [(((decide (240 ≤ ((List.getD s i 0).toNat : Int))) && (decide (((List.getD s i 0).toNat : Int) < 248))) && (tailS s ((i : Int) + 1))) = true, (((decide (240 ≤ ((List.getD s i 0).toNat : Int))) && (decide (((List.getD s i 0).toNat : Int) < 248))) && (tailS s ((i : Int) + 1))) = true, Spec Tryz.prog 152 [tc (st s), tc (i6 ((i : Int) + 2))] (ofH []) (vc (bo (tailS s ((i : Int) + 2)))) (ofH [])], (((decide (240 ≤ ((List.getD s i 0).toNat : Int))) && (decide (((List.getD s i 0).toNat : Int) < 248))) && (tailS s ((i : Int) + 1))) = true → allP [(((decide (240 ≤ ((List.getD s i 0).toNat : Int))) && (decide (((List.getD s i 0).toNat : Int) < 248))) && (tailS s ((i : Int) + 1))) = true], (((((decide (240 ≤ ((List.getD s i 0).toNat : Int))) && (decide (((List.getD s i 0).toNat : Int) < 248))) && (tailS s ((i : Int) + 1))) && (tailS s ((i : Int) + 2))) = true) → allP [], (((((decide (240 ≤ ((List.getD s i 0).toNat : Int))) && (decide (((List.getD s i 0).toNat : Int) < 248))) && (tailS s ((i : Int) + 1))) && (tailS s ((i : Int) + 2))) = true) → allP [], (((((decide (240 ≤ ((List.getD s i 0).toNat : Int))) && (decide (((List.getD s i 0).toNat : Int) < 248))) && (tailS s ((i : Int) + 1))) && (tailS s ((i : Int) + 2))) = true) → allP [((((decide (240 ≤ ((List.getD s i 0).toNat : Int))) && (decide (((List.getD s i 0).toNat : Int) < 248))) && (tailS s ((i : Int) + 1))) && (tailS s ((i : Int) + 2))) = true, InR .i64 ((i : Int) + 3)], (((((decide (240 ≤ ((List.getD s i 0).toNat : Int))) && (decide (((List.getD s i 0).toNat : Int) < 248))) && (tailS s ((i : Int) + 1))) && (tailS s ((i : Int) + 2))) = true) → allP [((((decide (240 ≤ ((List.getD s i 0).toNat : Int))) && (decide (((List.getD s i 0).toNat : Int) < 248))) && (tailS s ((i : Int) + 1))) && (tailS s ((i : Int) + 2))) = true, ((((decide (240 ≤ ((List.getD s i 0).toNat : Int))) && (decide (((List.getD s i 0).toNat : Int) < 248))) && (tailS s ((i : Int) + 1))) && (tailS s ((i : Int) + 2))) = true, Spec Tryz.prog 152 [tc (st s), tc (i6 ((i : Int) + 3))] (ofH []) (vc (bo (tailS s ((i : Int) + 3)))) (ofH [])], ((((decide (240 ≤ ((List.getD s i 0).toNat : Int))) && (decide (((List.getD s i 0).toNat : Int) < 248))) && (tailS s ((i : Int) + 1))) && (tailS s ((i : Int) + 2))) = true → allP [((((decide (240 ≤ ((List.getD s i 0).toNat : Int))) && (decide (((List.getD s i 0).toNat : Int) < 248))) && (tailS s ((i : Int) + 1))) && (tailS s ((i : Int) + 2))) = true]] 134 [(0, vc (st s)), (1, vc (i6 (i : Int))), (6, vc (i6 ((List.getD s i 0).toNat : Int))), (106, vc (bo (((((decide (240 ≤ ((List.getD s i 0).toNat : Int))) && (decide (((List.getD s i 0).toNat : Int) < 248))) && (tailS s ((i : Int) + 1))) && (tailS s ((i : Int) + 2))) && (tailS s ((i : Int) + 3)))))] [] ⟨(fun _ => trivial), (fun hp => hp), (fun hp2 => (by first | exact hp2 | exact ⟨hp, hp2⟩)), (fun _ => trivial), (fun _ => trivial), (fun hp => by have hq := hp; (try simp only [decide_eq_true_eq, decide_eq_false_iff_not, Bool.and_eq_true, Bool.or_eq_true, Bool.and_eq_false_iff, Bool.or_eq_false_iff, Bool.not_eq_true', Bool.not_eq_false', Bool.not_eq_true, Bool.not_eq_false] at hq); exact ⟨hp, (show InR .i64 ((i : Int) + 1) from (inR64 (by first | omega | (simp only [tail_iff, tail_neg, e1, e2, e3] at * <;> omega)) (by first | omega | (simp only [tail_iff, tail_neg, e1, e2, e3] at * <;> omega))))⟩), (fun hp => by have hq := hp; (try simp only [decide_eq_true_eq, decide_eq_false_iff_not, Bool.and_eq_true, Bool.or_eq_true, Bool.and_eq_false_iff, Bool.or_eq_false_iff, Bool.not_eq_true', Bool.not_eq_false', Bool.not_eq_true, Bool.not_eq_false] at hq); exact ⟨hp, hp, (tail_c s ((i : Int) + 1) (by omega))⟩), (fun hp2 => (by first | exact hp2 | exact ⟨hp, hp2⟩)), (fun _ => trivial), (fun _ => trivial), (fun hp => by have hq := hp; (try simp only [decide_eq_true_eq, decide_eq_false_iff_not, Bool.and_eq_true, Bool.or_eq_true, Bool.and_eq_false_iff, Bool.or_eq_false_iff, Bool.not_eq_true', Bool.not_eq_false', Bool.not_eq_true, Bool.not_eq_false] at hq); exact ⟨hp, (show InR .i64 ((i : Int) + 2) from (inR64 (by first | omega | (simp only [tail_iff, tail_neg, e1, e2, e3] at * <;> omega)) (by first | omega | (simp only [tail_iff, tail_neg, e1, e2, e3] at * <;> omega))))⟩), (fun hp => by have hq := hp; (try simp only [decide_eq_true_eq, decide_eq_false_iff_not, Bool.and_eq_true, Bool.or_eq_true, Bool.and_eq_false_iff, Bool.or_eq_false_iff, Bool.not_eq_true', Bool.not_eq_false', Bool.not_eq_true, Bool.not_eq_false] at hq); exact ⟨hp, hp, (tail_c s ((i : Int) + 2) (by omega))⟩), (fun hp2 => (by first | exact hp2 | exact ⟨hp, hp2⟩)), (fun _ => trivial), (fun _ => trivial), (fun hp => by have hq := hp; (try simp only [decide_eq_true_eq, decide_eq_false_iff_not, Bool.and_eq_true, Bool.or_eq_true, Bool.and_eq_false_iff, Bool.or_eq_false_iff, Bool.not_eq_true', Bool.not_eq_false', Bool.not_eq_true, Bool.not_eq_false] at hq); exact ⟨hp, (show InR .i64 ((i : Int) + 3) from (inR64 (by first | omega | (simp only [tail_iff, tail_neg, e1, e2, e3] at * <;> omega)) (by first | omega | (simp only [tail_iff, tail_neg, e1, e2, e3] at * <;> omega))))⟩), (fun hp => by have hq := hp; (try simp only [decide_eq_true_eq, decide_eq_false_iff_not, Bool.and_eq_true, Bool.or_eq_true, Bool.and_eq_false_iff, Bool.or_eq_false_iff, Bool.not_eq_true', Bool.not_eq_false', Bool.not_eq_true, Bool.not_eq_false] at hq); exact ⟨hp, hp, (tail_c s ((i : Int) + 3) (by omega))⟩), (fun hp2 => (by first | exact hp2 | exact ⟨hp, hp2⟩))⟩ ?_
     refine gB ((((((decide (240 ≤ ((List.getD s i 0).toNat : Int))) && (decide (((List.getD s i 0).toNat : Int) < 248))) && (tailS s ((i : Int) + 1))) && (tailS s ((i : Int) + 2))) && (tailS s ((i : Int) + 3)))) (fun hc12 => ?_) fun hc12 => ?_
     ·
      try simp only [xT, xF, xA, xB] at hc12
      refine gS [(6, CE.call [] [] (vc (i6 (((List.getD s ((i : Int) + 1).toNat 0).toNat : Int) - 128))) []), (12, CE.call [] [] (vc (i6 (((List.getD s ((i : Int) + 2).toNat 0).toNat : Int) - 128))) []), (18, CE.call [] [] (vc (i6 (((List.getD s ((i : Int) + 3).toNat 0).toNat : Int) - 128))) [])] [InR .i64 (((List.getD s i 0).toNat : Int) - 240), InR .i64 (262144 * (((List.getD s i 0).toNat : Int) - 240)), InR .i64 ((i : Int) + 1), Spec Tryz.prog 153 [tc (st s), tc (i6 ((i : Int) + 1))] (ofH []) (vc (i6 (((List.getD s ((i : Int) + 1).toNat 0).toNat : Int) - 128))) (ofH []), InR .i64 (4096 * (((List.getD s ((i : Int) + 1).toNat 0).toNat : Int) - 128)), InR .i64 ((262144 * (((List.getD s i 0).toNat : Int) - 240)) + (4096 * (((List.getD s ((i : Int) + 1).toNat 0).toNat : Int) - 128))), InR .i64 ((i : Int) + 2), Spec Tryz.prog 153 [tc (st s), tc (i6 ((i : Int) + 2))] (ofH []) (vc (i6 (((List.getD s ((i : Int) + 2).toNat 0).toNat : Int) - 128))) (ofH []), InR .i64 (64 * (((List.getD s ((i : Int) + 2).toNat 0).toNat : Int) - 128)), InR .i64 (((262144 * (((List.getD s i 0).toNat : Int) - 240)) + (4096 * (((List.getD s ((i : Int) + 1).toNat 0).toNat : Int) - 128))) + (64 * (((List.getD s ((i : Int) + 2).toNat 0).toNat : Int) - 128))), InR .i64 ((i : Int) + 3), Spec Tryz.prog 153 [tc (st s), tc (i6 ((i : Int) + 3))] (ofH []) (vc (i6 (((List.getD s ((i : Int) + 3).toNat 0).toNat : Int) - 128))) (ofH []), InR .i64 ((((262144 * (((List.getD s i 0).toNat : Int) - 240)) + (4096 * (((List.getD s ((i : Int) + 1).toNat 0).toNat : Int) - 128))) + (64 * (((List.getD s ((i : Int) + 2).toNat 0).toNat : Int) - 128))) + (((List.getD s ((i : Int) + 3).toNat 0).toNat : Int) - 128))] 134 [(9, vc (i6 ((((262144 * (((List.getD s i 0).toNat : Int) - 240)) + (4096 * (((List.getD s ((i : Int) + 1).toNat 0).toNat : Int) - 128))) + (64 * (((List.getD s ((i : Int) + 2).toNat 0).toNat : Int) - 128))) + (((List.getD s ((i : Int) + 3).toNat 0).toNat : Int) - 128))))] [] ⟨(show InR .i64 (((List.getD s i 0).toNat : Int) - 240) from (inR64 (by first | omega | (simp only [tail_iff, tail_neg, e1, e2, e3] at * <;> omega)) (by first | omega | (simp only [tail_iff, tail_neg, e1, e2, e3] at * <;> omega)))), (show InR .i64 (262144 * (((List.getD s i 0).toNat : Int) - 240)) from (inR64 (by first | omega | (simp only [tail_iff, tail_neg, e1, e2, e3] at * <;> omega)) (by first | omega | (simp only [tail_iff, tail_neg, e1, e2, e3] at * <;> omega)))), (show InR .i64 ((i : Int) + 1) from (inR64 (by first | omega | (simp only [tail_iff, tail_neg, e1, e2, e3] at * <;> omega)) (by first | omega | (simp only [tail_iff, tail_neg, e1, e2, e3] at * <;> omega)))), (low_c s ((i : Int) + 1) (by first | omega | (simp only [tail_iff, tail_neg, Bool.and_eq_true, decide_eq_true_eq] at * <;> omega))), (show InR .i64 (4096 * (((List.getD s ((i : Int) + 1).toNat 0).toNat : Int) - 128)) from (inR64 (by first | omega | (simp only [tail_iff, tail_neg, e1, e2, e3] at * <;> omega)) (by first | omega | (simp only [tail_iff, tail_neg, e1, e2, e3] at * <;> omega)))), (show InR .i64 ((262144 * (((List.getD s i 0).toNat : Int) - 240)) + (4096 * (((List.getD s ((i : Int) + 1).toNat 0).toNat : Int) - 128))) from (inR64 (by first | omega | (simp only [tail_iff, tail_neg, e1, e2, e3] at * <;> omega)) (by first | omega | (simp only [tail_iff, tail_neg, e1, e2, e3] at * <;> omega)))), (show InR .i64 ((i : Int) + 2) from (inR64 (by first | omega | (simp only [tail_iff, tail_neg, e1, e2, e3] at * <;> omega)) (by first | omega | (simp only [tail_iff, tail_neg, e1, e2, e3] at * <;> omega)))), (low_c s ((i : Int) + 2) (by first | omega | (simp only [tail_iff, tail_neg, Bool.and_eq_true, decide_eq_true_eq] at * <;> omega))), (show InR .i64 (64 * (((List.getD s ((i : Int) + 2).toNat 0).toNat : Int) - 128)) from (inR64 (by first | omega | (simp only [tail_iff, tail_neg, e1, e2, e3] at * <;> omega)) (by first | omega | (simp only [tail_iff, tail_neg, e1, e2, e3] at * <;> omega)))), (show InR .i64 (((262144 * (((List.getD s i 0).toNat : Int) - 240)) + (4096 * (((List.getD s ((i : Int) + 1).toNat 0).toNat : Int) - 128))) + (64 * (((List.getD s ((i : Int) + 2).toNat 0).toNat : Int) - 128))) from (inR64 (by first | omega | (simp only [tail_iff, tail_neg, e1, e2, e3] at * <;> omega)) (by first | omega | (simp only [tail_iff, tail_neg, e1, e2, e3] at * <;> omega)))), (show InR .i64 ((i : Int) + 3) from (inR64 (by first | omega | (simp only [tail_iff, tail_neg, e1, e2, e3] at * <;> omega)) (by first | omega | (simp only [tail_iff, tail_neg, e1, e2, e3] at * <;> omega)))), (low_c s ((i : Int) + 3) (by first | omega | (simp only [tail_iff, tail_neg, Bool.and_eq_true, decide_eq_true_eq] at * <;> omega))), (show InR .i64 ((((262144 * (((List.getD s i 0).toNat : Int) - 240)) + (4096 * (((List.getD s ((i : Int) + 1).toNat 0).toNat : Int) - 128))) + (64 * (((List.getD s ((i : Int) + 2).toNat 0).toNat : Int) - 128))) + (((List.getD s ((i : Int) + 3).toNat 0).toNat : Int) - 128)) from (inR64 (by first | omega | (simp only [tail_iff, tail_neg, e1, e2, e3] at * <;> omega)) (by first | omega | (simp only [tail_iff, tail_neg, e1, e2, e3] at * <;> omega))))⟩ ?_
      refine gS [] [((decide (65536 ≤ (((262144 * (((List.getD s i 0).toNat : Int) - 240)) + (4096 * (((List.getD s ((i : Int) + 1).toNat 0).toNat : Int) - 128))) + (64 * (((List.getD s ((i : Int) + 2).toNat 0).toNat : Int) - 128))) + (((List.getD s ((i : Int) + 3).toNat 0).toNat : Int) - 128))) = true) → allP [], ((decide (65536 ≤ (((262144 * (((List.getD s i 0).toNat : Int) - 240)) + (4096 * (((List.getD s ((i : Int) + 1).toNat 0).toNat : Int) - 128))) + (64 * (((List.getD s ((i : Int) + 2).toNat 0).toNat : Int) - 128))) + (((List.getD s ((i : Int) + 3).toNat 0).toNat : Int) - 128))) = true) → allP [(decide (65536 ≤ (((262144 * (((List.getD s i 0).toNat : Int) - 240)) + (4096 * (((List.getD s ((i : Int) + 1).toNat 0).toNat : Int) - 128))) + (64 * (((List.getD s ((i : Int) + 2).toNat 0).toNat : Int) - 128))) + (((List.getD s ((i : Int) + 3).toNat 0).toNat : Int) - 128))) = true], (decide (65536 ≤ (((262144 * (((List.getD s i 0).toNat : Int) - 240)) + (4096 * (((List.getD s ((i : Int) + 1).toNat 0).toNat : Int) - 128))) + (64 * (((List.getD s ((i : Int) + 2).toNat 0).toNat : Int) - 128))) + (((List.getD s ((i : Int) + 3).toNat 0).toNat : Int) - 128))) = true → allP [(decide (65536 ≤ (((262144 * (((List.getD s i 0).toNat : Int) - 240)) + (4096 * (((List.getD s ((i : Int) + 1).toNat 0).toNat : Int) - 128))) + (64 * (((List.getD s ((i : Int) + 2).toNat 0).toNat : Int) - 128))) + (((List.getD s ((i : Int) + 3).toNat 0).toNat : Int) - 128))) = true]] 134 [(9, vc (i6 ((((262144 * (((List.getD s i 0).toNat : Int) - 240)) + (4096 * (((List.getD s ((i : Int) + 1).toNat 0).toNat : Int) - 128))) + (64 * (((List.getD s ((i : Int) + 2).toNat 0).toNat : Int) - 128))) + (((List.getD s ((i : Int) + 3).toNat 0).toNat : Int) - 128)))), (132, vc (bo ((decide (65536 ≤ (((262144 * (((List.getD s i 0).toNat : Int) - 240)) + (4096 * (((List.getD s ((i : Int) + 1).toNat 0).toNat : Int) - 128))) + (64 * (((List.getD s ((i : Int) + 2).toNat 0).toNat : Int) - 128))) + (((List.getD s ((i : Int) + 3).toNat 0).toNat : Int) - 128))) && (decide ((((262144 * (((List.getD s i 0).toNat : Int) - 240)) + (4096 * (((List.getD s ((i : Int) + 1).toNat 0).toNat : Int) - 128))) + (64 * (((List.getD s ((i : Int) + 2).toNat 0).toNat : Int) - 128))) + (((List.getD s ((i : Int) + 3).toNat 0).toNat : Int) - 128) ≤ 1114111)))))] [] ⟨(fun _ => trivial), (fun hp => hp), (fun hp2 => (by first | exact hp2 | exact ⟨hp, hp2⟩))⟩ ?_
      refine gB (((decide (65536 ≤ (((262144 * (((List.getD s i 0).toNat : Int) - 240)) + (4096 * (((List.getD s ((i : Int) + 1).toNat 0).toNat : Int) - 128))) + (64 * (((List.getD s ((i : Int) + 2).toNat 0).toNat : Int) - 128))) + (((List.getD s ((i : Int) + 3).toNat 0).toNat : Int) - 128))) && (decide ((((262144 * (((List.getD s i 0).toNat : Int) - 240)) + (4096 * (((List.getD s ((i : Int) + 1).toNat 0).toNat : Int) - 128))) + (64 * (((List.getD s ((i : Int) + 2).toNat 0).toNat : Int) - 128))) + (((List.getD s ((i : Int) + 3).toNat 0).toNat : Int) - 128) ≤ 1114111)))) (fun hc13 => ?_) fun hc13 => ?_
      ·
       try simp only [xT, xF, xA, xB] at hc13
       refine gS [] [] 134 [(4, vc (i6 ((((262144 * (((List.getD s i 0).toNat : Int) - 240)) + (4096 * (((List.getD s ((i : Int) + 1).toNat 0).toNat : Int) - 128))) + (64 * (((List.getD s ((i : Int) + 2).toNat 0).toNat : Int) - 128))) + (((List.getD s ((i : Int) + 3).toNat 0).toNat : Int) - 128)))), (5, vc (i6 4))] [] trivial ?_
       exact gT (AV.tup [tc (i6 ((((262144 * (((List.getD s i 0).toNat : Int) - 240)) + (4096 * (((List.getD s ((i : Int) + 1).toNat 0).toNat : Int) - 128))) + (64 * (((List.getD s ((i : Int) + 2).toNat 0).toNat : Int) - 128))) + (((List.getD s ((i : Int) + 3).toNat 0).toNat : Int) - 128))), tc (i6 4)]) (by rw [show (nextS s i) = ((((262144 * (((List.getD s i 0).toNat : Int) - 240)) + (4096 * (((List.getD s ((i : Int) + 1).toNat 0).toNat : Int) - 128))) + (64 * (((List.getD s ((i : Int) + 2).toNat 0).toNat : Int) - 128))) + (((List.getD s ((i : Int) + 3).toNat 0).toNat : Int) - 128), 4) from by simp only [tail_iff, tail_neg, e1, e2, e3, Bool.and_eq_true, decide_eq_true_eq] at *; first | (exfalso; omega) | (rw [next_1 (by omega)]; done) | (rw [next_2 rfl rfl (by omega) (by omega) (by omega)] <;> exact Prod.ext (by simp only []; omega) rfl) | (rw [next_3 rfl rfl rfl (by omega) (by omega) (by omega) (by omega) (by omega)] <;> exact Prod.ext (by simp only []; omega) rfl) | (rw [next_4 rfl rfl rfl rfl (by omega) (by omega) (by omega) (by omega) (by omega) (by omega)] <;> exact Prod.ext (by simp only []; omega) rfl) | (exact next_bad hi rfl rfl rfl rfl b0 b1 b2 b3 (by omega) (by omega) (by omega) (by omega))])
      ·
       try simp only [xT, xF, xA, xB] at hc13
       refine AMx.skip ?_
       refine gS [] [] 134 [(4, vc (i6 (-1))), (5, vc (i6 1))] [] trivial ?_
       exact gT (AV.tup [tc (i6 (-1)), tc (i6 1)]) (by rw [show (nextS s i) = ((-1), 1) from by simp only [tail_iff, tail_neg, e1, e2, e3, Bool.and_eq_true, decide_eq_true_eq] at *; first | (exfalso; omega) | (rw [next_1 (by omega)]; done) | (rw [next_2 rfl rfl (by omega) (by omega) (by omega)] <;> exact Prod.ext (by simp only []; omega) rfl) | (rw [next_3 rfl rfl rfl (by omega) (by omega) (by omega) (by omega) (by omega)] <;> exact Prod.ext (by simp only []; omega) rfl) | (rw [next_4 rfl rfl rfl rfl (by omega) (by omega) (by omega) (by omega) (by omega) (by omega)] <;> exact Prod.ext (by simp only []; omega) rfl) | (exact next_bad hi rfl rfl rfl rfl b0 b1 b2 b3 (by omega) (by omega) (by omega) (by omega))])
     ·
      try simp only [xT, xF, xA, xB] at hc12
      refine AMx.skip ?_
      refine gS [] [] 134 [(4, vc (i6 (-1))), (5, vc (i6 1))] [] trivial ?_
      exact gT (AV.tup [tc (i6 (-1)), tc (i6 1)]) (by rw [show (nextS s i) = ((-1), 1) from by simp only [tail_iff, tail_neg, e1, e2, e3, Bool.and_eq_true, decide_eq_true_eq] at *; first | (exfalso; omega) | (rw [next_1 (by omega)]; done) | (rw [next_2 rfl rfl (by omega) (by omega) (by omega)] <;> exact Prod.ext (by simp only []; omega) rfl) | (rw [next_3 rfl rfl rfl (by omega) (by omega) (by omega) (by omega) (by omega)] <;> exact Prod.ext (by simp only []; omega) rfl) | (rw [next_4 rfl rfl rfl rfl (by omega) (by omega) (by omega) (by omega) (by omega) (by omega)] <;> exact Prod.ext (by simp only []; omega) rfl) | (exact next_bad hi rfl rfl rfl rfl b0 b1 b2 b3 (by omega) (by omega) (by omega) (by omega))])
   ·
    try simp only [xT, xF, xA, xB] at hc10
    refine AMx.skip ?_
    refine gQ ?_
    refine gS [(10, CE.call [] [] (vc (bo (tailS s ((i : Int) + 1)))) []), (16, CE.call [] [] (vc (bo (tailS s ((i : Int) + 2)))) []), (22, CE.call [] [] (vc (bo (tailS s ((i : Int) + 3)))) [])] [((decide (240 ≤ ((List.getD s i 0).toNat : Int))) = true) → allP [], ((decide (240 ≤ ((List.getD s i 0).toNat : Int))) = true) → allP [(decide (240 ≤ ((List.getD s i 0).toNat : Int))) = true], (decide (240 ≤ ((List.getD s i 0).toNat : Int))) = true → allP [(decide (240 ≤ ((List.getD s i 0).toNat : Int))) = true], (((decide (240 ≤ ((List.getD s i 0).toNat : Int))) && (decide (((List.getD s i 0).toNat : Int) < 248))) = true) → allP [], (((decide (240 ≤ ((List.getD s i 0).toNat : Int))) && (decide (((List.getD s i 0).toNat : Int) < 248))) = true) → allP [], (((decide (240 ≤ ((List.getD s i 0).toNat : Int))) && (decide (((List.getD s i 0).toNat : Int) < 248))) = true) → allP [((decide (240 ≤ ((List.getD s i 0).toNat : Int))) && (decide (((List.getD s i 0).toNat : Int) < 248))) = true, InR .i64 ((i : Int) + 1)], (((decide (240 ≤ ((List.getD s i 0).toNat : Int))) && (decide (((List.getD s i 0).toNat : Int) < 248))) = true) → allP [((decide (240 ≤ ((List.getD s i 0).toNat : Int))) && (decide (((List.getD s i 0).toNat : Int) < 248))) = true, ((decide (240 ≤ ((List.getD s i 0).toNat : Int))) && (decide (((List.getD s i 0).toNat : Int) < 248))) = true, Spec Tryz.prog 152 [tc (st s), tc (i6 ((i : Int) + 1))] (ofH []) (vc (bo (tailS s ((i : Int) + 1)))) (ofH [])], ((decide (240 ≤ ((List.getD s i 0).toNat : Int))) && (decide (((List.getD s i 0).toNat : Int) < 248))) = true → allP [((decide (240 ≤ ((List.getD s i 0).toNat : Int))) && (decide (((List.getD s i 0).toNat : Int) < 248))) = true], ((((decide (240 ≤ ((List.getD s i 0).toNat : Int))) && (decide (((List.getD s i 0).toNat : Int) < 248))) && (tailS s ((i : Int) + 1))) = true) → allP [], ((((decide (240 ≤ ((List.getD s i 0).toNat : Int))) && (decide (((List.getD s i 0).toNat : Int) < 248))) && (tailS s ((i : Int) + 1))) = true) → allP [], ((((decide (240 ≤ ((List.getD s i 0).toNat : Int))) && (decide (((List.getD s i 0).toNat : Int) < 248))) && (tailS s ((i : Int) + 1))) = true) → allP [(((decide (240 ≤ ((List.getD s i 0).toNat : Int))) && (decide (((List.getD s i 0).toNat : Int) < 248))) && (tailS s ((i : Int) + 1))) = true, InR .i64 ((i : Int) + 2)], ((((decide (240 ≤ ((List.getD s i 0).toNat : Int))) && (decide (((List.getD s i 0).toNat : Int) < 248))) && (tailS s ((i : Int) + 1))) = true) → allP [(((decide (240 ≤ ((List.getD s i 0).toNat : Int))) && (decide (((List.getD s i 0).toNat : Int) < 248))) && (tailS s ((i : Int) + 1))) = true, (((decide (240 ≤ ((List.getD s i 0).toNat : Int))) && (decide (((List.getD s i 0).toNat : Int) < 248))) && (tailS s ((i : Int) + 1))) = true, Spec Tryz.prog 152 [tc (st s), tc (i6 ((i : Int) + 2))] (ofH []) (vc (bo (tailS s ((i : Int) + 2)))) (ofH [])], (((decide (240 ≤ ((List.getD s i 0).toNat : Int))) && (decide (((List.getD s i 0).toNat : Int) < 248))) && (tailS s ((i : Int) + 1))) = true → allP [(((decide (240 ≤ ((List.getD s i 0).toNat : Int))) && (decide (((List.getD s i 0).toNat : Int) < 248))) && (tailS s ((i : Int) + 1))) = true], (((((decide (240 ≤ ((List.getD s i 0).toNat : Int))) && (decide (((List.getD s i 0).toNat : Int) < 248))) && (tailS s ((i : Int) + 1))) && (tailS s ((i : Int) + 2))) = true) → allP [], (((((decide (240 ≤ ((List.getD s i 0).toNat : Int))) && (decide (((List.getD s i 0).toNat : Int) < 248))) && (tailS s ((i : Int) + 1))) && (tailS s ((i : Int) + 2))) = true) → allP [], (((((decide (240 ≤ ((List.getD s i 0).toNat : Int))) && (decide (((List.getD s i 0).toNat : Int) < 248))) && (tailS s ((i : Int) + 1))) && (tailS s ((i : Int) + 2))) = true) → allP [((((decide (240 ≤ ((List.getD s i 0).toNat : Int))) && (decide (((List.getD s i 0).toNat : Int) < 248))) && (tailS s ((i : Int) + 1))) && (tailS s ((i : Int) + 2))) = true, InR .i64 ((i : Int) + 3)], (((((decide (240 ≤ ((List.getD s i 0).toNat : Int))) && (decide (((List.getD s i 0).toNat : Int) < 248))) && (tailS s ((i : Int) + 1))) && (tailS s ((i : Int) + 2))) = true) → allP [((((decide (240 ≤ ((List.getD s i 0).toNat : Int))) && (decide (((List.getD s i 0).toNat : Int) < 248))) && (tailS s ((i : Int) + 1))) && (tailS s ((i : Int) + 2))) = true, ((((decide (240 ≤ ((List.getD s i 0).toNat : Int))) && (decide (((List.getD s i 0).toNat : Int) < 248))) && (tailS s ((i : Int) + 1))) && (tailS s ((i : Int) + 2))) = true, Spec Tryz.prog 152 [tc (st s), tc (i6 ((i : Int) + 3))] (ofH []) (vc (bo (tailS s ((i : Int) + 3)))) (ofH [])], ((((decide (240 ≤ ((List.getD s i 0).toNat : Int))) && (decide (((List.getD s i 0).toNat : Int) < 248))) && (tailS s ((i : Int) + 1))) && (tailS s ((i : Int) + 2))) = true → allP [((((decide (240 ≤ ((List.getD s i 0).toNat : Int))) && (decide (((List.getD s i 0).toNat : Int) < 248))) && (tailS s ((i : Int) + 1))) && (tailS s ((i : Int) + 2))) = true]] 134 [(0, vc (st s)), (1, vc (i6 (i : Int))), (6, vc (i6 ((List.getD s i 0).toNat : Int))), (106, vc (bo (((((decide (240 ≤ ((List.getD s i 0).toNat : Int))) && (decide (((List.getD s i 0).toNat : Int) < 248))) && (tailS s ((i : Int) + 1))) && (tailS s ((i : Int) + 2))) && (tailS s ((i : Int) + 3)))))] [] ⟨(fun _ => trivial), (fun hp => hp), (fun hp2 => (by first | exact hp2 | exact ⟨hp, hp2⟩)), (fun _ => trivial), (fun _ => trivial), (fun hp => by have hq := hp; (try simp only [decide_eq_true_eq, decide_eq_false_iff_not, Bool.and_eq_true, Bool.or_eq_true, Bool.and_eq_false_iff, Bool.or_eq_false_iff, Bool.not_eq_true', Bool.not_eq_false', Bool.not_eq_true, Bool.not_eq_false] at hq); exact ⟨hp, (show InR .i64 ((i : Int) + 1) from (inR64 (by first | omega | (simp only [tail_iff, tail_neg, e1, e2, e3] at * <;> omega)) (by first | omega | (simp only [tail_iff, tail_neg, e1, e2, e3] at * <;> omega))))⟩), (fun hp => by have hq := hp; (try simp only [decide_eq_true_eq, decide_eq_false_iff_not, Bool.and_eq_true, Bool.or_eq_true, Bool.and_eq_false_iff, Bool.or_eq_false_iff, Bool.not_eq_true', Bool.not_eq_false', Bool.not_eq_true, Bool.not_eq_false] at hq); exact ⟨hp, hp, (tail_c s ((i : Int) + 1) (by omega))⟩), (fun hp2 => (by first | exact hp2 | exact ⟨hp, hp2⟩)), (fun _ => trivial), (fun _ => trivial), (fun hp => by have hq := hp; (try simp only [decide_eq_true_eq, decide_eq_false_iff_not, Bool.and_eq_true, Bool.or_eq_true, Bool.and_eq_false_iff, Bool.or_eq_false_iff, Bool.not_eq_true', Bool.not_eq_false', Bool.not_eq_true, Bool.not_eq_false] at hq); exact ⟨hp, (show InR .i64 ((i : Int) + 2) from (inR64 (by first | omega | (simp only [tail_iff, tail_neg, e1, e2, e3] at * <;> omega)) (by first | omega | (simp only [tail_iff, tail_neg, e1, e2, e3] at * <;> omega))))⟩), (fun hp => by have hq := hp; (try simp only [decide_eq_true_eq, decide_eq_false_iff_not, Bool.and_eq_true, Bool.or_eq_true, Bool.and_eq_false_iff, Bool.or_eq_false_iff, Bool.not_eq_true', Bool.not_eq_false', Bool.not_eq_true, Bool.not_eq_false] at hq); exact ⟨hp, hp, (tail_c s ((i : Int) + 2) (by omega))⟩), (fun hp2 => (by first | exact hp2 | exact ⟨hp, hp2⟩)), (fun _ => trivial), (fun _ => trivial), (fun hp => by have hq := hp; (try simp only [decide_eq_true_eq, decide_eq_false_iff_not, Bool.and_eq_true, Bool.or_eq_true, Bool.and_eq_false_iff, Bool.or_eq_false_iff, Bool.not_eq_true', Bool.not_eq_false', Bool.not_eq_true, Bool.not_eq_false] at hq); exact ⟨hp, (show InR .i64 ((i : Int) + 3) from (inR64 (by first | omega | (simp only [tail_iff, tail_neg, e1, e2, e3] at * <;> omega)) (by first | omega | (simp only [tail_iff, tail_neg, e1, e2, e3] at * <;> omega))))⟩), (fun hp => by have hq := hp; (try simp only [decide_eq_true_eq, decide_eq_false_iff_not, Bool.and_eq_true, Bool.or_eq_true, Bool.and_eq_false_iff, Bool.or_eq_false_iff, Bool.not_eq_true', Bool.not_eq_false', Bool.not_eq_true, Bool.not_eq_false] at hq); exact ⟨hp, hp, (tail_c s ((i : Int) + 3) (by omega))⟩), (fun hp2 => (by first | exact hp2 | exact ⟨hp, hp2⟩))⟩ ?_
    refine gB ((((((decide (240 ≤ ((List.getD s i 0).toNat : Int))) && (decide (((List.getD s i 0).toNat : Int) < 248))) && (tailS s ((i : Int) + 1))) && (tailS s ((i : Int) + 2))) && (tailS s ((i : Int) + 3)))) (fun hc14 => ?_) fun hc14 => ?_
    ·
     try simp only [xT, xF, xA, xB] at hc14
     refine gS [(6, CE.call [] [] (vc (i6 (((List.getD s ((i : Int) + 1).toNat 0).toNat : Int) - 128))) []), (12, CE.call [] [] (vc (i6 (((List.getD s ((i : Int) + 2).toNat 0).toNat : Int) - 128))) []), (18, CE.call [] [] (vc (i6 (((List.getD s ((i : Int) + 3).toNat 0).toNat : Int) - 128))) [])] [InR .i64 (((List.getD s i 0).toNat : Int) - 240), InR .i64 (262144 * (((List.getD s i 0).toNat : Int) - 240)), InR .i64 ((i : Int) + 1), Spec Tryz.prog 153 [tc (st s), tc (i6 ((i : Int) + 1))] (ofH []) (vc (i6 (((List.getD s ((i : Int) + 1).toNat 0).toNat : Int) - 128))) (ofH []), InR .i64 (4096 * (((List.getD s ((i : Int) + 1).toNat 0).toNat : Int) - 128)), InR .i64 ((262144 * (((List.getD s i 0).toNat : Int) - 240)) + (4096 * (((List.getD s ((i : Int) + 1).toNat 0).toNat : Int) - 128))), InR .i64 ((i : Int) + 2), Spec Tryz.prog 153 [tc (st s), tc (i6 ((i : Int) + 2))] (ofH []) (vc (i6 (((List.getD s ((i : Int) + 2).toNat 0).toNat : Int) - 128))) (ofH []), InR .i64 (64 * (((List.getD s ((i : Int) + 2).toNat 0).toNat : Int) - 128)), InR .i64 (((262144 * (((List.getD s i 0).toNat : Int) - 240)) + (4096 * (((List.getD s ((i : Int) + 1).toNat 0).toNat : Int) - 128))) + (64 * (((List.getD s ((i : Int) + 2).toNat 0).toNat : Int) - 128))), InR .i64 ((i : Int) + 3), Spec Tryz.prog 153 [tc (st s), tc (i6 ((i : Int) + 3))] (ofH []) (vc (i6 (((List.getD s ((i : Int) + 3).toNat 0).toNat : Int) - 128))) (ofH []), InR .i64 ((((262144 * (((List.getD s i 0).toNat : Int) - 240)) + (4096 * (((List.getD s ((i : Int) + 1).toNat 0).toNat : Int) - 128))) + (64 * (((List.getD s ((i : Int) + 2).toNat 0).toNat : Int) - 128))) + (((List.getD s ((i : Int) + 3).toNat 0).toNat : Int) - 128))] 134 [(9, vc (i6 ((((262144 * (((List.getD s i 0).toNat : Int) - 240)) + (4096 * (((List.getD s ((i : Int) + 1).toNat 0).toNat : Int) - 128))) + (64 * (((List.getD s ((i : Int) + 2).toNat 0).toNat : Int) - 128))) + (((List.getD s ((i : Int) + 3).toNat 0).toNat : Int) - 128))))] [] ⟨(show InR .i64 (((List.getD s i 0).toNat : Int) - 240) from (inR64 (by first | omega | (simp only [tail_iff, tail_neg, e1, e2, e3] at * <;> omega)) (by first | omega | (simp only [tail_iff, tail_neg, e1, e2, e3] at * <;> omega)))), (show InR .i64 (262144 * (((List.getD s i 0).toNat : Int) - 240)) from (inR64 (by first | omega | (simp only [tail_iff, tail_neg, e1, e2, e3] at * <;> omega)) (by first | omega | (simp only [tail_iff, tail_neg, e1, e2, e3] at * <;> omega)))), (show InR .i64 ((i : Int) + 1) from (inR64 (by first | omega | (simp only [tail_iff, tail_neg, e1, e2, e3] at * <;> omega)) (by first | omega | (simp only [tail_iff, tail_neg, e1, e2, e3] at * <;> omega)))), (low_c s ((i : Int) + 1) (by first | omega | (simp only [tail_iff, tail_neg, Bool.and_eq_true, decide_eq_true_eq] at * <;> omega))), (show InR .i64 (4096 * (((List.getD s ((i : Int) + 1).toNat 0).toNat : Int) - 128)) from (inR64 (by first | omega | (simp only [tail_iff, tail_neg, e1, e2, e3] at * <;> omega)) (by first | omega | (simp only [tail_iff, tail_neg, e1, e2, e3] at * <;> omega)))), (show InR .i64 ((262144 * (((List.getD s i 0).toNat : Int) - 240)) + (4096 * (((List.getD s ((i : Int) + 1).toNat 0).toNat : Int) - 128))) from (inR64 (by first | omega | (simp only [tail_iff, tail_neg, e1, e2, e3] at * <;> omega)) (by first | omega | (simp only [tail_iff, tail_neg, e1, e2, e3] at * <;> omega)))), (show InR .i64 ((i : Int) + 2) from (inR64 (by first | omega | (simp only [tail_iff, tail_neg, e1, e2, e3] at * <;> omega)) (by first | omega | (simp only [tail_iff, tail_neg, e1, e2, e3] at * <;> omega)))), (low_c s ((i : Int) + 2) (by first | omega | (simp only [tail_iff, tail_neg, Bool.and_eq_true, decide_eq_true_eq] at * <;> omega))), (show InR .i64 (64 * (((List.getD s ((i : Int) + 2).toNat 0).toNat : Int) - 128)) from (inR64 (by first | omega | (simp only [tail_iff, tail_neg, e1, e2, e3] at * <;> omega)) (by first | omega | (simp only [tail_iff, tail_neg, e1, e2, e3] at * <;> omega)))), (show InR .i64 (((262144 * (((List.getD s i 0).toNat : Int) - 240)) + (4096 * (((List.getD s ((i : Int) + 1).toNat 0).toNat : Int) - 128))) + (64 * (((List.getD s ((i : Int) + 2).toNat 0).toNat : Int) - 128))) from (inR64 (by first | omega | (simp only [tail_iff, tail_neg, e1, e2, e3] at * <;> omega)) (by first | omega | (simp only [tail_iff, tail_neg, e1, e2, e3] at * <;> omega)))), (show InR .i64 ((i : Int) + 3) from (inR64 (by first | omega | (simp only [tail_iff, tail_neg, e1, e2, e3] at * <;> omega)) (by first | omega | (simp only [tail_iff, tail_neg, e1, e2, e3] at * <;> omega)))), (low_c s ((i : Int) + 3) (by first | omega | (simp only [tail_iff, tail_neg, Bool.and_eq_true, decide_eq_true_eq] at * <;> omega))), (show InR .i64 ((((262144 * (((List.getD s i 0).toNat : Int) - 240)) + (4096 * (((List.getD s ((i : Int) + 1).toNat 0).toNat : Int) - 128))) + (64 * (((List.getD s ((i : Int) + 2).toNat 0).toNat : Int) - 128))) + (((List.getD s ((i : Int) + 3).toNat 0).toNat : Int) - 128)) from (inR64 (by first | omega | (simp only [tail_iff, tail_neg, e1, e2, e3] at * <;> omega)) (by first | omega | (simp only [tail_iff, tail_neg, e1, e2, e3] at * <;> omega))))⟩ ?_
     refine gS [] [((decide (65536 ≤ (((262144 * (((List.getD s i 0).toNat : Int) - 240)) + (4096 * (((List.getD s ((i : Int) + 1).toNat 0).toNat : Int) - 128))) + (64 * (((List.getD s ((i : Int) + 2).toNat 0).toNat : Int) - 128))) + (((List.getD s ((i : Int) + 3).toNat 0).toNat : Int) - 128))) = true) → allP [], ((decide (65536 ≤ (((262144 * (((List.getD s i 0).toNat : Int) - 240)) + (4096 * (((List.getD s ((i : Int) + 1).toNat 0).toNat : Int) - 128))) + (64 * (((List.getD s ((i : Int) + 2).toNat 0).toNat : Int) - 128))) + (((List.getD s ((i : Int) + 3).toNat 0).toNat : Int) - 128))) = true) → allP [(decide (65536 ≤ (((262144 * (((List.getD s i 0).toNat : Int) - 240)) + (4096 * (((List.getD s ((i : Int) + 1).toNat 0).toNat : Int) - 128))) + (64 * (((List.getD s ((i : Int) + 2).toNat 0).toNat : Int) - 128))) + (((List.getD s ((i : Int) + 3).toNat 0).toNat : Int) - 128))) = true], (decide (65536 ≤ (((262144 * (((List.getD s i 0).toNat : Int) - 240)) + (4096 * (((List.getD s ((i : Int) + 1).toNat 0).toNat : Int) - 128))) + (64 * (((List.getD s ((i : Int) + 2).toNat 0).toNat : Int) - 128))) + (((List.getD s ((i : Int) + 3).toNat 0).toNat : Int) - 128))) = true → allP [(decide (65536 ≤ (((262144 * (((List.getD s i 0).toNat : Int) - 240)) + (4096 * (((List.getD s ((i : Int) + 1).toNat 0).toNat : Int) - 128))) + (64 * (((List.getD s ((i : Int) + 2).toNat 0).toNat : Int) - 128))) + (((List.getD s ((i : Int) + 3).toNat 0).toNat : Int) - 128))) = true]] 134 [(9, vc (i6 ((((262144 * (((List.getD s i 0).toNat : Int) - 240)) + (4096 * (((List.getD s ((i : Int) + 1).toNat 0).toNat : Int) - 128))) + (64 * (((List.getD s ((i : Int) + 2).toNat 0).toNat : Int) - 128))) + (((List.getD s ((i : Int) + 3).toNat 0).toNat : Int) - 128)))), (132, vc (bo ((decide (65536 ≤ (((262144 * (((List.getD s i 0).toNat : Int) - 240)) + (4096 * (((List.getD s ((i : Int) + 1).toNat 0).toNat : Int) - 128))) + (64 * (((List.getD s ((i : Int) + 2).toNat 0).toNat : Int) - 128))) + (((List.getD s ((i : Int) + 3).toNat 0).toNat : Int) - 128))) && (decide ((((262144 * (((List.getD s i 0).toNat : Int) - 240)) + (4096 * (((List.getD s ((i : Int) + 1).toNat 0).toNat : Int) - 128))) + (64 * (((List.getD s ((i : Int) + 2).toNat 0).toNat : Int) - 128))) + (((List.getD s ((i : Int) + 3).toNat 0).toNat : Int) - 128) ≤ 1114111)))))] [] ⟨(fun _ => trivial), (fun hp => hp), (fun hp2 => (by first | exact hp2 | exact ⟨hp, hp2⟩))⟩ ?_
     refine gB (((decide (65536 ≤ (((262144 * (((List.getD s i 0).toNat : Int) - 240)) + (4096 * (((List.getD s ((i : Int) + 1).toNat 0).toNat : Int) - 128))) + (64 * (((List.getD s ((i : Int) + 2).toNat 0).toNat : Int) - 128))) + (((List.getD s ((i : Int) + 3).toNat 0).toNat : Int) - 128))) && (decide ((((262144 * (((List.getD s i 0).toNat : Int) - 240)) + (4096 * (((List.getD s ((i : Int) + 1).toNat 0).toNat : Int) - 128))) + (64 * (((List.getD s ((i : Int) + 2).toNat 0).toNat : Int) - 128))) + (((List.getD s ((i : Int) + 3).toNat 0).toNat : Int) - 128) ≤ 1114111)))) (fun hc15 => ?_) fun hc15 => ?_
     ·
      try simp only [xT, xF, xA, xB] at hc15
      refine gS [] [] 134 [(4, vc (i6 ((((262144 * (((List.getD s i 0).toNat : Int) - 240)) + (4096 * (((List.getD s ((i : Int) + 1).toNat 0).toNat : Int) - 128))) + (64 * (((List.getD s ((i : Int) + 2).toNat 0).toNat : Int) - 128))) + (((List.getD s ((i : Int) + 3).toNat 0).toNat : Int) - 128)))), (5, vc (i6 4))] [] trivial ?_
      exact gT (AV.tup [tc (i6 ((((262144 * (((List.getD s i 0).toNat : Int) - 240)) + (4096 * (((List.getD s ((i : Int) + 1).toNat 0).toNat : Int) - 128))) + (64 * (((List.getD s ((i : Int) + 2).toNat 0).toNat : Int) - 128))) + (((List.getD s ((i : Int) + 3).toNat 0).toNat : Int) - 128))), tc (i6 4)]) (by rw [show (nextS s i) = ((((262144 * (((List.getD s i 0).toNat : Int) - 240)) + (4096 * (((List.getD s ((i : Int) + 1).toNat 0).toNat : Int) - 128))) + (64 * (((List.getD s ((i : Int) + 2).toNat 0).toNat : Int) - 128))) + (((List.getD s ((i : Int) + 3).toNat 0).toNat : Int) - 128), 4) from by simp only [tail_iff, tail_neg, e1, e2, e3, Bool.and_eq_true, decide_eq_true_eq] at *; first | (exfalso; omega) | (rw [next_1 (by omega)]; done) | (rw [next_2 rfl rfl (by omega) (by omega) (by omega)] <;> exact Prod.ext (by simp only []; omega) rfl) | (rw [next_3 rfl rfl rfl (by omega) (by omega) (by omega) (by omega) (by omega)] <;> exact Prod.ext (by simp only []; omega) rfl) | (rw [next_4 rfl rfl rfl rfl (by omega) (by omega) (by omega) (by omega) (by omega) (by omega)] <;> exact Prod.ext (by simp only []; omega) rfl) | (exact next_bad hi rfl rfl rfl rfl b0 b1 b2 b3 (by omega) (by omega) (by omega) (by omega))])
     ·
      try simp only [xT, xF, xA, xB] at hc15
      refine AMx.skip ?_
      refine gS [] [] 134 [(4, vc (i6 (-1))), (5, vc (i6 1))] [] trivial ?_
      exact gT (AV.tup [tc (i6 (-1)), tc (i6 1)]) (by rw [show (nextS s i) = ((-1), 1) from by simp only [tail_iff, tail_neg, e1, e2, e3, Bool.and_eq_true, decide_eq_true_eq] at *; first | (exfalso; omega) | (rw [next_1 (by omega)]; done) | (rw [next_2 rfl rfl (by omega) (by omega) (by omega)] <;> exact Prod.ext (by simp only []; omega) rfl) | (rw [next_3 rfl rfl rfl (by omega) (by omega) (by omega) (by omega) (by omega)] <;> exact Prod.ext (by simp only []; omega) rfl) | (rw [next_4 rfl rfl rfl rfl (by omega) (by omega) (by omega) (by omega) (by omega) (by omega)] <;> exact Prod.ext (by simp only []; omega) rfl) | (exact next_bad hi rfl rfl rfl rfl b0 b1 b2 b3 (by omega) (by omega) (by omega) (by omega))])
    ·
     try simp only [xT, xF, xA, xB] at hc14
     refine AMx.skip ?_
     refine gS [] [] 134 [(4, vc (i6 (-1))), (5, vc (i6 1))] [] trivial ?_
     exact gT (AV.tup [tc (i6 (-1)), tc (i6 1)]) (by rw [show (nextS s i) = ((-1), 1) from by simp only [tail_iff, tail_neg, e1, e2, e3, Bool.and_eq_true, decide_eq_true_eq] at *; first | (exfalso; omega) | (rw [next_1 (by omega)]; done) | (rw [next_2 rfl rfl (by omega) (by omega) (by omega)] <;> exact Prod.ext (by simp only []; omega) rfl) | (rw [next_3 rfl rfl rfl (by omega) (by omega) (by omega) (by omega) (by omega)] <;> exact Prod.ext (by simp only []; omega) rfl) | (rw [next_4 rfl rfl rfl rfl (by omega) (by omega) (by omega) (by omega) (by omega) (by omega)] <;> exact Prod.ext (by simp only []; omega) rfl) | (exact next_bad hi rfl rfl rfl rfl b0 b1 b2 b3 (by omega) (by omega) (by omega) (by omega))])
end AL.Route
namespace AL.Route
open Go Go.Proofs AL AL.Rune
set_option linter.unusedVariables false
set_option linter.unusedSimpArgs false
theorem f166_body : Tryz.f166.body = some (.seq (.region 0 (rg Tryz.f166 0) false) (.seq (.seq (.region 1 (rg Tryz.f166 1) false) (.cond (.tmp 19) (.seq (.region 2 (rg Tryz.f166 2) false) (.ret)) (.skip))) (.seq (.region 3 (rg Tryz.f166 3) false) (.seq (.seq (.region 4 (rg Tryz.f166 4) false) (.block 0 (.loop (.seq (.region 5 (rg Tryz.f166 5) false) (.seq (.cond (.tmp 23) (.skip) (.exit 0)) (.block 1 (.seq (.region 6 (rg Tryz.f166 6) false) (.seq (.seq (.region 7 (rg Tryz.f166 7) false) (.cond (.tmp 27) (.seq (.region 8 (rg Tryz.f166 8) false) (.ret)) (.skip))) (.region 9 (rg Tryz.f166 9) false))))))))) (.seq (.seq (.region 10 (rg Tryz.f166 10) false) (.cond (.tmp 31) (.seq (.region 11 (rg Tryz.f166 11) false) (.ret)) (.skip))) (.seq (.region 12 (rg Tryz.f166 12) false) (.ret))))))) := by kernel_rfl
set_option maxRecDepth 100000 in
set_option maxHeartbeats 8000000 in
theorem Part_c (s : Bytes) (hb : s.length ≤ 100000) : Pure Tryz.prog 166 [tc (st s)] (vc (i6 (partS s))) := by
 refine Pure.of_body Tryz.func166 f166_body (by kernel_rfl) Tryz.ntmps166 (by kernel_rfl) (by kernel_rfl) ?_
 refine gS [] [] 32 [(0, vc (st s))] [] trivial ?_
 refine gQ ?_
 refine gS [] [((decide (s = [])) = false) → allP [], ((decide (s = [])) = false) → allP [(decide (s = [])) = false], (decide (s = [])) = false → allP [(decide (s = [])) = false], (((decide (s = [])) || (decide (s = [46]))) = false) → allP [], (((decide (s = [])) || (decide (s = [46]))) = false) → allP [((decide (s = [])) || (decide (s = [46]))) = false], ((decide (s = [])) || (decide (s = [46]))) = false → allP [((decide (s = [])) || (decide (s = [46]))) = false], ((((decide (s = [])) || (decide (s = [46]))) || (decide (s = [46, 46]))) = false) → allP [], ((((decide (s = [])) || (decide (s = [46]))) || (decide (s = [46, 46]))) = false) → allP [(((decide (s = [])) || (decide (s = [46]))) || (decide (s = [46, 46]))) = false], (((decide (s = [])) || (decide (s = [46]))) || (decide (s = [46, 46]))) = false → allP [(((decide (s = [])) || (decide (s = [46]))) || (decide (s = [46, 46]))) = false]] 32 [(0, vc (st s)), (19, vc (bo ((((decide (s = [])) || (decide (s = [46]))) || (decide (s = [46, 46]))) || (decide (s = [45])))))] [] ⟨(fun _ => trivial), (fun hp => hp), (fun hp2 => (by first | exact hp2 | exact ⟨hp, hp2⟩)), (fun _ => trivial), (fun hp => hp), (fun hp2 => (by first | exact hp2 | exact ⟨hp, hp2⟩)), (fun _ => trivial), (fun hp => hp), (fun hp2 => (by first | exact hp2 | exact ⟨hp, hp2⟩))⟩ ?_
 refine gB (((((decide (s = [])) || (decide (s = [46]))) || (decide (s = [46, 46]))) || (decide (s = [45])))) (fun hc1 => ?_) fun hc1 => ?_
 ·
  try simp only [xT, xF, xO, xP] at hc1
  refine gS [] [] 32 [(2, vc (i6 4))] [] trivial ?_
  exact gT (vc (i6 4)) (by first | rw [part_1 (by simpa [or_assoc, and_assoc] using hc1)] | rw [part_2 (left_bad (by omega) hA (by assumption))])
 ·
  try simp only [xT, xF, xO, xP] at hc1
  refine AMx.skip ?_
  refine gS [] [] 32 [(0, vc (st s)), (3, vc (i6 0))] [] trivial ?_
  refine gQ ?_
  refine gS [] [] 32 [(3, vc (i6 0)), (21, vp 21 0)] [(21, AObj.iter s 0)] trivial ?_
  refine AMx.block ?_
  refine AMx.ent (s' := AS.lst 32 [(3, vc (i6 0)), (21, vp 21 0)] [(21, AObj.iter s 0)]) (ent_proj [3, 21] [21]) ?_
  refine AMx.loop (fun mm ss => ∃ (pos : Nat) (n : Nat), (pos ≤ s.length ∧ LeftAll s pos ∧ LeftN s pos n) ∧ mm = s.length - pos ∧ ss = AS.lst 32 [(3, vc (i6 (n : Int))), (21, vp 21 0)] [(21, AObj.iter s pos)]) ⟨0, 0, ?_, rfl, ?_⟩ ?_
  · exact ⟨Nat.zero_le _, left_0 s, leftN_0 s⟩
  · rfl
  rintro mm ss ⟨pos, n, ⟨hI, hA, hN⟩, rfl, rfl⟩
  refine gQ ?_
  rcases Nat.lt_or_ge pos (List.length s) with hn1 | hn1
  ·
   have hd1 := AL.Rune.dec_ok hn1
   refine gR [(0, CE.str [])] [pos < List.length s, ((pos : Nat) : Int) ≤ 9223372036854775807] 32 [(3, vc (i6 (n : Int))), (21, vp 21 0), (22, AV.tup [tc (bo true), tc (i6 (pos : Int)), tc (i3 ((decS s pos).1 : Int))]), (23, vc (bo true))] [(21, AObj.iter s (pos + (decS s pos).2))] ⟨(show pos < List.length s from (by first | omega | (have hz := leftN_le hN; omega))), (show ((pos : Nat) : Int) ≤ 9223372036854775807 from (by first | omega | (have hz := leftN_le hN; omega)))⟩ ?_
   refine gQ ?_
   refine gBt ?_
   refine AMx.skip ?_
   refine AMx.block ?_
   refine gS [] [] 32 [(3, vc (i6 (n : Int))), (5, vc (i3 ((decS s pos).1 : Int))), (21, vp 21 0)] [(21, AObj.iter s (pos + (decS s pos).2))] trivial ?_
   refine gQ ?_
   refine gS [(1, CE.call [] [] (vc (bo (runeOk ((decS s pos).1 : Int)))) [])] [Spec Tryz.prog 171 [tc (i3 ((decS s pos).1 : Int))] (ofH []) (vc (bo (runeOk ((decS s pos).1 : Int)))) (ofH [])] 32 [(3, vc (i6 (n : Int))), (21, vp 21 0), (27, vc (bo (!(runeOk ((decS s pos).1 : Int)))))] [(21, AObj.iter s (pos + (decS s pos).2))] (Rune_c ((decS s pos).1 : Int)) ?_
   refine gB (!(runeOk ((decS s pos).1 : Int))) (fun hc3 => ?_) fun hc3 => ?_
   ·
    try simp only [xT, xF, xN, xM] at hc3
    refine gS [] [] 32 [(2, vc (i6 4))] [] trivial ?_
    exact gT (vc (i6 4)) (by first | rw [part_1 (by simpa [or_assoc, and_assoc] using hc1)] | rw [part_2 (left_bad (by omega) hA (by assumption))])
   ·
    try simp only [xT, xF, xN, xM] at hc3
    refine AMx.skip ?_
    refine gR [] [InR .i64 ((n : Int) + 1)] 32 [(3, vc (i6 ((n : Int) + 1))), (21, vp 21 0)] [(21, AObj.iter s (pos + (decS s pos).2))] (show InR .i64 ((n : Int) + 1) from (inR64 (by first | omega | (have hz := leftN_le hN; omega)) (by first | omega | (have hz := leftN_le hN; omega)))) ?_
    refine AMx.blk ?_
    refine AMx.ent_inv (s' := AS.lst 32 [(3, vc (i6 ((n : Int) + 1))), (21, vp 21 0)] [(21, AObj.iter s (pos + (decS s pos).2))]) (ent_proj [3, 21] [21]) ?_
    refine AMx.inv ⟨_, ?_, pos + (decS s pos).2, n + 1, ?_, rfl, ?_⟩
    rotate_left
    · exact ⟨by omega, left_ok (by omega) hA (by assumption), leftN_step (by omega) hN⟩
    · rfl
    · omega
  ·
   refine gR [] [List.length s ≤ pos] 32 [(3, vc (i6 (n : Int))), (21, vp 21 0), (22, AV.tup [tc (bo false)]), (23, vc (bo false))] [(21, AObj.iter s pos)] (show List.length s ≤ pos from (by first | omega | (have hz := leftN_le hN; omega))) ?_
   refine gQ ?_
   refine gBf ?_
   refine AMx.exit ?_
   refine AMx.code_exit ?_
   refine AMx.inv_exit ?_
   refine AMx.blk_exit ?_
   refine gQ ?_
   refine gS [] [] 32 [(31, vc (bo (decide (12 < (n : Int)))))] [] trivial ?_
   refine gC (12 < (n : Int)) (fun hc5 => ?_) fun hc5 => ?_
   ·
    refine gS [] [] 32 [(2, vc (i6 5))] [] trivial ?_
    exact gT (vc (i6 5)) (by rw [part_3 (by simpa [or_assoc, and_assoc] using hc1) (left_end (by omega) hA) (by have := leftN_end (by omega) hN; omega)])
   ·
    refine AMx.skip ?_
    refine gS [] [] 32 [(2, vc (i6 0))] [] trivial ?_
    exact gT (vc (i6 0)) (by rw [part_4 (by simpa [or_assoc, and_assoc] using hc1) (left_end (by omega) hA) (by have := leftN_end (by omega) hN; omega)])
theorem f104_body : Tryz.f104.body = some (.seq (.region 0 (rg Tryz.f104 0) false) (.seq (.seq (.region 1 (rg Tryz.f104 1) false) (.cond (.tmp 20) (.seq (.region 2 (rg Tryz.f104 2) false) (.ret)) (.skip))) (.seq (.region 3 (rg Tryz.f104 3) false) (.seq (.seq (.region 4 (rg Tryz.f104 4) false) (.block 0 (.loop (.seq (.seq (.region 5 (rg Tryz.f104 5) false) (.cond (.tmp 24) (.skip) (.exit 0))) (.block 1 (.seq (.region 6 (rg Tryz.f104 6) false) (.seq (.seq (.region 7 (rg Tryz.f104 7) false) (.cond (.tmp 33) (.seq (.region 8 (rg Tryz.f104 8) false) (.ret)) (.skip))) (.seq (.region 9 (rg Tryz.f104 9) false) (.region 10 (rg Tryz.f104 10) false))))))))) (.seq (.seq (.region 11 (rg Tryz.f104 11) false) (.cond (.tmp 40) (.seq (.region 12 (rg Tryz.f104 12) false) (.ret)) (.skip))) (.seq (.region 13 (rg Tryz.f104 13) false) (.ret))))))) := by kernel_rfl
set_option maxRecDepth 100000 in
set_option maxHeartbeats 8000000 in
theorem RPart_c (s : Bytes) (hb : s.length ≤ 100000) : Pure Tryz.prog 104 [tc (st s)] (vc (i6 (partS s))) := by
 refine Pure.of_body Tryz.func104 f104_body (by kernel_rfl) Tryz.ntmps104 (by kernel_rfl) (by kernel_rfl) ?_
 refine gS [] [] 41 [(0, vc (st s))] [] trivial ?_
 refine gQ ?_
 refine gS [] [((decide (s = [])) = false) → allP [], ((decide (s = [])) = false) → allP [(decide (s = [])) = false], (decide (s = [])) = false → allP [(decide (s = [])) = false], (((decide (s = [])) || (decide (s = [46]))) = false) → allP [], (((decide (s = [])) || (decide (s = [46]))) = false) → allP [((decide (s = [])) || (decide (s = [46]))) = false], ((decide (s = [])) || (decide (s = [46]))) = false → allP [((decide (s = [])) || (decide (s = [46]))) = false], ((((decide (s = [])) || (decide (s = [46]))) || (decide (s = [46, 46]))) = false) → allP [], ((((decide (s = [])) || (decide (s = [46]))) || (decide (s = [46, 46]))) = false) → allP [(((decide (s = [])) || (decide (s = [46]))) || (decide (s = [46, 46]))) = false], (((decide (s = [])) || (decide (s = [46]))) || (decide (s = [46, 46]))) = false → allP [(((decide (s = [])) || (decide (s = [46]))) || (decide (s = [46, 46]))) = false]] 41 [(0, vc (st s)), (20, vc (bo ((((decide (s = [])) || (decide (s = [46]))) || (decide (s = [46, 46]))) || (decide (s = [45])))))] [] ⟨(fun _ => trivial), (fun hp => hp), (fun hp2 => (by first | exact hp2 | exact ⟨hp, hp2⟩)), (fun _ => trivial), (fun hp => hp), (fun hp2 => (by first | exact hp2 | exact ⟨hp, hp2⟩)), (fun _ => trivial), (fun hp => hp), (fun hp2 => (by first | exact hp2 | exact ⟨hp, hp2⟩))⟩ ?_
 refine gB (((((decide (s = [])) || (decide (s = [46]))) || (decide (s = [46, 46]))) || (decide (s = [45])))) (fun hc1 => ?_) fun hc1 => ?_
 ·
  try simp only [xT, xF, xO, xP] at hc1
  refine gS [] [] 41 [(2, vc (i6 4))] [] trivial ?_
  exact gT (vc (i6 4)) (by first | rw [part_1 (by simpa [or_assoc, and_assoc] using hc1)] | rw [part_2 (left_bad (by omega) hA (by rw [← ok_next]; assumption))])
 ·
  try simp only [xT, xF, xO, xP] at hc1
  refine AMx.skip ?_
  refine gS [] [] 41 [(0, vc (st s)), (3, vc (i6 0))] [] trivial ?_
  refine gQ ?_
  refine gS [] [] 41 [(0, vc (st s)), (3, vc (i6 0)), (4, vc (i6 0))] [] trivial ?_
  refine AMx.block ?_
  refine AMx.ent (s' := AS.lst 41 [(0, vc (st s)), (3, vc (i6 0)), (4, vc (i6 0))] []) (ent_proj [0, 3, 4] []) ?_
  refine AMx.loop (fun mm ss => ∃ (pos : Nat) (n : Nat), (pos ≤ s.length ∧ LeftAll s pos ∧ LeftN s pos n) ∧ mm = s.length - pos ∧ ss = AS.lst 41 [(0, vc (st s)), (3, vc (i6 (n : Int))), (4, vc (i6 (pos : Int)))] []) ⟨0, 0, ?_, rfl, ?_⟩ ?_
  · exact ⟨Nat.zero_le _, left_0 s, leftN_0 s⟩
  · rfl
  rintro mm ss ⟨pos, n, ⟨hI, hA, hN⟩, rfl, rfl⟩
  refine gQ ?_
  refine gS [] [] 41 [(0, vc (st s)), (3, vc (i6 (n : Int))), (4, vc (i6 (pos : Int))), (24, vc (bo (decide ((pos : Int) < (List.length s : Int)))))] [] trivial ?_
  refine gC ((pos : Int) < (List.length s : Int)) (fun hc2 => ?_) fun hc2 => ?_
  ·
   refine AMx.skip ?_
   refine AMx.block ?_
   refine gS [(2, CE.call [] [] (AV.tup [tc (i6 ((nextS s pos).1)), tc (i6 ((nextS s pos).2))]) [])] [Spec Tryz.prog 133 [tc (st s), tc (i6 (pos : Int))] (ofH []) (AV.tup [tc (i6 ((nextS s pos).1)), tc (i6 ((nextS s pos).2))]) (ofH [])] 41 [(0, vc (st s)), (3, vc (i6 (n : Int))), (4, vc (i6 (pos : Int))), (5, vc (i6 ((nextS s pos).1))), (6, vc (i6 ((nextS s pos).2)))] [] (Next_c s pos (by omega) (by omega)) ?_
   refine gQ ?_
   refine gS [(1, CE.call [] [] (vc (bo (runeOk ((nextS s pos).1)))) [])] [Spec Tryz.prog 134 [tc (i6 ((nextS s pos).1))] (ofH []) (vc (bo (runeOk ((nextS s pos).1)))) (ofH [])] 41 [(0, vc (st s)), (3, vc (i6 (n : Int))), (4, vc (i6 (pos : Int))), (6, vc (i6 ((nextS s pos).2))), (33, vc (bo (!(runeOk ((nextS s pos).1)))))] [] (RRune_c ((nextS s pos).1)) ?_
   refine gB (!(runeOk ((nextS s pos).1))) (fun hc3 => ?_) fun hc3 => ?_
   ·
    try simp only [xT, xF, xN, xM] at hc3
    refine gS [] [] 41 [(2, vc (i6 4))] [] trivial ?_
    exact gT (vc (i6 4)) (by first | rw [part_1 (by simpa [or_assoc, and_assoc] using hc1)] | rw [part_2 (left_bad (by omega) hA (by rw [← ok_next]; assumption))])
   ·
    try simp only [xT, xF, xN, xM] at hc3
    refine AMx.skip ?_
    refine gS [] [InR .i64 ((n : Int) + 1)] 41 [(0, vc (st s)), (3, vc (i6 ((n : Int) + 1))), (4, vc (i6 (pos : Int))), (6, vc (i6 ((nextS s pos).2)))] [] (show InR .i64 ((n : Int) + 1) from (inR64 (by first | omega | (have hz := leftN_le hN; omega) | (have hs := next_size (s := s) (i := pos) (by omega); have hd := dec_ok (s := s) (pos := pos) (by omega); omega)) (by first | omega | (have hz := leftN_le hN; omega) | (have hs := next_size (s := s) (i := pos) (by omega); have hd := dec_ok (s := s) (pos := pos) (by omega); omega)))) ?_
    refine gR [] [InR .i64 ((pos : Int) + ((nextS s pos).2))] 41 [(0, vc (st s)), (3, vc (i6 ((n : Int) + 1))), (4, vc (i6 ((pos : Int) + ((nextS s pos).2))))] [] (show InR .i64 ((pos : Int) + ((nextS s pos).2)) from (inR64 (by first | omega | (have hz := leftN_le hN; omega) | (have hs := next_size (s := s) (i := pos) (by omega); have hd := dec_ok (s := s) (pos := pos) (by omega); omega)) (by first | omega | (have hz := leftN_le hN; omega) | (have hs := next_size (s := s) (i := pos) (by omega); have hd := dec_ok (s := s) (pos := pos) (by omega); omega)))) ?_
    refine AMx.blk ?_
    refine AMx.ent_inv (s' := AS.lst 41 [(0, vc (st s)), (3, vc (i6 ((n : Int) + 1))), (4, vc (i6 ((pos : Int) + ((nextS s pos).2))))] []) (ent_proj [0, 3, 4] []) ?_
    refine AMx.inv ⟨_, ?_, pos + (decS s pos).2, n + 1, ?_, rfl, ?_⟩
    rotate_left
    · have hd := dec_ok (s := s) (pos := pos) (by omega); exact ⟨by omega, left_ok (by omega) hA (by rw [← ok_next]; assumption), leftN_step (by omega) hN⟩
    · rw [next_size (by omega)]; rfl
    · have hd := dec_ok (s := s) (pos := pos) (by omega); omega
  ·
   refine AMx.exit ?_
   refine AMx.code_exit ?_
   refine AMx.inv_exit ?_
   refine AMx.blk_exit ?_
   refine gQ ?_
   refine gS [] [] 41 [(40, vc (bo (decide (12 < (n : Int)))))] [] trivial ?_
   refine gC (12 < (n : Int)) (fun hc4 => ?_) fun hc4 => ?_
   ·
    refine gS [] [] 41 [(2, vc (i6 5))] [] trivial ?_
    exact gT (vc (i6 5)) (by rw [part_3 (by simpa [or_assoc, and_assoc] using hc1) (left_end (by omega) hA) (by have := leftN_end (by omega) hN; omega)])
   ·
    refine AMx.skip ?_
    refine gS [] [] 41 [(2, vc (i6 0))] [] trivial ?_
    exact gT (vc (i6 0)) (by rw [part_4 (by simpa [or_assoc, and_assoc] using hc1) (left_end (by omega) hA) (by have := leftN_end (by omega) hN; omega)])
end AL.Route
namespace Go.Proofs
open Go.Shelf
def Tryz.lays169_ren : Go.Shelf.Ren := ⟨fun | 169 => 121 | n => n, fun | 70 => 175 | 9 => 9 | 0 => 0 | 72 => 177 | 37 => 104 | 127 => 203 | 3 => 3 | 5 => 5 | n => n, fun | n => n⟩
theorem Tryz.lays169 : Go.Proofs.Lays.n169 Tryz.prog Tryz.lays169_ren := {
  mixed := by kernel_rfl
  f169 := Tryz.func121.trans (congrArg some (by kernel_rfl))
  t0 := Tryz.underlying0
  a0 := Tryz.isAgg0
  z0 := Tryz.sizeOf0
  v0 := Tryz.zeroValue0
  t3 := Tryz.underlying3
  a3 := Tryz.isAgg3
  z3 := Tryz.sizeOf3
  v3 := Tryz.zeroValue3
  t9 := Tryz.underlying9
  a9 := Tryz.isAgg9
  z9 := Tryz.sizeOf9
  v9 := Tryz.zeroValue9
  t37 := Tryz.underlying104
  a37 := Tryz.isAgg104
  z37 := Tryz.sizeOf104
  v37 := Tryz.zeroValue104
  t70 := Tryz.underlying175
  a70 := Tryz.isAgg175
  z70 := Tryz.sizeOf175
  v70 := Tryz.zeroValue175
  t72 := Tryz.underlying177
  a72 := Tryz.isAgg177
  z72 := Tryz.sizeOf177
  v72 := Tryz.zeroValue177
  t127 := Tryz.underlying203
  a127 := Tryz.isAgg203
  z127 := Tryz.sizeOf203
  v127 := Tryz.zeroValue203 }
theorem Tryz.Builder_Extra_169 : Builder.Extra Tryz.prog Tryz.lays169_ren := {
  sizeBuilder := by kernel_rfl
  liesBuilder := by kernel_rfl
  t5 := Tryz.underlying5
  a5 := Tryz.isAgg5
  z5 := Tryz.sizeOf5
  v5 := Tryz.zeroValue5
  infoByte := by kernel_rfl
  cellsByte := by kernel_rfl
  sizeByte := by kernel_rfl
  neB5 := by decide }
def Tryz.lays156_ren : Go.Shelf.Ren := ⟨fun | 156 => 88 | 165 => 122 | 166 => 123 | 169 => 121 | 240 => 141 | 241 => 143 | 276 => 156 | 277 => 158 | n => n, fun | 31 => 44 | 9 => 9 | 3 => 3 | 4 => 4 | 0 => 0 | 20 => 20 | 72 => 177 | 76 => 180 | 70 => 175 | 37 => 104 | 75 => 179 | 127 => 203 | 164 => 213 | 5 => 5 | 80 => 182 | n => n, fun | n => n⟩
theorem Tryz.lays156 : Go.Proofs.Lays.n156 Tryz.prog Tryz.lays156_ren := {
  mixed := by kernel_rfl
  f156 := Tryz.func88.trans (congrArg some (by kernel_rfl))
  f165 := Tryz.func122.trans (congrArg some (by kernel_rfl))
  f166 := Tryz.func123.trans (congrArg some (by kernel_rfl))
  f169 := Tryz.func121.trans (congrArg some (by kernel_rfl))
  f240 := Tryz.func141.trans (congrArg some (by kernel_rfl))
  f241 := Tryz.func143.trans (congrArg some (by kernel_rfl))
  f276 := Tryz.func156.trans (congrArg some (by kernel_rfl))
  f277 := Tryz.func158.trans (congrArg some (by kernel_rfl))
  t0 := Tryz.underlying0
  a0 := Tryz.isAgg0
  z0 := Tryz.sizeOf0
  v0 := Tryz.zeroValue0
  t3 := Tryz.underlying3
  a3 := Tryz.isAgg3
  z3 := Tryz.sizeOf3
  v3 := Tryz.zeroValue3
  t4 := Tryz.underlying4
  a4 := Tryz.isAgg4
  z4 := Tryz.sizeOf4
  v4 := Tryz.zeroValue4
  t9 := Tryz.underlying9
  a9 := Tryz.isAgg9
  z9 := Tryz.sizeOf9
  v9 := Tryz.zeroValue9
  t20 := Tryz.underlying20
  a20 := Tryz.isAgg20
  z20 := Tryz.sizeOf20
  v20 := Tryz.zeroValue20
  t31 := Tryz.underlying44
  a31 := Tryz.isAgg44
  z31 := Tryz.sizeOf44
  v31 := Tryz.zeroValue44
  t37 := Tryz.underlying104
  a37 := Tryz.isAgg104
  z37 := Tryz.sizeOf104
  v37 := Tryz.zeroValue104
  t70 := Tryz.underlying175
  a70 := Tryz.isAgg175
  z70 := Tryz.sizeOf175
  v70 := Tryz.zeroValue175
  t72 := Tryz.underlying177
  a72 := Tryz.isAgg177
  z72 := Tryz.sizeOf177
  v72 := Tryz.zeroValue177
  t75 := Tryz.underlying179
  a75 := Tryz.isAgg179
  z75 := Tryz.sizeOf179
  v75 := Tryz.zeroValue179
  t76 := Tryz.underlying180
  a76 := Tryz.isAgg180
  z76 := Tryz.sizeOf180
  v76 := Tryz.zeroValue180
  t127 := Tryz.underlying203
  a127 := Tryz.isAgg203
  z127 := Tryz.sizeOf203
  v127 := Tryz.zeroValue203
  t164 := Tryz.underlying213
  a164 := Tryz.isAgg213
  z164 := Tryz.sizeOf213
  v164 := Tryz.zeroValue213 }
theorem Tryz.Builder_Extra_156 : Builder.Extra Tryz.prog Tryz.lays156_ren := {
  sizeBuilder := by kernel_rfl
  liesBuilder := by kernel_rfl
  t5 := Tryz.underlying5
  a5 := Tryz.isAgg5
  z5 := Tryz.sizeOf5
  v5 := Tryz.zeroValue5
  infoByte := by kernel_rfl
  cellsByte := by kernel_rfl
  sizeByte := by kernel_rfl
  neB5 := by decide }
open Go.RowKit in
theorem Tryz.strings_Join_none (a : Option Addr) (c : Nat) (sep : ByteArray) (w : World) :
    Calls Tryz.prog 88 #[.slice a 0 c, .string sep] w fun e w' => e = .returned (.string ⟨#[]⟩) ∧ w' = w := Any.strings_Join_none Tryz.lays156 Tryz.Builder_Extra_156 a c sep w
open Go.RowKit in
theorem Tryz.strings_Join (bk o c : Nat) (xs : List ByteArray) (sep : ByteArray) (w : World) (hcells : ∀ (j : Nat) x, xs[j]? = some x → w.cell? ⟨bk, o + j, none⟩ = some (.string x)) (hbk : bk < w.heap.size) (hN : xs.length ≤ 140737488355328) (hcap : xs.length ≤ c) (hlen : (Lib.join (xs.map (·.data.toList)) sep.data.toList).length ≤ 140737488355328) :
    Calls Tryz.prog 88 #[.slice (some ⟨bk, o, none⟩) xs.length c, .string sep] w fun e w' => e = .returned (.string ⟨(Lib.join (xs.map (·.data.toList)) sep.data.toList).toArray⟩) ∧ Below w.heap.size w w' := Any.strings_Join Tryz.lays156 Tryz.Builder_Extra_156 bk o c xs sep w hcells hbk hN hcap hlen
def Tryz.lays103_ren : Go.Shelf.Ren := ⟨fun | 103 => 167 | 210 => 172 | 206 => 173 | n => n, fun | 9 => 9 | 4 => 4 | 24 => 211 | 3 => 3 | n => n, fun | n => n⟩
theorem Tryz.lays103 : Go.Proofs.Lays.n103 Tryz.prog Tryz.lays103_ren := {
  mixed := by kernel_rfl
  f103 := Tryz.func167.trans (congrArg some (by kernel_rfl))
  f206 := Tryz.func173.trans (congrArg some (by kernel_rfl))
  f210 := Tryz.func172.trans (congrArg some (by kernel_rfl))
  t3 := Tryz.underlying3
  a3 := Tryz.isAgg3
  z3 := Tryz.sizeOf3
  v3 := Tryz.zeroValue3
  t4 := Tryz.underlying4
  a4 := Tryz.isAgg4
  z4 := Tryz.sizeOf4
  v4 := Tryz.zeroValue4
  t9 := Tryz.underlying9
  a9 := Tryz.isAgg9
  z9 := Tryz.sizeOf9
  v9 := Tryz.zeroValue9
  t24 := Tryz.underlying211
  a24 := Tryz.isAgg211
  z24 := Tryz.sizeOf211
  v24 := Tryz.zeroValue211 }
open Go.RowKit in
theorem Tryz.strings_CutPrefix (s p : ByteArray) (w : World) :
    Calls Tryz.prog 167 #[.string s, .string p] w fun e w' => e = .returned (.tuple #[.string ⟨(Lib.trimPrefix s.data.toList p.data.toList).toArray⟩, .bool (Lib.hasPrefix s.data.toList p.data.toList)]) ∧ w' = w := Any.strings_CutPrefix Tryz.lays103 s p w
open Go.RowKit in
theorem Tryz.Builder_String_any_k (B b : Nat) (l : List UInt8) (w : World) (h : Lib.IsBuilderF 177 5 B b (Lib.byteCells l) w) (hBw : B ≤ w.heap.size) :
    Calls Tryz.prog 121 #[.pointer (some ⟨b, 0, none⟩)] w fun e w' => e = .returned (.string ⟨l.toArray⟩) ∧ (Lib.IsBuilderF 177 5 B b (Lib.byteCells l) w' ∧ Below B w w' ∧ Lib.OthersKept 5 (some b) w w') := Any.Builder_String_any_k Tryz.lays169 Tryz.Builder_Extra_169 B b l w h hBw
def Tryz.lays219_ren : Go.Shelf.Ren := ⟨fun | 219 => 149 | 217 => 162 | 225 => 163 | 224 => 164 | 267 => 165 | 266 => 169 | 314 => 170 | n => n, fun | 9 => 9 | 3 => 3 | 4 => 4 | 5 => 5 | 46 => 129 | 146 => 220 | 51 => 171 | n => n, fun | 1 => 0 | n => n⟩
theorem Tryz.lays219 : Go.Proofs.Lays.n219 Tryz.prog Tryz.lays219_ren := {
  mixed := by kernel_rfl
  f217 := Tryz.func162.trans (congrArg some (by kernel_rfl))
  f219 := Tryz.func149.trans (congrArg some (by kernel_rfl))
  f224 := Tryz.func164.trans (congrArg some (by kernel_rfl))
  f225 := Tryz.func163.trans (congrArg some (by kernel_rfl))
  f266 := Tryz.func169.trans (congrArg some (by kernel_rfl))
  f267 := Tryz.func165.trans (congrArg some (by kernel_rfl))
  f314 := Tryz.func170.trans (congrArg some (by kernel_rfl))
  t3 := Tryz.underlying3
  a3 := Tryz.isAgg3
  z3 := Tryz.sizeOf3
  v3 := Tryz.zeroValue3
  t4 := Tryz.underlying4
  a4 := Tryz.isAgg4
  z4 := Tryz.sizeOf4
  v4 := Tryz.zeroValue4
  t5 := Tryz.underlying5
  a5 := Tryz.isAgg5
  z5 := Tryz.sizeOf5
  v5 := Tryz.zeroValue5
  t9 := Tryz.underlying9
  a9 := Tryz.isAgg9
  z9 := Tryz.sizeOf9
  v9 := Tryz.zeroValue9
  t46 := Tryz.underlying129
  a46 := Tryz.isAgg129
  z46 := Tryz.sizeOf129
  v46 := Tryz.zeroValue129
  t51 := Tryz.underlying171
  a51 := Tryz.isAgg171
  z51 := Tryz.sizeOf171
  v51 := Tryz.zeroValue171
  t146 := Tryz.underlying220
  a146 := Tryz.isAgg220
  z146 := Tryz.sizeOf220
  v146 := Tryz.zeroValue220
  g1 := by kernel_rfl }
open Go.RowKit Go.Lib in
theorem Tryz.stringslite_Index_one (s : ByteArray) (c : UInt8) (w : World) :
    Calls Tryz.prog 149 #[.string s, .string ⟨#[c]⟩] w fun e w' => e = .returned (.int .i64 (Lib.indexByte s.data.toList c)) ∧ w' = w := Any.stringslite_Index_one Tryz.lays219 s c w
def Tryz.lays143_ren : Go.Shelf.Ren := ⟨fun | 143 => 148 | 219 => 149 | 217 => 162 | 225 => 163 | 224 => 164 | 267 => 165 | 266 => 169 | 314 => 170 | n => n, fun | 9 => 9 | 3 => 3 | 4 => 4 | 5 => 5 | 46 => 129 | 146 => 220 | 51 => 171 | n => n, fun | 1 => 0 | n => n⟩
theorem Tryz.lays143 : Go.Proofs.Lays.n143 Tryz.prog Tryz.lays143_ren := {
  mixed := by kernel_rfl
  f143 := Tryz.func148.trans (congrArg some (by kernel_rfl))
  f217 := Tryz.func162.trans (congrArg some (by kernel_rfl))
  f219 := Tryz.func149.trans (congrArg some (by kernel_rfl))
  f224 := Tryz.func164.trans (congrArg some (by kernel_rfl))
  f225 := Tryz.func163.trans (congrArg some (by kernel_rfl))
  f266 := Tryz.func169.trans (congrArg some (by kernel_rfl))
  f267 := Tryz.func165.trans (congrArg some (by kernel_rfl))
  f314 := Tryz.func170.trans (congrArg some (by kernel_rfl))
  t3 := Tryz.underlying3
  a3 := Tryz.isAgg3
  z3 := Tryz.sizeOf3
  v3 := Tryz.zeroValue3
  t4 := Tryz.underlying4
  a4 := Tryz.isAgg4
  z4 := Tryz.sizeOf4
  v4 := Tryz.zeroValue4
  t5 := Tryz.underlying5
  a5 := Tryz.isAgg5
  z5 := Tryz.sizeOf5
  v5 := Tryz.zeroValue5
  t9 := Tryz.underlying9
  a9 := Tryz.isAgg9
  z9 := Tryz.sizeOf9
  v9 := Tryz.zeroValue9
  t46 := Tryz.underlying129
  a46 := Tryz.isAgg129
  z46 := Tryz.sizeOf129
  v46 := Tryz.zeroValue129
  t51 := Tryz.underlying171
  a51 := Tryz.isAgg171
  z51 := Tryz.sizeOf171
  v51 := Tryz.zeroValue171
  t146 := Tryz.underlying220
  a146 := Tryz.isAgg220
  z146 := Tryz.sizeOf220
  v146 := Tryz.zeroValue220
  g1 := by kernel_rfl }
open Go.RowKit Go.Lib in
theorem Tryz.strings_Index_one (s : ByteArray) (c : UInt8) (w : World) :
    Calls Tryz.prog 148 #[.string s, .string ⟨#[c]⟩] w fun e w' => e = .returned (.int .i64 (Lib.indexByte s.data.toList c)) ∧ w' = w := Any.strings_Index_one Tryz.lays143 s c w
def Tryz.lays138_ren : Go.Shelf.Ren := ⟨fun | 138 => 147 | 195 => 159 | 218 => 161 | 143 => 148 | 219 => 149 | 217 => 162 | 225 => 163 | 224 => 164 | 267 => 165 | 266 => 169 | 314 => 170 | n => n, fun | 9 => 9 | 3 => 3 | 4 => 4 | 5 => 5 | 0 => 0 | 46 => 129 | 146 => 220 | 51 => 171 | n => n, fun | 1 => 0 | n => n⟩
theorem Tryz.lays138 : Go.Proofs.Lays.n138 Tryz.prog Tryz.lays138_ren := {
  mixed := by kernel_rfl
  f138 := Tryz.func147.trans (congrArg some (by kernel_rfl))
  f143 := Tryz.func148.trans (congrArg some (by kernel_rfl))
  f195 := Tryz.func159.trans (congrArg some (by kernel_rfl))
  f217 := Tryz.func162.trans (congrArg some (by kernel_rfl))
  f218 := Tryz.func161.trans (congrArg some (by kernel_rfl))
  f219 := Tryz.func149.trans (congrArg some (by kernel_rfl))
  f224 := Tryz.func164.trans (congrArg some (by kernel_rfl))
  f225 := Tryz.func163.trans (congrArg some (by kernel_rfl))
  f266 := Tryz.func169.trans (congrArg some (by kernel_rfl))
  f267 := Tryz.func165.trans (congrArg some (by kernel_rfl))
  f314 := Tryz.func170.trans (congrArg some (by kernel_rfl))
  t0 := Tryz.underlying0
  a0 := Tryz.isAgg0
  z0 := Tryz.sizeOf0
  v0 := Tryz.zeroValue0
  t3 := Tryz.underlying3
  a3 := Tryz.isAgg3
  z3 := Tryz.sizeOf3
  v3 := Tryz.zeroValue3
  t4 := Tryz.underlying4
  a4 := Tryz.isAgg4
  z4 := Tryz.sizeOf4
  v4 := Tryz.zeroValue4
  t5 := Tryz.underlying5
  a5 := Tryz.isAgg5
  z5 := Tryz.sizeOf5
  v5 := Tryz.zeroValue5
  t9 := Tryz.underlying9
  a9 := Tryz.isAgg9
  z9 := Tryz.sizeOf9
  v9 := Tryz.zeroValue9
  t46 := Tryz.underlying129
  a46 := Tryz.isAgg129
  z46 := Tryz.sizeOf129
  v46 := Tryz.zeroValue129
  t51 := Tryz.underlying171
  a51 := Tryz.isAgg171
  z51 := Tryz.sizeOf171
  v51 := Tryz.zeroValue171
  t146 := Tryz.underlying220
  a146 := Tryz.isAgg220
  z146 := Tryz.sizeOf220
  v146 := Tryz.zeroValue220
  g1 := by kernel_rfl }
open Go.RowKit Go.Lib in
theorem Tryz.strings_Count_one (s : ByteArray) (c : UInt8) (w : World) :
    Calls Tryz.prog 147 #[.string s, .string ⟨#[c]⟩] w fun e w' => e = .returned (.int .i64 (Lib.countByte s.data.toList c)) ∧ w' = w := Any.strings_Count_one Tryz.lays138 s c w
def Tryz.lays190_ren : Go.Shelf.Ren := ⟨fun | 190 => 47 | 125 => 79 | 258 => 78 | 128 => 115 | 129 => 116 | 302 => 106 | 303 => 107 | 304 => 108 | 305 => 109 | 306 => 110 | 307 => 111 | 308 => 112 | 309 => 113 | 310 => 114 | 333 => 135 | 329 => 136 | 330 => 137 | 334 => 138 | 335 => 139 | 336 => 105 | 344 => 154 | n => n, fun | 31 => 44 | 9 => 9 | 3 => 3 | 46 => 129 | 0 => 0 | 51 => 171 | 53 => 140 | 4 => 4 | 183 => 165 | 182 => 164 | 131 => 86 | 5 => 5 | 218 => 196 | 222 => 200 | 228 => 209 | 229 => 193 | n => n, fun | n => n⟩
theorem Tryz.lays190 : Go.Proofs.Lays.n190 Tryz.prog Tryz.lays190_ren := {
  mixed := by kernel_rfl
  f125 := Tryz.func79.trans (congrArg some (by kernel_rfl))
  f128 := Tryz.func115.trans (congrArg some (by kernel_rfl))
  f129 := Tryz.func116.trans (congrArg some (by kernel_rfl))
  f190 := Tryz.func47.trans (congrArg some (by kernel_rfl))
  f258 := Tryz.func78.trans (congrArg some (by kernel_rfl))
  f302 := Tryz.func106.trans (congrArg some (by kernel_rfl))
  f303 := Tryz.func107.trans (congrArg some (by kernel_rfl))
  f304 := Tryz.func108.trans (congrArg some (by kernel_rfl))
  f305 := Tryz.func109.trans (congrArg some (by kernel_rfl))
  f306 := Tryz.func110.trans (congrArg some (by kernel_rfl))
  f307 := Tryz.func111.trans (congrArg some (by kernel_rfl))
  f308 := Tryz.func112.trans (congrArg some (by kernel_rfl))
  f309 := Tryz.func113.trans (congrArg some (by kernel_rfl))
  f310 := Tryz.func114.trans (congrArg some (by kernel_rfl))
  f329 := Tryz.func136.trans (congrArg some (by kernel_rfl))
  f330 := Tryz.func137.trans (congrArg some (by kernel_rfl))
  f333 := Tryz.func135.trans (congrArg some (by kernel_rfl))
  f334 := Tryz.func138.trans (congrArg some (by kernel_rfl))
  f335 := Tryz.func139.trans (congrArg some (by kernel_rfl))
  f336 := Tryz.func105.trans (congrArg some (by kernel_rfl))
  f344 := Tryz.func154.trans (congrArg some (by kernel_rfl))
  t0 := Tryz.underlying0
  a0 := Tryz.isAgg0
  z0 := Tryz.sizeOf0
  v0 := Tryz.zeroValue0
  t3 := Tryz.underlying3
  a3 := Tryz.isAgg3
  z3 := Tryz.sizeOf3
  v3 := Tryz.zeroValue3
  t4 := Tryz.underlying4
  a4 := Tryz.isAgg4
  z4 := Tryz.sizeOf4
  v4 := Tryz.zeroValue4
  t5 := Tryz.underlying5
  a5 := Tryz.isAgg5
  z5 := Tryz.sizeOf5
  v5 := Tryz.zeroValue5
  t9 := Tryz.underlying9
  a9 := Tryz.isAgg9
  z9 := Tryz.sizeOf9
  v9 := Tryz.zeroValue9
  t31 := Tryz.underlying44
  a31 := Tryz.isAgg44
  z31 := Tryz.sizeOf44
  v31 := Tryz.zeroValue44
  t46 := Tryz.underlying129
  a46 := Tryz.isAgg129
  z46 := Tryz.sizeOf129
  v46 := Tryz.zeroValue129
  t51 := Tryz.underlying171
  a51 := Tryz.isAgg171
  z51 := Tryz.sizeOf171
  v51 := Tryz.zeroValue171
  t53 := Tryz.underlying140
  a53 := Tryz.isAgg140
  z53 := Tryz.sizeOf140
  v53 := Tryz.zeroValue140
  t131 := Tryz.underlying86
  a131 := Tryz.isAgg86
  z131 := Tryz.sizeOf86
  v131 := Tryz.zeroValue86
  t182 := Tryz.underlying164
  a182 := Tryz.isAgg164
  z182 := Tryz.sizeOf164
  v182 := Tryz.zeroValue164
  t183 := Tryz.underlying165
  a183 := Tryz.isAgg165
  z183 := Tryz.sizeOf165
  v183 := Tryz.zeroValue165
  t218 := Tryz.underlying196
  a218 := Tryz.isAgg196
  z218 := Tryz.sizeOf196
  v218 := Tryz.zeroValue196
  t222 := Tryz.underlying200
  a222 := Tryz.isAgg200
  z222 := Tryz.sizeOf200
  v222 := Tryz.zeroValue200
  t228 := Tryz.underlying209
  a228 := Tryz.isAgg209
  z228 := Tryz.sizeOf209
  v228 := Tryz.zeroValue209
  t229 := Tryz.underlying193
  a229 := Tryz.isAgg193
  z229 := Tryz.sizeOf193
  v229 := Tryz.zeroValue193 }
open Go.Sort Go.RowKit in
theorem Tryz.slices_Sort_string (blk off cap : Nat) (ss : List (List UInt8)) (w : World) (hH : Holds encStr w blk off ss.toArray) (hblk : blk < w.heap.size) (hsz : ss.length < 4611686018427387904) :
    Calls Tryz.prog 47 #[.slice (some ⟨blk, off, none⟩) ss.length cap] w fun e w' =>
      e = .returned (.tuple #[]) ∧ ∃ n os, w' = grow (putRow encStr (Sort.ahead w n) blk off (ss.mergeSort fun x y => decide (x ≤ y)).toArray) os := Any.slices_Sort_string Tryz.lays190 blk off cap ss w hH hblk hsz
def Tryz.lays260_ren : Go.Shelf.Ren := ⟨fun | 260 => 168 | n => n, fun | 9 => 9 | 21 => 21 | 3 => 3 | 4 => 4 | 5 => 5 | 119 => 223 | 0 => 0 | 46 => 129 | 139 => 226 | 138 => 225 | n => n, fun | 3 => 1 | 4 => 2 | n => n⟩
theorem Tryz.lays260 : Go.Proofs.Lays.n260 Tryz.prog Tryz.lays260_ren := {
  mixed := by kernel_rfl
  f260 := Tryz.func168.trans (congrArg some (by kernel_rfl))
  t0 := Tryz.underlying0
  a0 := Tryz.isAgg0
  z0 := Tryz.sizeOf0
  v0 := Tryz.zeroValue0
  t3 := Tryz.underlying3
  a3 := Tryz.isAgg3
  z3 := Tryz.sizeOf3
  v3 := Tryz.zeroValue3
  t4 := Tryz.underlying4
  a4 := Tryz.isAgg4
  z4 := Tryz.sizeOf4
  v4 := Tryz.zeroValue4
  t5 := Tryz.underlying5
  a5 := Tryz.isAgg5
  z5 := Tryz.sizeOf5
  v5 := Tryz.zeroValue5
  t9 := Tryz.underlying9
  a9 := Tryz.isAgg9
  z9 := Tryz.sizeOf9
  v9 := Tryz.zeroValue9
  t21 := Tryz.underlying21
  a21 := Tryz.isAgg21
  z21 := Tryz.sizeOf21
  v21 := Tryz.zeroValue21
  t46 := Tryz.underlying129
  a46 := Tryz.isAgg129
  z46 := Tryz.sizeOf129
  v46 := Tryz.zeroValue129
  t119 := Tryz.underlying223
  a119 := Tryz.isAgg223
  z119 := Tryz.sizeOf223
  t138 := Tryz.underlying225
  a138 := Tryz.isAgg225
  z138 := Tryz.sizeOf225
  v138 := Tryz.zeroValue225
  t139 := Tryz.underlying226
  a139 := Tryz.isAgg226
  z139 := Tryz.sizeOf226
  v139 := Tryz.zeroValue226
  g3 := by kernel_rfl
  g4 := by kernel_rfl }
open Go.RowKit Go.Sort in
theorem Tryz.slices_Sort_string_none (p : Option Addr) (cap : Nat) (w : World) :
    Calls Tryz.prog 47 #[.slice p 0 cap] w fun e w' => e = .returned (.tuple #[]) ∧ w' = w := Any.slices_Sort_string_none Tryz.lays190 p cap w
end Go.Proofs
namespace AL.Route
open Go Go.Proofs Go.RowKit AL AL.Rune
set_option linter.unusedVariables false
set_option linter.unusedSimpArgs false
theorem Count_c (s : Bytes) : Pure Tryz.prog 147 [tc (st s), tc (st [47])] (vc (i6 ((s.count 47 : Nat) : Int))) := by
  refine Pure.of_calls ⟨_, Tryz.func147, by kernel_rfl, by kernel_rfl⟩ fun Γ w cargs hm => ?_
  obtain ⟨u, v, rfl, ⟨rfl, hu⟩, ⟨rfl, hv⟩⟩ := args2 hm
  refine (Tryz.strings_Count_one (ba s) 47 w).mono ?_
  rintro e w' ⟨rfl, rfl⟩
  have h1 : s.count 47 ≤ s.length := List.count_le_length
  simp only [maxLen] at hu
  exact ⟨_, rfl, rfl, rfl, inR64 (by omega) (by omega)⟩
theorem index_rng (s : Bytes) : -1 ≤ Go.Lib.indexByte s 47 ∧ Go.Lib.indexByte s 47 < (s.length : Int) := by
  refine ⟨Go.Lib.indexByte_ge s 47, ?_⟩
  by_cases h : 0 ≤ Go.Lib.indexByte s 47
  · have := (index_some h).1; omega
  · omega
theorem Index_c (s : Bytes) : Pure Tryz.prog 148 [tc (st s), tc (st [47])] (vc (i6 (Go.Lib.indexByte s 47))) := by
  refine Pure.of_calls ⟨_, Tryz.func148, by kernel_rfl, by kernel_rfl⟩ fun Γ w cargs hm => ?_
  obtain ⟨u, v, rfl, ⟨rfl, hu⟩, ⟨rfl, hv⟩⟩ := args2 hm
  refine (Tryz.strings_Index_one (ba s) 47 w).mono ?_
  rintro e w' ⟨rfl, rfl⟩
  have := index_rng s
  simp only [maxLen] at hu
  exact ⟨_, rfl, rfl, rfl, inR64 (by omega) (by omega)⟩
end AL.Route
namespace AL.Route
open Go Go.Proofs AL AL.Rune
set_option linter.unusedVariables false
set_option linter.unusedSimpArgs false
theorem f103_body : Tryz.f103.body = some (.seq (.region 0 (rg Tryz.f103 0) false) (.seq (.region 1 (rg Tryz.f103 1) false) (.seq (.region 2 (rg Tryz.f103 2) false) (.seq (.seq (.region 3 (rg Tryz.f103 3) false) (.block 0 (.loop (.seq (.seq (.region 4 (rg Tryz.f103 4) false) (.cond (.tmp 9) (.skip) (.exit 0))) (.seq (.block 1 (.seq (.region 6 (rg Tryz.f103 6) false) (.cond (.tmp 21) (.seq (.region 7 (rg Tryz.f103 7) false) (.region 8 (rg Tryz.f103 8) false)) (.skip)))) (.region 5 (rg Tryz.f103 5) false)))))) (.seq (.region 9 (rg Tryz.f103 9) false) (.ret)))))) := by kernel_rfl
set_option maxRecDepth 100000 in
set_option maxHeartbeats 8000000 in
theorem Pieces_c (s : Bytes) (hb : s.length ≤ 100000) : Pure Tryz.prog 103 [tc (st s)] (vc (AL.Fnv.slS (piecesS s))) := by
 refine Pure.of_body Tryz.func103 f103_body (by kernel_rfl) Tryz.ntmps103 (by kernel_rfl) (by kernel_rfl) ?_
 refine gS [] [] 32 [(0, vc (st s))] [] trivial ?_
 refine gS [] [] 32 [(0, vc (st s)), (3, vc (SC.nilsl))] [] trivial ?_
 refine gS [] [] 32 [(0, vc (st s)), (3, vc (SC.nilsl)), (4, vc (i6 0))] [] trivial ?_
 refine gQ ?_
 refine gS [] [] 32 [(0, vc (st s)), (3, vc (SC.nilsl)), (4, vc (i6 0)), (5, vc (i6 0))] [] trivial ?_
 refine AMx.block ?_
 refine AMx.ent (s' := AS.lst 32 [(0, vc (st s)), (3, vo 3), (4, vc (i6 0)), (5, vc (i6 0))] [(3, AObj.grow 9 1 Bytes [] AL.Fnv.rowS [])]) (ent_adopt (t := 3) (d := 3) 9 1 Bytes [] AL.Fnv.rowS (by kernel_rfl) (by kernel_rfl) (by kernel_rfl) (by kernel_rfl)) ?_
 refine AMx.ent (s' := AS.lst 32 [(0, vc (st s)), (3, vo 3), (4, vc (i6 0)), (5, vc (i6 0))] [(3, AObj.grow 9 1 Bytes [] AL.Fnv.rowS [])]) (ent_proj [0, 3, 4, 5] [3]) ?_
 refine AMx.loop (fun mm ss => ∃ (i : Nat) (f : Nat) (o : List Bytes), (PInv s i f o) ∧ mm = s.length + 1 - i ∧ ss = AS.lst 32 [(0, vc (st s)), (3, vo 3), (4, vc (i6 (f : Int))), (5, vc (i6 (i : Int)))] [(3, AObj.grow 9 1 Bytes [] AL.Fnv.rowS o)]) ⟨0, 0, [], ?_, rfl, ?_⟩ ?_
 · exact pinv_0 s
 · rfl
 rintro mm ss ⟨i, f, o, hP, rfl, rfl⟩
 refine gQ ?_
 refine gS [] [] 32 [(0, vc (st s)), (3, vo 3), (4, vc (i6 (f : Int))), (5, vc (i6 (i : Int))), (9, vc (bo (decide ((i : Int) ≤ (List.length s : Int)))))] [(3, AObj.grow 9 1 Bytes [] AL.Fnv.rowS o)] trivial ?_
 refine gC ((i : Int) ≤ (List.length s : Int)) (fun hc1 => ?_) fun hc1 => ?_
 ·
  refine AMx.skip ?_
  refine gQ ?_
  refine AMx.block ?_
  refine gS [] [((decide ((i : Int) = (List.length s : Int))) = false) → allP [], ((decide ((i : Int) = (List.length s : Int))) = false) → allP [], ((decide ((i : Int) = (List.length s : Int))) = false) → allP [(decide ((i : Int) = (List.length s : Int))) = false, (decide ((i : Int) = (List.length s : Int))) = false, (0 : Int) ≤ (i : Int), (i : Int) < List.length s], ((decide ((i : Int) = (List.length s : Int))) = false) → allP [(decide ((i : Int) = (List.length s : Int))) = false], (decide ((i : Int) = (List.length s : Int))) = false → allP [(decide ((i : Int) = (List.length s : Int))) = false]] 32 [(0, vc (st s)), (3, vo 3), (4, vc (i6 (f : Int))), (5, vc (i6 (i : Int))), (21, vc (bo ((decide ((i : Int) = (List.length s : Int))) || (decide (((List.getD s i 0).toNat : Int) = 47)))))] [(3, AObj.grow 9 1 Bytes [] AL.Fnv.rowS o)] ⟨(fun _ => trivial), (fun _ => trivial), (fun hp => by have hq := hp; (try simp only [decide_eq_true_eq, decide_eq_false_iff_not, Bool.and_eq_true, Bool.or_eq_true, Bool.and_eq_false_iff, Bool.or_eq_false_iff, Bool.not_eq_true', Bool.not_eq_false', Bool.not_eq_true, Bool.not_eq_false] at hq); exact ⟨hp, hp, (show (0 : Int) ≤ (i : Int) from (by first | omega | (have hz := pinv_len hP; omega))), (show (i : Int) < List.length s from (by first | omega | (have hz := pinv_len hP; omega)))⟩), (fun hp => hp), (fun hp2 => (by first | exact hp2 | exact ⟨hp, hp2⟩))⟩ ?_
  refine gB (((decide ((i : Int) = (List.length s : Int))) || (decide (((List.getD s i 0).toNat : Int) = 47)))) (fun hc2 => ?_) fun hc2 => ?_
  ·
   try simp only [xT, xF, xO, xP] at hc2
   refine gS [(5, CE.obj (AObj.grow 9 1 Bytes [] AL.Fnv.rowS [List.drop f (List.take i s)])), (6, CE.obj (AObj.grow 9 1 Bytes [] AL.Fnv.rowS (o ++ [List.drop f (List.take i s)])))] [0 ≤ (i : Int), (i : Int) ≤ List.length s, 0 ≤ (f : Int), (f : Int) ≤ (i : Int), flat 1 AL.Fnv.rowS [List.drop f (List.take i s)] = [.s (st (List.drop f (List.take i s)))], List.length ([List.drop f (List.take i s)] : List Bytes) = 1, AppC (flat 1 AL.Fnv.rowS [List.drop f (List.take i s)]) (List.length ([List.drop f (List.take i s)] : List Bytes)) 16 (AObj.grow 9 1 Bytes [] AL.Fnv.rowS o) (AObj.grow 9 1 Bytes [] AL.Fnv.rowS (o ++ [List.drop f (List.take i s)]))] 32 [(0, vc (st s)), (3, vo 28), (5, vc (i6 (i : Int)))] [(28, AObj.grow 9 1 Bytes [] AL.Fnv.rowS (o ++ [List.drop f (List.take i s)]))] ⟨(show 0 ≤ (i : Int) from (by first | omega | (have hz := pinv_len hP; omega))), (show (i : Int) ≤ List.length s from (by first | omega | (have hz := pinv_len hP; omega))), (show 0 ≤ (f : Int) from (by first | omega | (have hz := pinv_len hP; omega))), (show (f : Int) ≤ (i : Int) from (by first | omega | (have hz := pinv_len hP; omega))), rfl, rfl, (⟨_, rfl, rfl, rfl, by have hz := pinv_len hP; simp only [List.length_cons, List.length_nil]; omega, by have hz := pinv_len hP; simp only [maxLen, List.length_cons, List.length_nil]; omega⟩)⟩ ?_
   refine gR [] [InR .i64 ((i : Int) + 1)] 32 [(0, vc (st s)), (3, vo 28), (4, vc (i6 ((i : Int) + 1))), (5, vc (i6 (i : Int)))] [(28, AObj.grow 9 1 Bytes [] AL.Fnv.rowS (o ++ [List.drop f (List.take i s)]))] (show InR .i64 ((i : Int) + 1) from (inR64 (by first | omega | (have hz := pinv_len hP; omega)) (by first | omega | (have hz := pinv_len hP; omega)))) ?_
   refine AMx.blk ?_
   refine gR [] [InR .i64 ((i : Int) + 1)] 32 [(0, vc (st s)), (3, vo 28), (4, vc (i6 ((i : Int) + 1))), (5, vc (i6 ((i : Int) + 1)))] [(28, AObj.grow 9 1 Bytes [] AL.Fnv.rowS (o ++ [List.drop f (List.take i s)]))] (show InR .i64 ((i : Int) + 1) from (inR64 (by first | omega | (have hz := pinv_len hP; omega)) (by first | omega | (have hz := pinv_len hP; omega)))) ?_
   refine AMx.ent_inv (s' := AS.lst 32 [(0, vc (st s)), (3, vo 3), (4, vc (i6 ((i : Int) + 1))), (5, vc (i6 ((i : Int) + 1)))] [(3, AObj.grow 9 1 Bytes [] AL.Fnv.rowS (o ++ [List.drop f (List.take i s)]))]) (ent_swap 28 3 (by kernel_rfl) (by kernel_rfl)) ?_
   refine AMx.ent_inv (s' := AS.lst 32 [(0, vc (st s)), (3, vo 3), (4, vc (i6 ((i : Int) + 1))), (5, vc (i6 ((i : Int) + 1)))] [(3, AObj.grow 9 1 Bytes [] AL.Fnv.rowS (o ++ [List.drop f (List.take i s)]))]) (ent_proj [0, 3, 4, 5] [3]) ?_
   refine AMx.inv ⟨_, ?_, i + 1, i + 1, o ++ [List.drop f (List.take i s)], ?_, rfl, ?_⟩
   rotate_left
   · exact pinv_hit hP (by omega) (by omega)
   · rfl
   · omega
  ·
   try simp only [xT, xF, xO, xP] at hc2
   refine AMx.skip ?_
   refine AMx.blk ?_
   refine gR [] [InR .i64 ((i : Int) + 1)] 32 [(0, vc (st s)), (3, vo 3), (4, vc (i6 (f : Int))), (5, vc (i6 ((i : Int) + 1)))] [(3, AObj.grow 9 1 Bytes [] AL.Fnv.rowS o)] (show InR .i64 ((i : Int) + 1) from (inR64 (by first | omega | (have hz := pinv_len hP; omega)) (by first | omega | (have hz := pinv_len hP; omega)))) ?_
   refine AMx.ent_inv (s' := AS.lst 32 [(0, vc (st s)), (3, vo 3), (4, vc (i6 (f : Int))), (5, vc (i6 ((i : Int) + 1)))] [(3, AObj.grow 9 1 Bytes [] AL.Fnv.rowS o)]) (ent_proj [0, 3, 4, 5] [3]) ?_
   refine AMx.inv ⟨_, ?_, i + 1, f, o, ?_, rfl, ?_⟩
   rotate_left
   · exact pinv_not hP (by omega) (by omega)
   · rfl
   · omega
 ·
  refine AMx.exit ?_
  refine AMx.code_exit ?_
  refine AMx.inv_exit ?_
  refine AMx.blk_exit ?_
  refine gS [] [] 32 [(2, vo 3)] [(3, AObj.grow 9 1 Bytes [] AL.Fnv.rowS o)] trivial ?_
  refine AMx.ent (s' := AS.lst 32 [(2, vc (AL.Fnv.slS o))] []) (ent_freeze (id := 3) (T := 9) (by kernel_rfl)) ?_
  exact gT (vc (AL.Fnv.slS o)) (by rw [pinv_end hP (by omega)])
theorem f127_body : Tryz.f127.body = some (.seq (.region 0 (rg Tryz.f127 0) false) (.seq (.seq (.region 1 (rg Tryz.f127 1) false) (.cond (.tmp 13) (.seq (.region 2 (rg Tryz.f127 2) false) (.ret)) (.skip))) (.seq (.seq (.region 3 (rg Tryz.f127 3) false) (.cond (.tmp 15) (.seq (.region 4 (rg Tryz.f127 4) false) (.ret)) (.skip))) (.seq (.seq (.region 5 (rg Tryz.f127 5) false) (.cond (.tmp 20) (.region 6 (rg Tryz.f127 6) false) (.skip))) (.seq (.region 7 (rg Tryz.f127 7) false) (.seq (.region 8 (rg Tryz.f127 8) false) (.seq (.region 9 (rg Tryz.f127 9) false) (.seq (.region 10 (rg Tryz.f127 10) false) (.seq (.block 0 (.loop (.seq (.seq (.region 11 (rg Tryz.f127 11) false) (.cond (.tmp 36) (.skip) (.exit 0))) (.block 1 (.seq (.region 12 (rg Tryz.f127 12) false) (.seq (.seq (.region 13 (rg Tryz.f127 13) false) (.cond (.tmp 41) (.exit 0) (.skip))) (.seq (.region 14 (rg Tryz.f127 14) false) (.seq (.region 15 (rg Tryz.f127 15) false) (.region 16 (rg Tryz.f127 16) false))))))))) (.seq (.region 17 (rg Tryz.f127 17) false) (.seq (.region 18 (rg Tryz.f127 18) false) (.ret)))))))))))) := by kernel_rfl
set_option maxRecDepth 100000 in
set_option maxHeartbeats 8000000 in
theorem genSplit_c (s : Bytes) (hb : s.length ≤ 100000) : Pure Tryz.prog 127 [tc (st s), tc (st [47]), tc (i6 0), tc (i6 (-1))] (vc (AL.Fnv.slS (piecesS s))) := by
 refine Pure.of_body Tryz.func127 f127_body (by kernel_rfl) Tryz.ntmps127 (by kernel_rfl) (by kernel_rfl) ?_
 have hn := split_n s
 have hcn : List.count (47 : UInt8) s ≤ s.length := List.count_le_length
 refine gS [] [] 66 [(0, vc (st s)), (1, vc (st [47])), (2, vc (i6 0)), (3, vc (i6 (-1)))] [] trivial ?_
 refine gQ ?_
 refine gS [] [] 66 [(0, vc (st s)), (1, vc (st [47])), (2, vc (i6 0)), (3, vc (i6 (-1))), (13, vc (bo false))] [] trivial ?_
 refine gBf ?_
 refine AMx.skip ?_
 refine gQ ?_
 refine gS [] [] 66 [(0, vc (st s)), (1, vc (st [47])), (2, vc (i6 0)), (3, vc (i6 (-1))), (15, vc (bo false))] [] trivial ?_
 refine gBf ?_
 refine AMx.skip ?_
 refine gQ ?_
 refine gS [] [] 66 [(0, vc (st s)), (1, vc (st [47])), (2, vc (i6 0)), (3, vc (i6 (-1))), (20, vc (bo true))] [] trivial ?_
 refine gBt ?_
 refine gR [(2, CE.call [] [] (vc (i6 ((List.count (47 : UInt8) s : Nat) : Int))) [])] [Spec Tryz.prog 147 [tc (st s), tc (st [47])] (ofH []) (vc (i6 ((List.count (47 : UInt8) s : Nat) : Int))) (ofH []), InR .i64 (((List.count (47 : UInt8) s : Nat) : Int) + 1)] 66 [(0, vc (st s)), (1, vc (st [47])), (2, vc (i6 0)), (3, vc (i6 (((List.count (47 : UInt8) s : Nat) : Int) + 1)))] [] ⟨(Count_c s), (show InR .i64 (((List.count (47 : UInt8) s : Nat) : Int) + 1) from (inR64 (by first | omega | (have hx := index_rng c; first | omega | (simp only [List.length_cons, List.length_nil]; omega) | (have hz := split_le hP; first | omega | (simp only [List.length_append, List.length_replicate, List.length_set]; omega)))) (by first | omega | (have hx := index_rng c; first | omega | (simp only [List.length_cons, List.length_nil]; omega) | (have hz := split_le hP; first | omega | (simp only [List.length_append, List.length_replicate, List.length_set]; omega))))))⟩ ?_
 refine gS [] [InR .i64 ((List.length s : Int) + 1)] 66 [(0, vc (st s)), (1, vc (st [47])), (2, vc (i6 0)), (3, vc (i6 (min (((List.count (47 : UInt8) s : Nat) : Int) + 1) ((List.length s : Int) + 1))))] [] (show InR .i64 ((List.length s : Int) + 1) from (inR64 (by first | omega | (have hx := index_rng c; first | omega | (simp only [List.length_cons, List.length_nil]; omega) | (have hz := split_le hP; first | omega | (simp only [List.length_append, List.length_replicate, List.length_set]; omega)))) (by first | omega | (have hx := index_rng c; first | omega | (simp only [List.length_cons, List.length_nil]; omega) | (have hz := split_le hP; first | omega | (simp only [List.length_append, List.length_replicate, List.length_set]; omega)))))) ?_
 refine gS [(1, CE.obj (AObj.grow 9 1 Bytes [] AL.Fnv.rowS (List.replicate (min (((List.count (47 : UInt8) s : Nat) : Int) + 1) ((List.length s : Int) + 1)).toNat [])))] [0 ≤ min (((List.count (47 : UInt8) s : Nat) : Int) + 1) ((List.length s : Int) + 1), min (((List.count (47 : UInt8) s : Nat) : Int) + 1) ((List.length s : Int) + 1) ≤ min (((List.count (47 : UInt8) s : Nat) : Int) + 1) ((List.length s : Int) + 1), (16 : Int) * (min (((List.count (47 : UInt8) s : Nat) : Int) + 1) ((List.length s : Int) + 1)) ≤ 281474976710656, min (((List.count (47 : UInt8) s : Nat) : Int) + 1) ((List.length s : Int) + 1) ≤ 9223372036854775807, MakeC (min (((List.count (47 : UInt8) s : Nat) : Int) + 1) ((List.length s : Int) + 1)).toNat [.s (st [])] (AObj.grow 9 1 Bytes [] AL.Fnv.rowS (List.replicate (min (((List.count (47 : UInt8) s : Nat) : Int) + 1) ((List.length s : Int) + 1)).toNat []))] 66 [(0, vc (st s)), (1, vc (st [47])), (2, vc (i6 0)), (3, vc (i6 (min (((List.count (47 : UInt8) s : Nat) : Int) + 1) ((List.length s : Int) + 1)))), (9, vo 31)] [(31, AObj.grow 9 1 Bytes [] AL.Fnv.rowS (List.replicate (min (((List.count (47 : UInt8) s : Nat) : Int) + 1) ((List.length s : Int) + 1)).toNat []))] ⟨(show 0 ≤ min (((List.count (47 : UInt8) s : Nat) : Int) + 1) ((List.length s : Int) + 1) from (by first | omega | (have hx := index_rng c; first | omega | (simp only [List.length_cons, List.length_nil]; omega) | (have hz := split_le hP; first | omega | (simp only [List.length_append, List.length_replicate, List.length_set]; omega))))), (show min (((List.count (47 : UInt8) s : Nat) : Int) + 1) ((List.length s : Int) + 1) ≤ min (((List.count (47 : UInt8) s : Nat) : Int) + 1) ((List.length s : Int) + 1) from (by first | omega | (have hx := index_rng c; first | omega | (simp only [List.length_cons, List.length_nil]; omega) | (have hz := split_le hP; first | omega | (simp only [List.length_append, List.length_replicate, List.length_set]; omega))))), (show (16 : Int) * (min (((List.count (47 : UInt8) s : Nat) : Int) + 1) ((List.length s : Int) + 1)) ≤ 281474976710656 from (by first | omega | (have hx := index_rng c; first | omega | (simp only [List.length_cons, List.length_nil]; omega) | (have hz := split_le hP; first | omega | (simp only [List.length_append, List.length_replicate, List.length_set]; omega))))), (show min (((List.count (47 : UInt8) s : Nat) : Int) + 1) ((List.length s : Int) + 1) ≤ 9223372036854775807 from (by first | omega | (have hx := index_rng c; first | omega | (simp only [List.length_cons, List.length_nil]; omega) | (have hz := split_le hP; first | omega | (simp only [List.length_append, List.length_replicate, List.length_set]; omega))))), (⟨_, rfl, rfl⟩)⟩ ?_
 refine gS [] [InR .i64 ((min (((List.count (47 : UInt8) s : Nat) : Int) + 1) ((List.length s : Int) + 1)) - 1)] 66 [(0, vc (st s)), (1, vc (st [47])), (2, vc (i6 0)), (3, vc (i6 ((min (((List.count (47 : UInt8) s : Nat) : Int) + 1) ((List.length s : Int) + 1)) - 1))), (9, vo 31)] [(31, AObj.grow 9 1 Bytes [] AL.Fnv.rowS (List.replicate (min (((List.count (47 : UInt8) s : Nat) : Int) + 1) ((List.length s : Int) + 1)).toNat []))] (show InR .i64 ((min (((List.count (47 : UInt8) s : Nat) : Int) + 1) ((List.length s : Int) + 1)) - 1) from (inR64 (by first | omega | (have hx := index_rng c; first | omega | (simp only [List.length_cons, List.length_nil]; omega) | (have hz := split_le hP; first | omega | (simp only [List.length_append, List.length_replicate, List.length_set]; omega)))) (by first | omega | (have hx := index_rng c; first | omega | (simp only [List.length_cons, List.length_nil]; omega) | (have hz := split_le hP; first | omega | (simp only [List.length_append, List.length_replicate, List.length_set]; omega)))))) ?_
 refine gS [] [] 66 [(0, vc (st s)), (1, vc (st [47])), (2, vc (i6 0)), (3, vc (i6 ((min (((List.count (47 : UInt8) s : Nat) : Int) + 1) ((List.length s : Int) + 1)) - 1))), (9, vo 31), (10, vc (i6 0))] [(31, AObj.grow 9 1 Bytes [] AL.Fnv.rowS (List.replicate (min (((List.count (47 : UInt8) s : Nat) : Int) + 1) ((List.length s : Int) + 1)).toNat []))] trivial ?_
 refine gQ ?_
 refine AMx.block ?_
 refine AMx.ent (s' := AS.lst 66 [(0, vc (st s)), (1, vc (st [47])), (2, vc (i6 0)), (3, vc (i6 ((min (((List.count (47 : UInt8) s : Nat) : Int) + 1) ((List.length s : Int) + 1)) - 1))), (9, vo 31), (10, vc (i6 0))] [(31, AObj.grow 9 1 Bytes [] AL.Fnv.rowS (List.replicate (min (((List.count (47 : UInt8) s : Nat) : Int) + 1) ((List.length s : Int) + 1)).toNat []))]) (ent_proj [0, 1, 2, 3, 9, 10] [31]) ?_
 refine AMx.loop (fun mm ss => ∃ (o : List Bytes) (c : Bytes), (piecesS s = o ++ piecesS c ∧ c.length ≤ s.length) ∧ mm = c.length ∧ ss = AS.lst 66 [(0, vc (st c)), (1, vc (st [47])), (2, vc (i6 0)), (3, vc (i6 ((min (((List.count (47 : UInt8) s : Nat) : Int) + 1) ((List.length s : Int) + 1)) - 1))), (9, vo 31), (10, vc (i6 (List.length o : Int)))] [(31, AObj.grow 9 1 Bytes [] AL.Fnv.rowS (o ++ List.replicate (piecesS c).length []))]) ⟨[], s, ?_, rfl, ?_⟩ ?_
 · exact ⟨rfl, Nat.le_refl _⟩
 · rw [hn]; rfl
 rintro mm ss ⟨o, c, ⟨hP, hL⟩, rfl, rfl⟩
 refine gQ ?_
 refine gS [] [] 66 [(0, vc (st c)), (1, vc (st [47])), (2, vc (i6 0)), (3, vc (i6 ((min (((List.count (47 : UInt8) s : Nat) : Int) + 1) ((List.length s : Int) + 1)) - 1))), (9, vo 31), (10, vc (i6 (List.length o : Int))), (36, vc (bo (decide ((List.length o : Int) < (min (((List.count (47 : UInt8) s : Nat) : Int) + 1) ((List.length s : Int) + 1)) - 1))))] [(31, AObj.grow 9 1 Bytes [] AL.Fnv.rowS (o ++ List.replicate (piecesS c).length []))] trivial ?_
 refine gC ((List.length o : Int) < (min (((List.count (47 : UInt8) s : Nat) : Int) + 1) ((List.length s : Int) + 1)) - 1) (fun hc4 => ?_) fun hc4 => ?_
 ·
  refine AMx.skip ?_
  refine AMx.block ?_
  refine gS [(2, CE.call [] [] (vc (i6 (Go.Lib.indexByte c 47))) [])] [Spec Tryz.prog 148 [tc (st c), tc (st [47])] (ofH []) (vc (i6 (Go.Lib.indexByte c 47))) (ofH [])] 66 [(0, vc (st c)), (1, vc (st [47])), (2, vc (i6 0)), (3, vc (i6 ((min (((List.count (47 : UInt8) s : Nat) : Int) + 1) ((List.length s : Int) + 1)) - 1))), (9, vo 31), (10, vc (i6 (List.length o : Int))), (11, vc (i6 (Go.Lib.indexByte c 47)))] [(31, AObj.grow 9 1 Bytes [] AL.Fnv.rowS (o ++ List.replicate (piecesS c).length []))] (Index_c c) ?_
  refine gQ ?_
  refine gS [] [] 66 [(0, vc (st c)), (1, vc (st [47])), (2, vc (i6 0)), (3, vc (i6 ((min (((List.count (47 : UInt8) s : Nat) : Int) + 1) ((List.length s : Int) + 1)) - 1))), (9, vo 31), (10, vc (i6 (List.length o : Int))), (11, vc (i6 (Go.Lib.indexByte c 47))), (41, vc (bo (decide (Go.Lib.indexByte c 47 < 0))))] [(31, AObj.grow 9 1 Bytes [] AL.Fnv.rowS (o ++ List.replicate (piecesS c).length []))] trivial ?_
  refine gC (Go.Lib.indexByte c 47 < 0) (fun hc5 => ?_) fun hc5 => ?_
  ·
   refine AMx.exit ?_
   refine AMx.code_exit ?_
   refine AMx.blk_pass rfl ?_
   refine AMx.inv_exit ?_
   refine AMx.blk_exit ?_
   refine gS [(4, CE.obj (AObj.grow 9 1 Bytes [] AL.Fnv.rowS (List.set (o ++ List.replicate (piecesS c).length []) (List.length o) c)))] [(0 : Int) ≤ (List.length o : Int), (List.length o : Int) < List.length (o ++ List.replicate (piecesS c).length [] : List Bytes), StoreC (List.length o) 0 [.s (st c)] (AObj.grow 9 1 Bytes [] AL.Fnv.rowS (o ++ List.replicate (piecesS c).length [])) (AObj.grow 9 1 Bytes [] AL.Fnv.rowS (List.set (o ++ List.replicate (piecesS c).length []) (List.length o) c))] 66 [(9, vo 31), (10, vc (i6 (List.length o : Int)))] [(31, AObj.grow 9 1 Bytes [] AL.Fnv.rowS (List.set (o ++ List.replicate (piecesS c).length []) (List.length o) c))] ⟨(show (0 : Int) ≤ (List.length o : Int) from (by first | omega | (have hx := index_rng c; first | omega | (simp only [List.length_cons, List.length_nil]; omega) | (have hz := split_le hP; first | omega | (simp only [List.length_append, List.length_replicate, List.length_set]; omega))))), (show (List.length o : Int) < List.length (o ++ List.replicate (piecesS c).length [] : List Bytes) from (by first | omega | (have hx := index_rng c; first | omega | (simp only [List.length_cons, List.length_nil]; omega) | (have hz := split_le hP; first | omega | (simp only [List.length_append, List.length_replicate, List.length_set]; omega))))), (⟨c, rfl, by first | omega | (have hx := index_rng c; first | omega | (simp only [List.length_cons, List.length_nil]; omega) | (have hz := split_le hP; first | omega | (simp only [List.length_append, List.length_replicate, List.length_set]; omega))), rfl⟩)⟩ ?_
   refine gS [] [InR .i64 ((List.length o : Int) + 1), 0 ≤ (List.length o : Int) + 1, (List.length o : Int) + 1 ≤ (List.length (List.set (o ++ List.replicate (piecesS c).length []) (List.length o) c : List Bytes) : Int)] 66 [(8, vo 65)] [(65, AObj.grow 9 1 Bytes [] AL.Fnv.rowS (List.take ((List.length o) + 1) (List.set (o ++ List.replicate (piecesS c).length []) (List.length o) c)))] ⟨(show InR .i64 ((List.length o : Int) + 1) from (inR64 (by first | omega | (have hx := index_rng c; first | omega | (simp only [List.length_cons, List.length_nil]; omega) | (have hz := split_le hP; first | omega | (simp only [List.length_append, List.length_replicate, List.length_set]; omega)))) (by first | omega | (have hx := index_rng c; first | omega | (simp only [List.length_cons, List.length_nil]; omega) | (have hz := split_le hP; first | omega | (simp only [List.length_append, List.length_replicate, List.length_set]; omega)))))), (show 0 ≤ (List.length o : Int) + 1 from (by first | omega | (have hx := index_rng c; first | omega | (simp only [List.length_cons, List.length_nil]; omega) | (have hz := split_le hP; first | omega | (simp only [List.length_append, List.length_replicate, List.length_set]; omega))))), (show (List.length o : Int) + 1 ≤ (List.length (List.set (o ++ List.replicate (piecesS c).length []) (List.length o) c : List Bytes) : Int) from (by first | omega | (have hx := index_rng c; first | omega | (simp only [List.length_cons, List.length_nil]; omega) | (have hz := split_le hP; first | omega | (simp only [List.length_append, List.length_replicate, List.length_set]; omega)))))⟩ ?_
   refine AMx.ent (s' := AS.lst 66 [(8, vc (AL.Fnv.slS (List.take ((List.length o) + 1) (List.set (o ++ List.replicate (piecesS c).length []) (List.length o) c))))] []) (ent_freeze (id := 65) (T := 9) (by kernel_rfl)) ?_
   exact gT (vc (AL.Fnv.slS (List.take ((List.length o) + 1) (List.set (o ++ List.replicate (piecesS c).length []) (List.length o) c)))) (by rw [split_end hP (by first | exact index_none (by omega) | exact split_last hP (by omega))])
  ·
   refine AMx.skip ?_
   refine gS [(8, CE.obj (AObj.grow 9 1 Bytes [] AL.Fnv.rowS (List.set (o ++ List.replicate (piecesS c).length []) (List.length o) (List.take ((Go.Lib.indexByte c 47) + 0).toNat c))))] [InR .i64 ((Go.Lib.indexByte c 47) + 0), 0 ≤ (Go.Lib.indexByte c 47) + 0, (Go.Lib.indexByte c 47) + 0 ≤ List.length c, (0 : Int) ≤ (List.length o : Int), (List.length o : Int) < List.length (o ++ List.replicate (piecesS c).length [] : List Bytes), StoreC (List.length o) 0 [.s (st (List.take ((Go.Lib.indexByte c 47) + 0).toNat c))] (AObj.grow 9 1 Bytes [] AL.Fnv.rowS (o ++ List.replicate (piecesS c).length [])) (AObj.grow 9 1 Bytes [] AL.Fnv.rowS (List.set (o ++ List.replicate (piecesS c).length []) (List.length o) (List.take ((Go.Lib.indexByte c 47) + 0).toNat c)))] 66 [(0, vc (st c)), (1, vc (st [47])), (2, vc (i6 0)), (3, vc (i6 ((min (((List.count (47 : UInt8) s : Nat) : Int) + 1) ((List.length s : Int) + 1)) - 1))), (9, vo 31), (10, vc (i6 (List.length o : Int))), (11, vc (i6 (Go.Lib.indexByte c 47)))] [(31, AObj.grow 9 1 Bytes [] AL.Fnv.rowS (List.set (o ++ List.replicate (piecesS c).length []) (List.length o) (List.take ((Go.Lib.indexByte c 47) + 0).toNat c)))] ⟨(show InR .i64 ((Go.Lib.indexByte c 47) + 0) from (inR64 (by first | omega | (have hx := index_rng c; first | omega | (simp only [List.length_cons, List.length_nil]; omega) | (have hz := split_le hP; first | omega | (simp only [List.length_append, List.length_replicate, List.length_set]; omega)))) (by first | omega | (have hx := index_rng c; first | omega | (simp only [List.length_cons, List.length_nil]; omega) | (have hz := split_le hP; first | omega | (simp only [List.length_append, List.length_replicate, List.length_set]; omega)))))), (show 0 ≤ (Go.Lib.indexByte c 47) + 0 from (by first | omega | (have hx := index_rng c; first | omega | (simp only [List.length_cons, List.length_nil]; omega) | (have hz := split_le hP; first | omega | (simp only [List.length_append, List.length_replicate, List.length_set]; omega))))), (show (Go.Lib.indexByte c 47) + 0 ≤ List.length c from (by first | omega | (have hx := index_rng c; first | omega | (simp only [List.length_cons, List.length_nil]; omega) | (have hz := split_le hP; first | omega | (simp only [List.length_append, List.length_replicate, List.length_set]; omega))))), (show (0 : Int) ≤ (List.length o : Int) from (by first | omega | (have hx := index_rng c; first | omega | (simp only [List.length_cons, List.length_nil]; omega) | (have hz := split_le hP; first | omega | (simp only [List.length_append, List.length_replicate, List.length_set]; omega))))), (show (List.length o : Int) < List.length (o ++ List.replicate (piecesS c).length [] : List Bytes) from (by first | omega | (have hx := index_rng c; first | omega | (simp only [List.length_cons, List.length_nil]; omega) | (have hz := split_le hP; first | omega | (simp only [List.length_append, List.length_replicate, List.length_set]; omega))))), (⟨List.take ((Go.Lib.indexByte c 47) + 0).toNat c, rfl, by first | omega | (have hx := index_rng c; first | omega | (simp only [List.length_cons, List.length_nil]; omega) | (have hz := split_le hP; first | omega | (simp only [List.length_append, List.length_replicate, List.length_set]; omega))), rfl⟩)⟩ ?_
   refine gS [] [InR .i64 ((Go.Lib.indexByte c 47) + (List.length ([47] : List UInt8) : Int)), 0 ≤ (Go.Lib.indexByte c 47) + (List.length ([47] : List UInt8) : Int), (Go.Lib.indexByte c 47) + (List.length ([47] : List UInt8) : Int) ≤ List.length c] 66 [(0, vc (st (List.drop ((Go.Lib.indexByte c 47) + (List.length ([47] : List UInt8) : Int)).toNat c))), (1, vc (st [47])), (2, vc (i6 0)), (3, vc (i6 ((min (((List.count (47 : UInt8) s : Nat) : Int) + 1) ((List.length s : Int) + 1)) - 1))), (9, vo 31), (10, vc (i6 (List.length o : Int)))] [(31, AObj.grow 9 1 Bytes [] AL.Fnv.rowS (List.set (o ++ List.replicate (piecesS c).length []) (List.length o) (List.take ((Go.Lib.indexByte c 47) + 0).toNat c)))] ⟨(show InR .i64 ((Go.Lib.indexByte c 47) + (List.length ([47] : List UInt8) : Int)) from (inR64 (by first | omega | (have hx := index_rng c; first | omega | (simp only [List.length_cons, List.length_nil]; omega) | (have hz := split_le hP; first | omega | (simp only [List.length_append, List.length_replicate, List.length_set]; omega)))) (by first | omega | (have hx := index_rng c; first | omega | (simp only [List.length_cons, List.length_nil]; omega) | (have hz := split_le hP; first | omega | (simp only [List.length_append, List.length_replicate, List.length_set]; omega)))))), (show 0 ≤ (Go.Lib.indexByte c 47) + (List.length ([47] : List UInt8) : Int) from (by first | omega | (have hx := index_rng c; first | omega | (simp only [List.length_cons, List.length_nil]; omega) | (have hz := split_le hP; first | omega | (simp only [List.length_append, List.length_replicate, List.length_set]; omega))))), (show (Go.Lib.indexByte c 47) + (List.length ([47] : List UInt8) : Int) ≤ List.length c from (by first | omega | (have hx := index_rng c; first | omega | (simp only [List.length_cons, List.length_nil]; omega) | (have hz := split_le hP; first | omega | (simp only [List.length_append, List.length_replicate, List.length_set]; omega)))))⟩ ?_
   refine gR [] [InR .i64 ((List.length o : Int) + 1)] 66 [(0, vc (st (List.drop ((Go.Lib.indexByte c 47) + (List.length ([47] : List UInt8) : Int)).toNat c))), (1, vc (st [47])), (2, vc (i6 0)), (3, vc (i6 ((min (((List.count (47 : UInt8) s : Nat) : Int) + 1) ((List.length s : Int) + 1)) - 1))), (9, vo 31), (10, vc (i6 ((List.length o : Int) + 1)))] [(31, AObj.grow 9 1 Bytes [] AL.Fnv.rowS (List.set (o ++ List.replicate (piecesS c).length []) (List.length o) (List.take ((Go.Lib.indexByte c 47) + 0).toNat c)))] (show InR .i64 ((List.length o : Int) + 1) from (inR64 (by first | omega | (have hx := index_rng c; first | omega | (simp only [List.length_cons, List.length_nil]; omega) | (have hz := split_le hP; first | omega | (simp only [List.length_append, List.length_replicate, List.length_set]; omega)))) (by first | omega | (have hx := index_rng c; first | omega | (simp only [List.length_cons, List.length_nil]; omega) | (have hz := split_le hP; first | omega | (simp only [List.length_append, List.length_replicate, List.length_set]; omega)))))) ?_
   refine AMx.blk ?_
   refine AMx.ent_inv (s' := AS.lst 66 [(0, vc (st (List.drop ((Go.Lib.indexByte c 47) + (List.length ([47] : List UInt8) : Int)).toNat c))), (1, vc (st [47])), (2, vc (i6 0)), (3, vc (i6 ((min (((List.count (47 : UInt8) s : Nat) : Int) + 1) ((List.length s : Int) + 1)) - 1))), (9, vo 31), (10, vc (i6 ((List.length o : Int) + 1)))] [(31, AObj.grow 9 1 Bytes [] AL.Fnv.rowS (List.set (o ++ List.replicate (piecesS c).length []) (List.length o) (List.take ((Go.Lib.indexByte c 47) + 0).toNat c)))]) (ent_proj [0, 1, 2, 3, 9, 10] [31]) ?_
   refine AMx.inv ⟨_, ?_, o ++ [List.take (Go.Lib.indexByte c 47).toNat c], List.drop ((Go.Lib.indexByte c 47).toNat + 1) c, ?_, rfl, ?_⟩
   rotate_left
   · exact ⟨split_inv hP (by omega), by rw [List.length_drop]; omega⟩
   · rw [show (Go.Lib.indexByte c 47 + (0 : Int)).toNat = (Go.Lib.indexByte c 47).toNat by omega, show (Go.Lib.indexByte c 47 + (List.length ([47] : List UInt8) : Int)).toNat = (Go.Lib.indexByte c 47).toNat + 1 by simp only [List.length_cons, List.length_nil]; omega, split_step (by omega), List.length_append]; rfl
   · have hx := index_some (s := c) (by omega); rw [List.length_drop]; omega
 ·
  refine AMx.exit ?_
  refine AMx.code_exit ?_
  refine AMx.inv_exit ?_
  refine AMx.blk_exit ?_
  refine gS [(4, CE.obj (AObj.grow 9 1 Bytes [] AL.Fnv.rowS (List.set (o ++ List.replicate (piecesS c).length []) (List.length o) c)))] [(0 : Int) ≤ (List.length o : Int), (List.length o : Int) < List.length (o ++ List.replicate (piecesS c).length [] : List Bytes), StoreC (List.length o) 0 [.s (st c)] (AObj.grow 9 1 Bytes [] AL.Fnv.rowS (o ++ List.replicate (piecesS c).length [])) (AObj.grow 9 1 Bytes [] AL.Fnv.rowS (List.set (o ++ List.replicate (piecesS c).length []) (List.length o) c))] 66 [(9, vo 31), (10, vc (i6 (List.length o : Int)))] [(31, AObj.grow 9 1 Bytes [] AL.Fnv.rowS (List.set (o ++ List.replicate (piecesS c).length []) (List.length o) c))] ⟨(show (0 : Int) ≤ (List.length o : Int) from (by first | omega | (have hx := index_rng c; first | omega | (simp only [List.length_cons, List.length_nil]; omega) | (have hz := split_le hP; first | omega | (simp only [List.length_append, List.length_replicate, List.length_set]; omega))))), (show (List.length o : Int) < List.length (o ++ List.replicate (piecesS c).length [] : List Bytes) from (by first | omega | (have hx := index_rng c; first | omega | (simp only [List.length_cons, List.length_nil]; omega) | (have hz := split_le hP; first | omega | (simp only [List.length_append, List.length_replicate, List.length_set]; omega))))), (⟨c, rfl, by first | omega | (have hx := index_rng c; first | omega | (simp only [List.length_cons, List.length_nil]; omega) | (have hz := split_le hP; first | omega | (simp only [List.length_append, List.length_replicate, List.length_set]; omega))), rfl⟩)⟩ ?_
  refine gS [] [InR .i64 ((List.length o : Int) + 1), 0 ≤ (List.length o : Int) + 1, (List.length o : Int) + 1 ≤ (List.length (List.set (o ++ List.replicate (piecesS c).length []) (List.length o) c : List Bytes) : Int)] 66 [(8, vo 65)] [(65, AObj.grow 9 1 Bytes [] AL.Fnv.rowS (List.take ((List.length o) + 1) (List.set (o ++ List.replicate (piecesS c).length []) (List.length o) c)))] ⟨(show InR .i64 ((List.length o : Int) + 1) from (inR64 (by first | omega | (have hx := index_rng c; first | omega | (simp only [List.length_cons, List.length_nil]; omega) | (have hz := split_le hP; first | omega | (simp only [List.length_append, List.length_replicate, List.length_set]; omega)))) (by first | omega | (have hx := index_rng c; first | omega | (simp only [List.length_cons, List.length_nil]; omega) | (have hz := split_le hP; first | omega | (simp only [List.length_append, List.length_replicate, List.length_set]; omega)))))), (show 0 ≤ (List.length o : Int) + 1 from (by first | omega | (have hx := index_rng c; first | omega | (simp only [List.length_cons, List.length_nil]; omega) | (have hz := split_le hP; first | omega | (simp only [List.length_append, List.length_replicate, List.length_set]; omega))))), (show (List.length o : Int) + 1 ≤ (List.length (List.set (o ++ List.replicate (piecesS c).length []) (List.length o) c : List Bytes) : Int) from (by first | omega | (have hx := index_rng c; first | omega | (simp only [List.length_cons, List.length_nil]; omega) | (have hz := split_le hP; first | omega | (simp only [List.length_append, List.length_replicate, List.length_set]; omega)))))⟩ ?_
  refine AMx.ent (s' := AS.lst 66 [(8, vc (AL.Fnv.slS (List.take ((List.length o) + 1) (List.set (o ++ List.replicate (piecesS c).length []) (List.length o) c))))] []) (ent_freeze (id := 65) (T := 9) (by kernel_rfl)) ?_
  exact gT (vc (AL.Fnv.slS (List.take ((List.length o) + 1) (List.set (o ++ List.replicate (piecesS c).length []) (List.length o) c)))) (by rw [split_end hP (by first | exact index_none (by omega) | exact split_last hP (by omega))])
end AL.Route
namespace AL.Route
open Go Go.Proofs AL AL.Rune
set_option linter.unusedVariables false
set_option linter.unusedSimpArgs false
theorem f94_body : Tryz.f94.body = some (.seq (.region 0 (rg Tryz.f94 0) false) (.seq (.region 1 (rg Tryz.f94 1) false) (.ret))) := by kernel_rfl
set_option maxRecDepth 100000 in
set_option maxHeartbeats 8000000 in
theorem Split_c (s : Bytes) (hb : s.length ≤ 100000) : Pure Tryz.prog 94 [tc (st s), tc (st [47])] (vc (AL.Fnv.slS (piecesS s))) := by
 refine Pure.of_body Tryz.func94 f94_body (by kernel_rfl) Tryz.ntmps94 (by kernel_rfl) (by kernel_rfl) ?_
 refine gS [] [] 8 [(0, vc (st s)), (1, vc (st [47]))] [] trivial ?_
 refine gS [(2, CE.call [] [] (vc (AL.Fnv.slS (piecesS s))) [])] [Spec Tryz.prog 127 [tc (st s), tc (st [47]), tc (i6 0), tc (i6 (-1))] (ofH []) (vc (AL.Fnv.slS (piecesS s))) (ofH [])] 8 [(4, vc (AL.Fnv.slS (piecesS s)))] [] (genSplit_c s (by omega)) ?_
 exact gT (vc (AL.Fnv.slS (piecesS s))) rfl
theorem f151_body : Tryz.f151.body = some (.seq (.region 0 (rg Tryz.f151 0) false) (.seq (.region 1 (rg Tryz.f151 1) false) (.seq (.seq (.region 2 (rg Tryz.f151 2) false) (.block 0 (.loop (.seq (.region 3 (rg Tryz.f151 3) false) (.seq (.cond (.tmp 9) (.skip) (.exit 0)) (.seq (.block 1 (.seq (.region 4 (rg Tryz.f151 4) false) (.seq (.region 5 (rg Tryz.f151 5) false) (.block 2 (.seq (.region 6 (rg Tryz.f151 6) false) (.cond (.tmp 14) (.seq (.region 7 (rg Tryz.f151 7) false) (.ret)) (.seq (.region 8 (rg Tryz.f151 8) false) (.cond (.tmp 16) (.region 9 (rg Tryz.f151 9) false) (.skip))))))))) (.region 10 (rg Tryz.f151 10) false))))))) (.seq (.seq (.region 11 (rg Tryz.f151 11) false) (.cond (.tmp 25) (.seq (.region 12 (rg Tryz.f151 12) false) (.ret)) (.skip))) (.seq (.region 13 (rg Tryz.f151 13) false) (.ret)))))) := by kernel_rfl
set_option maxRecDepth 100000 in
set_option maxHeartbeats 8000000 in
theorem graded_c (l : List Bytes) (hb : ∀ p ∈ l, p.length ≤ 100000) : Pure Tryz.prog 151 [tc (AL.Fnv.slS l)] (vc (i6 (gradedS l))) := by
 refine Pure.of_body Tryz.func151 f151_body (by kernel_rfl) Tryz.ntmps151 (by kernel_rfl) (by kernel_rfl) ?_
 refine AMx.sl 0 (l := l) rfl (fun hl => ?_)
 simp only [maxLen] at hl
 refine gS [] [] 27 [(0, vc (AL.Fnv.slS l))] [] trivial ?_
 refine gS [] [] 27 [(0, vc (AL.Fnv.slS l)), (3, vc (i6 0))] [] trivial ?_
 refine gQ ?_
 refine gS [] [] 27 [(0, vc (AL.Fnv.slS l)), (3, vc (i6 0)), (6, vc (AL.Fnv.slS l)), (7, vc (i6 (List.length l : Int))), (8, vc (i6 0))] [] trivial ?_
 refine AMx.block ?_
 refine AMx.ent (s' := AS.lst 27 [(0, vc (AL.Fnv.slS l)), (3, vc (i6 0)), (6, vc (AL.Fnv.slS l)), (7, vc (i6 (List.length l : Int))), (8, vc (i6 0))] []) (ent_proj [0, 3, 6, 7, 8] []) ?_
 refine AMx.loop (fun mm ss => ∃ (k : Nat), (k ≤ l.length ∧ ∀ i, i < k → ¬ partS (List.getD l i []) = 4) ∧ mm = l.length - k ∧ ss = AS.lst 27 [(0, vc (AL.Fnv.slS l)), (3, vc (i6 (worstS (List.take k l)))), (6, vc (AL.Fnv.slS l)), (7, vc (i6 (List.length l : Int))), (8, vc (i6 (k : Int)))] []) ⟨0, ?_, rfl, ?_⟩ ?_
 · exact ⟨Nat.zero_le _, fun i hi => by omega⟩
 · rfl
 rintro mm ss ⟨k, ⟨hI, hN⟩, rfl, rfl⟩
 refine gS [] [] 27 [(0, vc (AL.Fnv.slS l)), (3, vc (i6 (worstS (List.take k l)))), (6, vc (AL.Fnv.slS l)), (7, vc (i6 (List.length l : Int))), (8, vc (i6 (k : Int))), (9, vc (bo (decide ((k : Int) < (List.length l : Int)))))] [] trivial ?_
 refine gQ ?_
 refine gC ((k : Int) < (List.length l : Int)) (fun hc1 => ?_) fun hc1 => ?_
 ·
  refine AMx.skip ?_
  refine gQ ?_
  refine AMx.block ?_
  refine gS [] [(0 : Int) ≤ (k : Int), (k : Int) < List.length l] 27 [(0, vc (AL.Fnv.slS l)), (3, vc (i6 (worstS (List.take k l)))), (5, vc (st (List.getD l k []))), (6, vc (AL.Fnv.slS l)), (7, vc (i6 (List.length l : Int))), (8, vc (i6 (k : Int)))] [] ⟨(show (0 : Int) ≤ (k : Int) from (by omega)), (show (k : Int) < List.length l from (by omega))⟩ ?_
  refine gS [(1, CE.call [] [] (vc (i6 (partS (List.getD l k [])))) [])] [Spec Tryz.prog 166 [tc (st (List.getD l k []))] (ofH []) (vc (i6 (partS (List.getD l k [])))) (ofH [])] 27 [(0, vc (AL.Fnv.slS l)), (3, vc (i6 (worstS (List.take k l)))), (6, vc (AL.Fnv.slS l)), (7, vc (i6 (List.length l : Int))), (8, vc (i6 (k : Int))), (13, vc (i6 (partS (List.getD l k []))))] [] (Part_c (List.getD l k []) (hb _ (AL.Lib.getD_mem [] l k (by omega)))) ?_
  refine AMx.block ?_
  refine gS [] [] 27 [(0, vc (AL.Fnv.slS l)), (3, vc (i6 (worstS (List.take k l)))), (6, vc (AL.Fnv.slS l)), (7, vc (i6 (List.length l : Int))), (8, vc (i6 (k : Int))), (13, vc (i6 (partS (List.getD l k [])))), (14, vc (bo (decide (partS (List.getD l k []) = 4))))] [] trivial ?_
  refine gC (partS (List.getD l k []) = 4) (fun hc2 => ?_) fun hc2 => ?_
  ·
   refine gS [] [] 27 [(2, vc (i6 4))] [] trivial ?_
   exact gT (vc (i6 4)) (by rw [graded_hit (k := k) (by omega) (by assumption)])
  ·
   refine gS [] [] 27 [(0, vc (AL.Fnv.slS l)), (3, vc (i6 (worstS (List.take k l)))), (6, vc (AL.Fnv.slS l)), (7, vc (i6 (List.length l : Int))), (8, vc (i6 (k : Int))), (16, vc (bo (decide (partS (List.getD l k []) = 5))))] [] trivial ?_
   refine gC (partS (List.getD l k []) = 5) (fun hc3 => ?_) fun hc3 => ?_
   ·
    refine gR [] [] 27 [(0, vc (AL.Fnv.slS l)), (3, vc (i6 5)), (6, vc (AL.Fnv.slS l)), (7, vc (i6 (List.length l : Int))), (8, vc (i6 (k : Int)))] [] trivial ?_
    refine AMx.blk ?_
    refine AMx.blk ?_
    refine gR [] [InR .i64 ((k : Int) + 1)] 27 [(0, vc (AL.Fnv.slS l)), (3, vc (i6 5)), (6, vc (AL.Fnv.slS l)), (7, vc (i6 (List.length l : Int))), (8, vc (i6 ((k : Int) + 1)))] [] (show InR .i64 ((k : Int) + 1) from (inR64 (by omega) (by omega))) ?_
    refine AMx.ent_inv (s' := AS.lst 27 [(0, vc (AL.Fnv.slS l)), (3, vc (i6 5)), (6, vc (AL.Fnv.slS l)), (7, vc (i6 (List.length l : Int))), (8, vc (i6 ((k : Int) + 1)))] []) (ent_proj [0, 3, 6, 7, 8] []) ?_
    refine AMx.inv ⟨_, ?_, k + 1, ?_, rfl, ?_⟩
    rotate_left
    · exact ⟨by omega, fun i hi => by rcases Nat.lt_or_ge i k with q | q; exact hN i q; rw [show i = k by omega]; assumption⟩
    · rw [worst_step l k (by omega), if_pos (by assumption)]; rfl
    · omega
   ·
    refine AMx.skip ?_
    refine AMx.blk ?_
    refine AMx.blk ?_
    refine gR [] [InR .i64 ((k : Int) + 1)] 27 [(0, vc (AL.Fnv.slS l)), (3, vc (i6 (worstS (List.take k l)))), (6, vc (AL.Fnv.slS l)), (7, vc (i6 (List.length l : Int))), (8, vc (i6 ((k : Int) + 1)))] [] (show InR .i64 ((k : Int) + 1) from (inR64 (by omega) (by omega))) ?_
    refine AMx.ent_inv (s' := AS.lst 27 [(0, vc (AL.Fnv.slS l)), (3, vc (i6 (worstS (List.take k l)))), (6, vc (AL.Fnv.slS l)), (7, vc (i6 (List.length l : Int))), (8, vc (i6 ((k : Int) + 1)))] []) (ent_proj [0, 3, 6, 7, 8] []) ?_
    refine AMx.inv ⟨_, ?_, k + 1, ?_, rfl, ?_⟩
    rotate_left
    · exact ⟨by omega, fun i hi => by rcases Nat.lt_or_ge i k with q | q; exact hN i q; rw [show i = k by omega]; assumption⟩
    · rw [worst_step l k (by omega), if_neg (by assumption)]; rfl
    · omega
 ·
  refine AMx.exit ?_
  refine AMx.code_exit ?_
  refine AMx.inv_exit ?_
  refine AMx.blk_exit ?_
  rw [show List.take k l = l from List.take_of_length_le (by omega)]
  refine gQ ?_
  refine gS [] [((decide (worstS l = 0)) = true) → allP [], ((decide (worstS l = 0)) = true) → allP [(decide (worstS l = 0)) = true], ((decide (worstS l = 0)) = true) → allP [(decide (worstS l = 0)) = true], (decide (worstS l = 0)) = true → allP [(decide (worstS l = 0)) = true]] 27 [(3, vc (i6 (worstS l))), (25, vc (bo ((decide (worstS l = 0)) && (decide (6 < (List.length l : Int))))))] [] ⟨(fun _ => trivial), (fun hp => hp), (fun hp => hp), (fun hp2 => (by first | exact hp2 | exact ⟨hp, hp2⟩))⟩ ?_
  refine gB (((decide (worstS l = 0)) && (decide (6 < (List.length l : Int))))) (fun hc4 => ?_) fun hc4 => ?_
  ·
   try simp only [xT, xF, xA, xB] at hc4
   refine gS [] [] 27 [(2, vc (i6 24))] [] trivial ?_
   exact gT (vc (i6 24)) (by rw [graded_end (fun i hi => hN i (by omega)), if_pos (by omega), if_pos (by omega)])
  ·
   try simp only [xT, xF, xA, xB] at hc4
   refine AMx.skip ?_
   refine gS [] [] 27 [(2, vc (i6 (worstS l)))] [] trivial ?_
   exact gT (vc (i6 (worstS l))) (by rw [graded_end (fun i hi => hN i (by omega))]; by_cases hw : worstS l = 0; rw [hw, if_pos rfl, if_neg (by omega)]; rw [if_neg hw])
theorem f131_body : Tryz.f131.body = some (.seq (.region 0 (rg Tryz.f131 0) false) (.seq (.seq (.region 1 (rg Tryz.f131 1) false) (.cond (.tmp 8) (.seq (.region 2 (rg Tryz.f131 2) false) (.ret)) (.skip))) (.seq (.region 3 (rg Tryz.f131 3) false) (.seq (.seq (.region 4 (rg Tryz.f131 4) false) (.seq (.region 5 (rg Tryz.f131 5) false) (.cond (.tmp 14) (.seq (.region 6 (rg Tryz.f131 6) false) (.ret)) (.skip)))) (.seq (.region 7 (rg Tryz.f131 7) false) (.ret)))))) := by kernel_rfl
set_option maxRecDepth 100000 in
set_option maxHeartbeats 8000000 in
theorem Parts_c (s : Bytes) : Pure Tryz.prog 131 [tc (st s)] (AV.tup [tc (AL.Fnv.slS ((partsS s).1)), tc (i6 ((partsS s).2))]) := by
 refine Pure.of_body Tryz.func131 f131_body (by kernel_rfl) Tryz.ntmps131 (by kernel_rfl) (by kernel_rfl) ?_
 refine gS [] [] 17 [(0, vc (st s))] [] trivial ?_
 refine gQ ?_
 refine gS [] [] 17 [(0, vc (st s)), (8, vc (bo (decide (64 < (List.length s : Int)))))] [] trivial ?_
 refine gC (64 < (List.length s : Int)) (fun hc1 => ?_) fun hc1 => ?_
 ·
  refine gS [] [] 17 [(2, vc (SC.nilsl)), (3, vc (i6 5))] [] trivial ?_
  refine AMx.ent (ent_weak 2 (v' := vc (AL.Fnv.slS [])) (by kernel_rfl) (AV.le_t (TV.le_c AC.le_nil))) ?_
  exact gT (AV.tup [tc (AL.Fnv.slS []), tc (i6 5)]) (by rw [show partsS s = ([], 5) from by first | rw [parts_no (by rw [check_big (by omega)]; decide), check_big (by omega)] | (have hk := check_small (s := s) (by omega); first | rw [parts_no (by omega), hk] | rw [parts_ok (by omega)])])
 ·
  refine AMx.skip ?_
  refine gS [(1, CE.call [] [] (vc (AL.Fnv.slS (piecesS s))) [])] [Spec Tryz.prog 94 [tc (st s), tc (st [47])] (ofH []) (vc (AL.Fnv.slS (piecesS s))) (ofH [])] 17 [(4, vc (AL.Fnv.slS (piecesS s)))] [] (Split_c s (by omega)) ?_
  refine gQ ?_
  refine gS [(1, CE.call [] [] (vc (i6 (gradedS (piecesS s)))) [])] [Spec Tryz.prog 151 [tc (AL.Fnv.slS (piecesS s))] (ofH []) (vc (i6 (gradedS (piecesS s)))) (ofH [])] 17 [(4, vc (AL.Fnv.slS (piecesS s))), (5, vc (i6 (gradedS (piecesS s))))] [] (graded_c (piecesS s) (fun p hp => Nat.le_trans (piece_le hp) (by omega))) ?_
  refine gS [] [] 17 [(4, vc (AL.Fnv.slS (piecesS s))), (5, vc (i6 (gradedS (piecesS s)))), (14, vc (bo (!decide (gradedS (piecesS s) = 0))))] [] trivial ?_
  refine gN (gradedS (piecesS s) = 0) (fun hc2 => ?_) fun hc2 => ?_
  ·
   refine gS [] [] 17 [(2, vc (SC.nilsl)), (3, vc (i6 (gradedS (piecesS s))))] [] trivial ?_
   refine AMx.ent (ent_weak 2 (v' := vc (AL.Fnv.slS [])) (by kernel_rfl) (AV.le_t (TV.le_c AC.le_nil))) ?_
   exact gT (AV.tup [tc (AL.Fnv.slS []), tc (i6 (gradedS (piecesS s)))]) (by rw [show partsS s = ([], gradedS (piecesS s)) from by first | rw [parts_no (by rw [check_big (by omega)]; decide), check_big (by omega)] | (have hk := check_small (s := s) (by omega); first | rw [parts_no (by omega), hk] | rw [parts_ok (by omega)])])
  ·
   refine AMx.skip ?_
   refine gS [] [] 17 [(2, vc (AL.Fnv.slS (piecesS s))), (3, vc (i6 0))] [] trivial ?_
   exact gT (AV.tup [tc (AL.Fnv.slS (piecesS s)), tc (i6 0)]) (by rw [show partsS s = (piecesS s, 0) from by first | rw [parts_no (by rw [check_big (by omega)]; decide), check_big (by omega)] | (have hk := check_small (s := s) (by omega); first | rw [parts_no (by omega), hk] | rw [parts_ok (by omega)])])
theorem f99_body : Tryz.f99.body = some (.seq (.region 0 (rg Tryz.f99 0) false) (.seq (.region 1 (rg Tryz.f99 1) false) (.seq (.region 2 (rg Tryz.f99 2) false) (.ret)))) := by kernel_rfl
set_option maxRecDepth 100000 in
set_option maxHeartbeats 8000000 in
theorem Check_c (s : Bytes) : Pure Tryz.prog 99 [tc (st s)] (vc (i6 (checkS s))) := by
 refine Pure.of_body Tryz.func99 f99_body (by kernel_rfl) Tryz.ntmps99 (by kernel_rfl) (by kernel_rfl) ?_
 refine gS [] [] 11 [(0, vc (st s))] [] trivial ?_
 refine gS [(1, CE.call [] [] (AV.tup [tc (AL.Fnv.slS ((partsS s).1)), tc (i6 ((partsS s).2))]) [])] [Spec Tryz.prog 131 [tc (st s)] (ofH []) (AV.tup [tc (AL.Fnv.slS ((partsS s).1)), tc (i6 ((partsS s).2))]) (ofH [])] 11 [(4, vc (i6 ((partsS s).2)))] [] (Parts_c s) ?_
 refine gS [] [] 11 [(2, vc (i6 ((partsS s).2)))] [] trivial ?_
 exact gT (vc (i6 ((partsS s).2))) (by rw [parts_2])
theorem f74_body : Tryz.f74.body = some (.seq (.region 0 (rg Tryz.f74 0) false) (.seq (.seq (.region 1 (rg Tryz.f74 1) false) (.cond (.tmp 9) (.seq (.region 2 (rg Tryz.f74 2) false) (.ret)) (.skip))) (.seq (.region 3 (rg Tryz.f74 3) false) (.seq (.region 4 (rg Tryz.f74 4) false) (.seq (.seq (.region 5 (rg Tryz.f74 5) false) (.block 0 (.loop (.seq (.seq (.region 6 (rg Tryz.f74 6) false) (.cond (.tmp 15) (.skip) (.exit 0))) (.seq (.block 1 (.seq (.region 8 (rg Tryz.f74 8) false) (.seq (.seq (.region 9 (rg Tryz.f74 9) false) (.cond (.tmp 24) (.seq (.region 10 (rg Tryz.f74 10) false) (.ret)) (.skip))) (.region 11 (rg Tryz.f74 11) false)))) (.region 7 (rg Tryz.f74 7) false)))))) (.seq (.seq (.region 12 (rg Tryz.f74 12) false) (.cond (.tmp 30) (.seq (.region 13 (rg Tryz.f74 13) false) (.ret)) (.skip))) (.seq (.seq (.region 14 (rg Tryz.f74 14) false) (.cond (.tmp 33) (.seq (.region 15 (rg Tryz.f74 15) false) (.ret)) (.skip))) (.seq (.region 16 (rg Tryz.f74 16) false) (.ret))))))))) := by kernel_rfl
set_option maxRecDepth 100000 in
set_option maxHeartbeats 8000000 in
theorem RCheck_c (s : Bytes) : Pure Tryz.prog 74 [tc (st s)] (vc (i6 (checkS s))) := by
 refine Pure.of_body Tryz.func74 f74_body (by kernel_rfl) Tryz.ntmps74 (by kernel_rfl) (by kernel_rfl) ?_
 refine gS [] [] 34 [(0, vc (st s))] [] trivial ?_
 refine gQ ?_
 refine gS [] [] 34 [(0, vc (st s)), (9, vc (bo (decide (64 < (List.length s : Int)))))] [] trivial ?_
 refine gC (64 < (List.length s : Int)) (fun hc1 => ?_) fun hc1 => ?_
 ·
  refine gS [] [] 34 [(2, vc (i6 5))] [] trivial ?_
  exact gT (vc (i6 5)) (by first | rw [check_big (by omega)] | rw [check_small (by omega), graded_5 (fun i hi => hN i (by omega)) (by assumption)])
 ·
  refine AMx.skip ?_
  refine gS [(1, CE.call [] [] (vc (AL.Fnv.slS (piecesS s))) [])] [Spec Tryz.prog 103 [tc (st s)] (ofH []) (vc (AL.Fnv.slS (piecesS s))) (ofH [])] 34 [(3, vc (AL.Fnv.slS (piecesS s)))] [] (Pieces_c s (by first | omega | (have hz := pieces_len s; have hz2 : List.count (47 : UInt8) s ≤ s.length := List.count_le_length; omega))) ?_
  refine gS [] [] 34 [(3, vc (AL.Fnv.slS (piecesS s))), (4, vc (bo false))] [] trivial ?_
  refine gQ ?_
  refine gS [] [] 34 [(3, vc (AL.Fnv.slS (piecesS s))), (4, vc (bo false)), (5, vc (i6 0))] [] trivial ?_
  refine AMx.block ?_
  refine AMx.ent (s' := AS.lst 34 [(3, vc (AL.Fnv.slS (piecesS s))), (4, vc (bo false)), (5, vc (i6 0))] []) (ent_proj [3, 4, 5] []) ?_
  refine AMx.loop (fun mm ss => ∃ (k : Nat), (k ≤ (piecesS s).length ∧ ∀ i, i < k → ¬ partS (List.getD (piecesS s) i []) = 4) ∧ mm = (piecesS s).length - k ∧ ss = AS.lst 34 [(3, vc (AL.Fnv.slS (piecesS s))), (4, vc (bo (longS (List.take k (piecesS s))))), (5, vc (i6 (k : Int)))] []) ⟨0, ?_, rfl, ?_⟩ ?_
  · exact ⟨Nat.zero_le _, fun i hi => by omega⟩
  · rfl
  rintro mm ss ⟨k, ⟨hI, hN⟩, rfl, rfl⟩
  refine gQ ?_
  refine gS [] [] 34 [(3, vc (AL.Fnv.slS (piecesS s))), (4, vc (bo (longS (List.take k (piecesS s))))), (5, vc (i6 (k : Int))), (15, vc (bo (decide ((k : Int) < (List.length (piecesS s : List Bytes) : Int)))))] [] trivial ?_
  refine gC ((k : Int) < (List.length (piecesS s : List Bytes) : Int)) (fun hc2 => ?_) fun hc2 => ?_
  ·
   refine AMx.skip ?_
   refine gQ ?_
   refine AMx.block ?_
   refine gS [(4, CE.call [] [] (vc (i6 (partS (List.getD (piecesS s) k [])))) [])] [(0 : Int) ≤ (k : Int), (k : Int) < List.length (piecesS s : List Bytes), Spec Tryz.prog 104 [tc (st (List.getD (piecesS s) k []))] (ofH []) (vc (i6 (partS (List.getD (piecesS s) k [])))) (ofH [])] 34 [(3, vc (AL.Fnv.slS (piecesS s))), (4, vc (bo (longS (List.take k (piecesS s))))), (5, vc (i6 (k : Int))), (6, vc (i6 (partS (List.getD (piecesS s) k []))))] [] ⟨(show (0 : Int) ≤ (k : Int) from (by first | omega | (have hz := pieces_len s; have hz2 : List.count (47 : UInt8) s ≤ s.length := List.count_le_length; omega))), (show (k : Int) < List.length (piecesS s : List Bytes) from (by first | omega | (have hz := pieces_len s; have hz2 : List.count (47 : UInt8) s ≤ s.length := List.count_le_length; omega))), (RPart_c (List.getD (piecesS s) k []) (by have hq := piece_le (AL.Lib.getD_mem [] (piecesS s) k (by omega)); omega))⟩ ?_
   refine gQ ?_
   refine gS [] [] 34 [(3, vc (AL.Fnv.slS (piecesS s))), (4, vc (bo (longS (List.take k (piecesS s))))), (5, vc (i6 (k : Int))), (6, vc (i6 (partS (List.getD (piecesS s) k [])))), (24, vc (bo (decide (partS (List.getD (piecesS s) k []) = 4))))] [] trivial ?_
   refine gC (partS (List.getD (piecesS s) k []) = 4) (fun hc3 => ?_) fun hc3 => ?_
   ·
    refine gS [] [] 34 [(2, vc (i6 4))] [] trivial ?_
    exact gT (vc (i6 4)) (by rw [check_small (by omega), graded_hit (k := k) (by omega) (by assumption)])
   ·
    refine AMx.skip ?_
    refine gR [] [((longS (List.take k (piecesS s))) = false) → allP [], ((longS (List.take k (piecesS s))) = false) → allP [(longS (List.take k (piecesS s))) = false], (longS (List.take k (piecesS s))) = false → allP [(longS (List.take k (piecesS s))) = false]] 34 [(3, vc (AL.Fnv.slS (piecesS s))), (4, vc (bo ((longS (List.take k (piecesS s))) || (decide (partS (List.getD (piecesS s) k []) = 5))))), (5, vc (i6 (k : Int)))] [] ⟨(fun _ => trivial), (fun hp => hp), (fun hp2 => (by first | exact hp2 | exact ⟨hp, hp2⟩))⟩ ?_
    refine AMx.blk ?_
    refine gR [] [InR .i64 ((k : Int) + 1)] 34 [(3, vc (AL.Fnv.slS (piecesS s))), (4, vc (bo ((longS (List.take k (piecesS s))) || (decide (partS (List.getD (piecesS s) k []) = 5))))), (5, vc (i6 ((k : Int) + 1)))] [] (show InR .i64 ((k : Int) + 1) from (inR64 (by first | omega | (have hz := pieces_len s; have hz2 : List.count (47 : UInt8) s ≤ s.length := List.count_le_length; omega)) (by first | omega | (have hz := pieces_len s; have hz2 : List.count (47 : UInt8) s ≤ s.length := List.count_le_length; omega)))) ?_
    refine AMx.ent_inv (s' := AS.lst 34 [(3, vc (AL.Fnv.slS (piecesS s))), (4, vc (bo ((longS (List.take k (piecesS s))) || (decide (partS (List.getD (piecesS s) k []) = 5))))), (5, vc (i6 ((k : Int) + 1)))] []) (ent_proj [3, 4, 5] []) ?_
    refine AMx.inv ⟨_, ?_, k + 1, ?_, rfl, ?_⟩
    rotate_left
    · exact ⟨by omega, fun i hi => by rcases Nat.lt_or_ge i k with q | q; exact hN i q; rw [show i = k by omega]; assumption⟩
    · rw [← long_step (piecesS s) k (by omega)]; rfl
    · omega
  ·
   refine AMx.exit ?_
   refine AMx.code_exit ?_
   refine AMx.inv_exit ?_
   refine AMx.blk_exit ?_
   rw [show List.take k (piecesS s) = piecesS s from List.take_of_length_le (by omega)]
   refine gQ ?_
   refine gS [] [] 34 [(3, vc (AL.Fnv.slS (piecesS s))), (30, vc (bo (longS (piecesS s))))] [] trivial ?_
   refine gB (longS (piecesS s)) (fun hc4 => ?_) fun hc4 => ?_
   ·
    try simp only [xT, xF] at hc4
    refine gS [] [] 34 [(2, vc (i6 5))] [] trivial ?_
    exact gT (vc (i6 5)) (by first | rw [check_big (by omega)] | rw [check_small (by omega), graded_5 (fun i hi => hN i (by omega)) (by assumption)])
   ·
    try simp only [xT, xF] at hc4
    refine AMx.skip ?_
    refine gQ ?_
    refine gS [] [] 34 [(33, vc (bo (decide (6 < (List.length (piecesS s : List Bytes) : Int)))))] [] trivial ?_
    refine gC (6 < (List.length (piecesS s : List Bytes) : Int)) (fun hc5 => ?_) fun hc5 => ?_
    ·
     refine gS [] [] 34 [(2, vc (i6 24))] [] trivial ?_
     exact gT (vc (i6 24)) (by rw [check_small (by omega), graded_24 (fun i hi => hN i (by omega)) (by assumption) (by omega)])
    ·
     refine AMx.skip ?_
     refine gS [] [] 34 [(2, vc (i6 0))] [] trivial ?_
     exact gT (vc (i6 0)) (by rw [check_small (by omega), graded_0 (fun i hi => hN i (by omega)) (by assumption) (by omega)])
end AL.Route
namespace AL.Under
open Go Go.Proofs AL
set_option linter.unusedVariables false
set_option linter.unusedSimpArgs false
theorem trim_len (s p : Bytes) : (trimP s p).length ≤ s.length := by unfold trimP; split <;> simp
theorem CutPrefix_c (s p : Bytes) : Pure Tryz.prog 167 [tc (st s), tc (st p)] (AV.tup [tc (st (trimP s p)), tc (bo (hasP s p))]) := by
  refine Pure.of_calls ⟨_, Tryz.func167, by kernel_rfl, by kernel_rfl⟩ fun Γ w cargs hm => ?_
  obtain ⟨u, v, rfl, ⟨rfl, hu⟩, ⟨rfl, hv⟩⟩ := args2 hm
  refine (Tryz.strings_CutPrefix (ba s) (ba p) w).mono ?_
  rintro e w' ⟨rfl, rfl⟩
  exact ⟨_, rfl, rfl, #[.string (ba (trimP s p)), .bool (hasP s p)], rfl, ⟨rfl, Nat.le_trans (trim_len s p) hu⟩, rfl, trivial⟩
end AL.Under
namespace AL.Under
open Go Go.Proofs AL
set_option linter.unusedVariables false
set_option linter.unusedSimpArgs false
theorem oneS : OneRow Bytes AL.Fnv.rowS Go.Proofs.encStr (fun s => s.length ≤ maxLen) := ⟨fun h => h, fun h => ⟨rfl, h⟩⟩
def risen (l : List Bytes) : List Bytes := l.mergeSort fun x y => decide (x ≤ y)
theorem risen_len (l : List Bytes) : (risen l).length = l.length := List.length_mergeSort l
theorem risen_mem {l : List Bytes} {x : Bytes} (h : x ∈ risen l) : x ∈ l := (List.mergeSort_perm l _).mem_iff.1 h
theorem Sort_c (l : List Bytes) (hb : l.length ≤ 100000) (id : Nat) : Spec Tryz.prog 47 [TV.c (.own id)] (ofH [(id, AObj.grow 9 1 Bytes [] AL.Fnv.rowS l)]) (.tup []) (ofH [(id, AObj.grow 9 1 Bytes [] AL.Fnv.rowS (risen l))]) :=
  Spec.inplace ⟨_, Tryz.func47, by kernel_rfl, by kernel_rfl⟩ oneS (risen_len l) (fun _ => risen_mem) (fun b cap w h1 h2 => Tryz.slices_Sort_string b 0 cap l w h1 h2 (by omega))
    (fun h p cap w => Tryz.slices_Sort_string_none p cap w) id
end AL.Under
namespace AL.Under
open Go Go.Proofs AL AL.Fnv
set_option linter.unusedVariables false
set_option linter.unusedSimpArgs false
theorem f155_body : Tryz.f155.body = some (.seq (.region 0 (rg Tryz.f155 0) false) (.seq (.seq (.region 1 (rg Tryz.f155 1) false) (.cond (.tmp 9) (.seq (.region 2 (rg Tryz.f155 2) false) (.ret)) (.skip))) (.seq (.region 3 (rg Tryz.f155 3) false) (.seq (.seq (.region 4 (rg Tryz.f155 4) false) (.cond (.tmp 20) (.seq (.region 5 (rg Tryz.f155 5) false) (.ret)) (.skip))) (.seq (.region 6 (rg Tryz.f155 6) false) (.ret)))))) := by kernel_rfl
set_option maxRecDepth 100000 in
set_option maxHeartbeats 8000000 in
theorem rest_c (s top : Bytes) : Pure Tryz.prog 155 [tc (st s), tc (st top)] (AV.tup [tc (st ((restS s top).1)), tc (bo ((restS s top).2))]) := by
 refine Pure.of_body Tryz.func155 f155_body (by kernel_rfl) Tryz.ntmps155 (by kernel_rfl) (by kernel_rfl) ?_
 refine gS [] [] 25 [(0, vc (st s)), (1, vc (st top))] [] trivial ?_
 refine gQ ?_
 refine gS [] [] 25 [(0, vc (st s)), (1, vc (st top)), (9, vc (bo (decide (top = []))))] [] trivial ?_
 refine gC (top = []) (fun hc1 => ?_) fun hc1 => ?_
 ·
  refine gS [] [] 25 [(4, vc (st s)), (5, vc (bo (!decide (s = []))))] [] trivial ?_
  exact gT (AV.tup [tc (st s), tc (bo (!decide (s = [])))]) (by rw [show restS s top = (s, !decide (s = [])) from by unfold restS; simp [*]])
 ·
  refine AMx.skip ?_
  refine gS [(2, CE.call [] [] (AV.tup [tc (st (trimP s top)), tc (bo (hasP s top))]) [])] [Spec Tryz.prog 167 [tc (st s), tc (st top)] (ofH []) (AV.tup [tc (st (trimP s top)), tc (bo (hasP s top))]) (ofH [])] 25 [(6, vc (st (trimP s top))), (7, vc (bo (hasP s top)))] [] (CutPrefix_c s top) ?_
  refine gQ ?_
  refine gS [] [] 25 [(6, vc (st (trimP s top))), (20, vc (bo (!(hasP s top))))] [] trivial ?_
  refine gB (!(hasP s top)) (fun hc2 => ?_) fun hc2 => ?_
  ·
   try simp only [xT, xF, xN, xM] at hc2
   refine gS [] [] 25 [(4, vc (st [])), (5, vc (bo false))] [] trivial ?_
   exact gT (AV.tup [tc (st []), tc (bo false)]) (by rw [show restS s top = ([], false) from by unfold restS; simp [*]])
  ·
   try simp only [xT, xF, xN, xM] at hc2
   refine AMx.skip ?_
   refine gS [(1, CE.call [] [] (AV.tup [tc (st (trimP (trimP s top) [47])), tc (bo (hasP (trimP s top) [47]))]) [])] [Spec Tryz.prog 167 [tc (st (trimP s top)), tc (st [47])] (ofH []) (AV.tup [tc (st (trimP (trimP s top) [47])), tc (bo (hasP (trimP s top) [47]))]) (ofH [])] 25 [(4, vc (st (trimP (trimP s top) [47]))), (5, vc (bo (hasP (trimP s top) [47])))] [] (CutPrefix_c (trimP s top) [47]) ?_
   exact gT (AV.tup [tc (st (trimP (trimP s top) [47])), tc (bo (hasP (trimP s top) [47]))]) (by rw [show restS s top = (trimP (trimP s top) [47], hasP (trimP s top) [47]) from by unfold restS; simp [*]])
theorem f140_body : Tryz.f140.body = some (.seq (.region 0 (rg Tryz.f140 0) false) (.seq (.region 1 (rg Tryz.f140 1) false) (.seq (.region 2 (rg Tryz.f140 2) false) (.ret)))) := by kernel_rfl
set_option maxRecDepth 100000 in
set_option maxHeartbeats 8000000 in
theorem Below_c (s top : Bytes) : Pure Tryz.prog 140 [tc (st s), tc (st top)] (vc (bo (belowS s top))) := by
 refine Pure.of_body Tryz.func140 f140_body (by kernel_rfl) Tryz.ntmps140 (by kernel_rfl) (by kernel_rfl) ?_
 refine gS [] [] 14 [(0, vc (st s)), (1, vc (st top))] [] trivial ?_
 refine gS [(2, CE.call [] [] (AV.tup [tc (st ((restS s top).1)), tc (bo ((restS s top).2))]) [])] [Spec Tryz.prog 155 [tc (st s), tc (st top)] (ofH []) (AV.tup [tc (st ((restS s top).1)), tc (bo ((restS s top).2))]) (ofH [])] 14 [(6, vc (bo ((restS s top).2)))] [] (rest_c s top) ?_
 refine gS [] [] 14 [(4, vc (bo ((restS s top).2)))] [] trivial ?_
 exact gT (vc (bo ((restS s top).2))) rfl
theorem f118_body : Tryz.f118.body = some (.seq (.region 0 (rg Tryz.f118 0) false) (.seq (.region 1 (rg Tryz.f118 1) false) (.ret))) := by kernel_rfl
set_option maxRecDepth 100000 in
set_option maxHeartbeats 8000000 in
theorem Within_c (s top : Bytes) : Pure Tryz.prog 118 [tc (st s), tc (st top)] (vc (bo (withinS s top))) := by
 refine Pure.of_body Tryz.func118 f118_body (by kernel_rfl) Tryz.ntmps118 (by kernel_rfl) (by kernel_rfl) ?_
 refine gS [] [] 13 [(0, vc (st s)), (1, vc (st top))] [] trivial ?_
 refine gS [(6, CE.call [] [] (vc (bo (belowS s top))) [])] [((decide (s = top)) = false) → allP [], ((decide (s = top)) = false) → allP [], ((decide (s = top)) = false) → allP [(decide (s = top)) = false, (decide (s = top)) = false, Spec Tryz.prog 140 [tc (st s), tc (st top)] (ofH []) (vc (bo (belowS s top))) (ofH [])], (decide (s = top)) = false → allP [(decide (s = top)) = false]] 13 [(4, vc (bo ((decide (s = top)) || (belowS s top))))] [] ⟨(fun _ => trivial), (fun _ => trivial), (fun hp => by have hq := hp; (try simp only [decide_eq_true_eq, decide_eq_false_iff_not, Bool.and_eq_true, Bool.or_eq_true, Bool.and_eq_false_iff, Bool.or_eq_false_iff, Bool.not_eq_true', Bool.not_eq_false', Bool.not_eq_true, Bool.not_eq_false] at hq); exact ⟨hp, hp, (Below_c s top)⟩), (fun hp2 => (by first | exact hp2 | exact ⟨hp, hp2⟩))⟩ ?_
 exact gT (vc (bo ((decide (s = top)) || (belowS s top)))) rfl
theorem f83_body : Tryz.f83.body = some (.seq (.region 0 (rg Tryz.f83 0) false) (.seq (.region 1 (rg Tryz.f83 1) false) (.seq (.seq (.region 2 (rg Tryz.f83 2) false) (.block 0 (.loop (.seq (.region 3 (rg Tryz.f83 3) false) (.seq (.cond (.tmp 12) (.skip) (.exit 0)) (.seq (.block 1 (.seq (.region 4 (rg Tryz.f83 4) false) (.seq (.region 5 (rg Tryz.f83 5) false) (.cond (.tmp 24) (.region 6 (rg Tryz.f83 6) false) (.skip))))) (.region 7 (rg Tryz.f83 7) false))))))) (.seq (.region 8 (rg Tryz.f83 8) false) (.ret))))) := by kernel_rfl
set_option maxRecDepth 100000 in
set_option maxHeartbeats 8000000 in
theorem Longest_c (s : Bytes) (l : List Bytes) : Pure Tryz.prog 83 [tc (st s), tc (slS l)] (vc (i6 (longestS s l))) := by
 refine Pure.of_body Tryz.func83 f83_body (by kernel_rfl) Tryz.ntmps83 (by kernel_rfl) (by kernel_rfl) ?_
 refine AMx.sl 1 (l := l) rfl (fun hl => ?_)
 simp only [maxLen] at hl
 refine gS [] [] 30 [(0, vc (st s)), (1, vc (slS l))] [] trivial ?_
 refine gS [] [] 30 [(0, vc (st s)), (1, vc (slS l)), (5, vc (i6 (-1))), (6, vc (i6 (-1)))] [] trivial ?_
 refine gQ ?_
 refine gS [] [] 30 [(0, vc (st s)), (5, vc (i6 (-1))), (6, vc (i6 (-1))), (9, vc (slS l)), (10, vc (i6 (List.length l : Int))), (11, vc (i6 0))] [] trivial ?_
 refine AMx.block ?_
 refine AMx.ent (s' := AS.lst 30 [(0, vc (st s)), (5, vc (i6 (-1))), (6, vc (i6 (-1))), (9, vc (slS l)), (10, vc (i6 (List.length l : Int))), (11, vc (i6 0))] []) (ent_proj [0, 5, 6, 9, 10, 11] []) ?_
 refine AMx.loop (fun mm ss => ∃ (k : Nat), (k ≤ l.length) ∧ mm = l.length - k ∧ ss = AS.lst 30 [(0, vc (st s)), (5, vc (i6 (longS s l k))), (6, vc (i6 (sizeS l (longS s l k)))), (9, vc (slS l)), (10, vc (i6 (List.length l : Int))), (11, vc (i6 (k : Int)))] []) ⟨0, ?_, rfl, ?_⟩ ?_
 · omega
 · rfl
 rintro mm ss ⟨k, hI, rfl, rfl⟩
 refine gS [] [] 30 [(0, vc (st s)), (5, vc (i6 (longS s l k))), (6, vc (i6 (sizeS l (longS s l k)))), (9, vc (slS l)), (10, vc (i6 (List.length l : Int))), (11, vc (i6 (k : Int))), (12, vc (bo (decide ((k : Int) < (List.length l : Int)))))] [] trivial ?_
 refine gQ ?_
 refine gC ((k : Int) < (List.length l : Int)) (fun hc1 => ?_) fun hc1 => ?_
 ·
  refine AMx.skip ?_
  refine gQ ?_
  refine AMx.block ?_
  refine gS [] [(0 : Int) ≤ (k : Int), (k : Int) < List.length l] 30 [(0, vc (st s)), (5, vc (i6 (longS s l k))), (6, vc (i6 (sizeS l (longS s l k)))), (7, vc (i6 (k : Int))), (8, vc (st (List.getD l k []))), (9, vc (slS l)), (10, vc (i6 (List.length l : Int))), (11, vc (i6 (k : Int)))] [] ⟨(show (0 : Int) ≤ (k : Int) from (by omega)), (show (k : Int) < List.length l from (by omega))⟩ ?_
  refine gS [(7, CE.call [] [] (vc (bo (withinS s (List.getD l k [])))) [])] [((decide (sizeS l (longS s l k) < (List.length ((List.getD l k []) : List UInt8) : Int))) = true) → allP [], ((decide (sizeS l (longS s l k) < (List.length ((List.getD l k []) : List UInt8) : Int))) = true) → allP [], ((decide (sizeS l (longS s l k) < (List.length ((List.getD l k []) : List UInt8) : Int))) = true) → allP [(decide (sizeS l (longS s l k) < (List.length ((List.getD l k []) : List UInt8) : Int))) = true, (decide (sizeS l (longS s l k) < (List.length ((List.getD l k []) : List UInt8) : Int))) = true, Spec Tryz.prog 118 [tc (st s), tc (st (List.getD l k []))] (ofH []) (vc (bo (withinS s (List.getD l k [])))) (ofH [])], (decide (sizeS l (longS s l k) < (List.length ((List.getD l k []) : List UInt8) : Int))) = true → allP [(decide (sizeS l (longS s l k) < (List.length ((List.getD l k []) : List UInt8) : Int))) = true]] 30 [(0, vc (st s)), (5, vc (i6 (longS s l k))), (6, vc (i6 (sizeS l (longS s l k)))), (7, vc (i6 (k : Int))), (8, vc (st (List.getD l k []))), (9, vc (slS l)), (10, vc (i6 (List.length l : Int))), (11, vc (i6 (k : Int))), (24, vc (bo ((decide (sizeS l (longS s l k) < (List.length ((List.getD l k []) : List UInt8) : Int))) && (withinS s (List.getD l k [])))))] [] ⟨(fun _ => trivial), (fun _ => trivial), (fun hp => by have hq := hp; (try simp only [decide_eq_true_eq, decide_eq_false_iff_not, Bool.and_eq_true, Bool.or_eq_true, Bool.and_eq_false_iff, Bool.or_eq_false_iff, Bool.not_eq_true', Bool.not_eq_false', Bool.not_eq_true, Bool.not_eq_false] at hq); exact ⟨hp, hp, (Within_c s (List.getD l k []))⟩), (fun hp2 => (by first | exact hp2 | exact ⟨hp, hp2⟩))⟩ ?_
  refine gB (((decide (sizeS l (longS s l k) < (List.length ((List.getD l k []) : List UInt8) : Int))) && (withinS s (List.getD l k [])))) (fun hc2 => ?_) fun hc2 => ?_
  ·
   try simp only [xT, xF, xA, xB] at hc2
   refine gR [] [] 30 [(0, vc (st s)), (5, vc (i6 (k : Int))), (6, vc (i6 (List.length ((List.getD l k []) : List UInt8) : Int))), (9, vc (slS l)), (10, vc (i6 (List.length l : Int))), (11, vc (i6 (k : Int)))] [] trivial ?_
   refine AMx.blk ?_
   refine gR [] [InR .i64 ((k : Int) + 1)] 30 [(0, vc (st s)), (5, vc (i6 (k : Int))), (6, vc (i6 (List.length ((List.getD l k []) : List UInt8) : Int))), (9, vc (slS l)), (10, vc (i6 (List.length l : Int))), (11, vc (i6 ((k : Int) + 1)))] [] (show InR .i64 ((k : Int) + 1) from (inR64 (by omega) (by omega))) ?_
   refine AMx.ent_inv (s' := AS.lst 30 [(0, vc (st s)), (5, vc (i6 (k : Int))), (6, vc (i6 (List.length ((List.getD l k []) : List UInt8) : Int))), (9, vc (slS l)), (10, vc (i6 (List.length l : Int))), (11, vc (i6 ((k : Int) + 1)))] []) (ent_proj [0, 5, 6, 9, 10, 11] []) ?_
   refine AMx.inv ⟨_, ?_, k + 1, ?_, rfl, ?_⟩
   rotate_left
   · omega
   · rw [long_t hc2.2 hc2.1, size_k]; rfl
   · omega
  ·
   try simp only [xT, xF, xA, xB] at hc2
   refine AMx.skip ?_
   refine AMx.blk ?_
   refine gR [] [InR .i64 ((k : Int) + 1)] 30 [(0, vc (st s)), (5, vc (i6 (longS s l k))), (6, vc (i6 (sizeS l (longS s l k)))), (9, vc (slS l)), (10, vc (i6 (List.length l : Int))), (11, vc (i6 ((k : Int) + 1)))] [] (show InR .i64 ((k : Int) + 1) from (inR64 (by omega) (by omega))) ?_
   refine AMx.ent_inv (s' := AS.lst 30 [(0, vc (st s)), (5, vc (i6 (longS s l k))), (6, vc (i6 (sizeS l (longS s l k)))), (9, vc (slS l)), (10, vc (i6 (List.length l : Int))), (11, vc (i6 ((k : Int) + 1)))] []) (ent_proj [0, 5, 6, 9, 10, 11] []) ?_
   refine AMx.inv ⟨_, ?_, k + 1, ?_, rfl, ?_⟩
   rotate_left
   · omega
   · rw [long_f (fun q => by rcases hc2 with h | h; exact h q.1; rw [q.2] at h; cases h)]; rfl
   · omega
 ·
  refine AMx.exit ?_
  refine AMx.code_exit ?_
  refine AMx.inv_exit ?_
  refine AMx.blk_exit ?_
  refine gS [] [] 30 [(4, vc (i6 (longS s l k)))] [] trivial ?_
  exact gT (vc (i6 (longS s l k))) (by rw [show k = l.length by omega]; rfl)
end AL.Under
