/- route: the contracts of its functions, by their walks. No condition. -/
import Derived.Test.YtfedegdihgeelaaDoorRouteD
import Derived.Test.YtfedegdihgeelaaDoorALe
namespace AL.Route
open Go Go.Proofs AL AL.Rune
set_option linter.unusedVariables false
set_option linter.unusedSimpArgs false

theorem f82_body : Tryd.f82.body = some (.seq (.region 0 (rg Tryd.f82 0) false) (.seq (.block 0 (.seq (.seq (.region 1 (rg Tryd.f82 1) false) (.cond (.tmp 3) (.skip) (.seq (.region 2 (rg Tryd.f82 2) false) (.cond (.tmp 3) (.skip) (.region 3 (rg Tryd.f82 3) false))))) (.cond (.tmp 3) (.seq (.region 4 (rg Tryd.f82 4) false) (.ret)) (.seq (.seq (.region 5 (rg Tryd.f82 5) false) (.cond (.tmp 22) (.skip) (.seq (.region 6 (rg Tryd.f82 6) false) (.cond (.tmp 22) (.skip) (.region 7 (rg Tryd.f82 7) false))))) (.cond (.tmp 22) (.seq (.region 8 (rg Tryd.f82 8) false) (.ret)) (.skip)))))) (.seq (.region 9 (rg Tryd.f82 9) false) (.ret)))) := by kernel_rfl

set_option maxRecDepth 100000 in
set_option maxHeartbeats 8000000 in
theorem Rune_c (c : Int) : Pure Tryd.prog 82 [tc (i3 c)] (vc (bo (runeOk c))) := by
 refine Pure.of_body Tryd.func82 f82_body (by kernel_rfl) Tryd.ntmps82 (by kernel_rfl) (by kernel_rfl) ?_
 refine gS [] [] 35 [(0, vc (i3 c))] [] trivial ?_
 refine gQ ?_
 refine AMx.block ?_
 refine gQ ?_
 refine gS [] [((decide (97 ≤ c)) = true) → allP [], ((decide (97 ≤ c)) = true) → allP [(decide (97 ≤ c)) = true], (decide (97 ≤ c)) = true → allP [(decide (97 ≤ c)) = true]] 35 [(0, vc (i3 c)), (3, vc (bo ((decide (97 ≤ c)) && (decide (c ≤ 122)))))] [] ⟨(fun _ => trivial), (fun hp => hp), (fun hp2 => (by first | exact hp2 | exact ⟨hp, hp2⟩))⟩ ?_
 refine gB (((decide (97 ≤ c)) && (decide (c ≤ 122)))) (fun hc1 => ?_) fun hc1 => ?_
 ·
  try simp only [xT, xF, xA, xB] at hc1
  refine AMx.skip ?_
  refine gB (((decide (97 ≤ c)) && (decide (c ≤ 122)))) (fun hc2 => ?_) fun hc2 => ?_
  ·
   try simp only [xT, xF, xA, xB] at hc2
   refine gS [] [] 35 [(2, vc (bo true))] [] trivial ?_
   exact gT (vc (bo true)) (by rw [show runeOk c = true from by first | rfl | (unfold runeOk; rw [Bool.eq_iff_iff]; simp only [Bool.or_eq_true, Bool.and_eq_true, decide_eq_true_eq, iff_true, Bool.false_eq_true, iff_false] <;> omega)])
  ·
   try simp only [xT, xF, xA, xB] at hc2
   refine gQ ?_
   refine gS [] [] 35 [(0, vc (i3 c)), (22, vc (bo (decide (c = 45))))] [] trivial ?_
   refine gC (c = 45) (fun hc3 => ?_) fun hc3 => ?_
   ·
    refine AMx.skip ?_
    refine gC (c = 45) (fun hc4 => ?_) fun hc4 => ?_
    ·
     refine gS [] [] 35 [(2, vc (bo true))] [] trivial ?_
     exact gT (vc (bo true)) (by rw [show runeOk c = true from by first | rfl | (unfold runeOk; rw [Bool.eq_iff_iff]; simp only [Bool.or_eq_true, Bool.and_eq_true, decide_eq_true_eq, iff_true, Bool.false_eq_true, iff_false] <;> omega)])
    ·
     refine AMx.skip ?_
     refine AMx.blk ?_
     refine gS [] [((decide (192 ≤ c)) = true) → allP [], ((decide (192 ≤ c)) = true) → allP [(decide (192 ≤ c)) = true], (decide (192 ≤ c)) = true → allP [(decide (192 ≤ c)) = true]] 35 [(2, vc (bo ((decide (192 ≤ c)) && (decide (c ≤ 55295)))))] [] ⟨(fun _ => trivial), (fun hp => hp), (fun hp2 => (by first | exact hp2 | exact ⟨hp, hp2⟩))⟩ ?_
     exact gT (vc (bo ((decide (192 ≤ c)) && (decide (c ≤ 55295))))) (by rw [show runeOk c = ((decide (192 ≤ c)) && (decide (c ≤ 55295))) from by first | rfl | (unfold runeOk; rw [Bool.eq_iff_iff]; simp only [Bool.or_eq_true, Bool.and_eq_true, decide_eq_true_eq, iff_true, Bool.false_eq_true, iff_false] <;> omega)])
   ·
    refine gS [] [] 35 [(0, vc (i3 c)), (22, vc (bo (decide (c = 46))))] [] trivial ?_
    refine gC (c = 46) (fun hc5 => ?_) fun hc5 => ?_
    ·
     refine AMx.skip ?_
     refine gC (c = 46) (fun hc6 => ?_) fun hc6 => ?_
     ·
      refine gS [] [] 35 [(2, vc (bo true))] [] trivial ?_
      exact gT (vc (bo true)) (by rw [show runeOk c = true from by first | rfl | (unfold runeOk; rw [Bool.eq_iff_iff]; simp only [Bool.or_eq_true, Bool.and_eq_true, decide_eq_true_eq, iff_true, Bool.false_eq_true, iff_false] <;> omega)])
     ·
      refine AMx.skip ?_
      refine AMx.blk ?_
      refine gS [] [((decide (192 ≤ c)) = true) → allP [], ((decide (192 ≤ c)) = true) → allP [(decide (192 ≤ c)) = true], (decide (192 ≤ c)) = true → allP [(decide (192 ≤ c)) = true]] 35 [(2, vc (bo ((decide (192 ≤ c)) && (decide (c ≤ 55295)))))] [] ⟨(fun _ => trivial), (fun hp => hp), (fun hp2 => (by first | exact hp2 | exact ⟨hp, hp2⟩))⟩ ?_
      exact gT (vc (bo ((decide (192 ≤ c)) && (decide (c ≤ 55295))))) (by rw [show runeOk c = ((decide (192 ≤ c)) && (decide (c ≤ 55295))) from by first | rfl | (unfold runeOk; rw [Bool.eq_iff_iff]; simp only [Bool.or_eq_true, Bool.and_eq_true, decide_eq_true_eq, iff_true, Bool.false_eq_true, iff_false] <;> omega)])
    ·
     refine gR [] [] 35 [(0, vc (i3 c)), (22, vc (bo (decide (c = 95))))] [] trivial ?_
     refine gC (c = 95) (fun hc7 => ?_) fun hc7 => ?_
     ·
      refine gS [] [] 35 [(2, vc (bo true))] [] trivial ?_
      exact gT (vc (bo true)) (by rw [show runeOk c = true from by first | rfl | (unfold runeOk; rw [Bool.eq_iff_iff]; simp only [Bool.or_eq_true, Bool.and_eq_true, decide_eq_true_eq, iff_true, Bool.false_eq_true, iff_false] <;> omega)])
     ·
      refine AMx.skip ?_
      refine AMx.blk ?_
      refine gS [] [((decide (192 ≤ c)) = true) → allP [], ((decide (192 ≤ c)) = true) → allP [(decide (192 ≤ c)) = true], (decide (192 ≤ c)) = true → allP [(decide (192 ≤ c)) = true]] 35 [(2, vc (bo ((decide (192 ≤ c)) && (decide (c ≤ 55295)))))] [] ⟨(fun _ => trivial), (fun hp => hp), (fun hp2 => (by first | exact hp2 | exact ⟨hp, hp2⟩))⟩ ?_
      exact gT (vc (bo ((decide (192 ≤ c)) && (decide (c ≤ 55295))))) (by rw [show runeOk c = ((decide (192 ≤ c)) && (decide (c ≤ 55295))) from by first | rfl | (unfold runeOk; rw [Bool.eq_iff_iff]; simp only [Bool.or_eq_true, Bool.and_eq_true, decide_eq_true_eq, iff_true, Bool.false_eq_true, iff_false] <;> omega)])
 ·
  try simp only [xT, xF, xA, xB] at hc1
  refine gS [] [((decide (65 ≤ c)) = true) → allP [], ((decide (65 ≤ c)) = true) → allP [(decide (65 ≤ c)) = true], (decide (65 ≤ c)) = true → allP [(decide (65 ≤ c)) = true]] 35 [(0, vc (i3 c)), (3, vc (bo ((decide (65 ≤ c)) && (decide (c ≤ 90)))))] [] ⟨(fun _ => trivial), (fun hp => hp), (fun hp2 => (by first | exact hp2 | exact ⟨hp, hp2⟩))⟩ ?_
  refine gB (((decide (65 ≤ c)) && (decide (c ≤ 90)))) (fun hc8 => ?_) fun hc8 => ?_
  ·
   try simp only [xT, xF, xA, xB] at hc8
   refine AMx.skip ?_
   refine gB (((decide (65 ≤ c)) && (decide (c ≤ 90)))) (fun hc9 => ?_) fun hc9 => ?_
   ·
    try simp only [xT, xF, xA, xB] at hc9
    refine gS [] [] 35 [(2, vc (bo true))] [] trivial ?_
    exact gT (vc (bo true)) (by rw [show runeOk c = true from by first | rfl | (unfold runeOk; rw [Bool.eq_iff_iff]; simp only [Bool.or_eq_true, Bool.and_eq_true, decide_eq_true_eq, iff_true, Bool.false_eq_true, iff_false] <;> omega)])
   ·
    try simp only [xT, xF, xA, xB] at hc9
    refine gQ ?_
    refine gS [] [] 35 [(0, vc (i3 c)), (22, vc (bo (decide (c = 45))))] [] trivial ?_
    refine gC (c = 45) (fun hc10 => ?_) fun hc10 => ?_
    ·
     refine AMx.skip ?_
     refine gC (c = 45) (fun hc11 => ?_) fun hc11 => ?_
     ·
      refine gS [] [] 35 [(2, vc (bo true))] [] trivial ?_
      exact gT (vc (bo true)) (by rw [show runeOk c = true from by first | rfl | (unfold runeOk; rw [Bool.eq_iff_iff]; simp only [Bool.or_eq_true, Bool.and_eq_true, decide_eq_true_eq, iff_true, Bool.false_eq_true, iff_false] <;> omega)])
     ·
      refine AMx.skip ?_
      refine AMx.blk ?_
      refine gS [] [((decide (192 ≤ c)) = true) → allP [], ((decide (192 ≤ c)) = true) → allP [(decide (192 ≤ c)) = true], (decide (192 ≤ c)) = true → allP [(decide (192 ≤ c)) = true]] 35 [(2, vc (bo ((decide (192 ≤ c)) && (decide (c ≤ 55295)))))] [] ⟨(fun _ => trivial), (fun hp => hp), (fun hp2 => (by first | exact hp2 | exact ⟨hp, hp2⟩))⟩ ?_
      exact gT (vc (bo ((decide (192 ≤ c)) && (decide (c ≤ 55295))))) (by rw [show runeOk c = ((decide (192 ≤ c)) && (decide (c ≤ 55295))) from by first | rfl | (unfold runeOk; rw [Bool.eq_iff_iff]; simp only [Bool.or_eq_true, Bool.and_eq_true, decide_eq_true_eq, iff_true, Bool.false_eq_true, iff_false] <;> omega)])
    ·
     refine gS [] [] 35 [(0, vc (i3 c)), (22, vc (bo (decide (c = 46))))] [] trivial ?_
     refine gC (c = 46) (fun hc12 => ?_) fun hc12 => ?_
     ·
      refine AMx.skip ?_
      refine gC (c = 46) (fun hc13 => ?_) fun hc13 => ?_
      ·
       refine gS [] [] 35 [(2, vc (bo true))] [] trivial ?_
       exact gT (vc (bo true)) (by rw [show runeOk c = true from by first | rfl | (unfold runeOk; rw [Bool.eq_iff_iff]; simp only [Bool.or_eq_true, Bool.and_eq_true, decide_eq_true_eq, iff_true, Bool.false_eq_true, iff_false] <;> omega)])
      ·
       refine AMx.skip ?_
       refine AMx.blk ?_
       refine gS [] [((decide (192 ≤ c)) = true) → allP [], ((decide (192 ≤ c)) = true) → allP [(decide (192 ≤ c)) = true], (decide (192 ≤ c)) = true → allP [(decide (192 ≤ c)) = true]] 35 [(2, vc (bo ((decide (192 ≤ c)) && (decide (c ≤ 55295)))))] [] ⟨(fun _ => trivial), (fun hp => hp), (fun hp2 => (by first | exact hp2 | exact ⟨hp, hp2⟩))⟩ ?_
       exact gT (vc (bo ((decide (192 ≤ c)) && (decide (c ≤ 55295))))) (by rw [show runeOk c = ((decide (192 ≤ c)) && (decide (c ≤ 55295))) from by first | rfl | (unfold runeOk; rw [Bool.eq_iff_iff]; simp only [Bool.or_eq_true, Bool.and_eq_true, decide_eq_true_eq, iff_true, Bool.false_eq_true, iff_false] <;> omega)])
     ·
      refine gR [] [] 35 [(0, vc (i3 c)), (22, vc (bo (decide (c = 95))))] [] trivial ?_
      refine gC (c = 95) (fun hc14 => ?_) fun hc14 => ?_
      ·
       refine gS [] [] 35 [(2, vc (bo true))] [] trivial ?_
       exact gT (vc (bo true)) (by rw [show runeOk c = true from by first | rfl | (unfold runeOk; rw [Bool.eq_iff_iff]; simp only [Bool.or_eq_true, Bool.and_eq_true, decide_eq_true_eq, iff_true, Bool.false_eq_true, iff_false] <;> omega)])
      ·
       refine AMx.skip ?_
       refine AMx.blk ?_
       refine gS [] [((decide (192 ≤ c)) = true) → allP [], ((decide (192 ≤ c)) = true) → allP [(decide (192 ≤ c)) = true], (decide (192 ≤ c)) = true → allP [(decide (192 ≤ c)) = true]] 35 [(2, vc (bo ((decide (192 ≤ c)) && (decide (c ≤ 55295)))))] [] ⟨(fun _ => trivial), (fun hp => hp), (fun hp2 => (by first | exact hp2 | exact ⟨hp, hp2⟩))⟩ ?_
       exact gT (vc (bo ((decide (192 ≤ c)) && (decide (c ≤ 55295))))) (by rw [show runeOk c = ((decide (192 ≤ c)) && (decide (c ≤ 55295))) from by first | rfl | (unfold runeOk; rw [Bool.eq_iff_iff]; simp only [Bool.or_eq_true, Bool.and_eq_true, decide_eq_true_eq, iff_true, Bool.false_eq_true, iff_false] <;> omega)])
  ·
   try simp only [xT, xF, xA, xB] at hc8
   refine gR [] [((decide (48 ≤ c)) = true) → allP [], ((decide (48 ≤ c)) = true) → allP [(decide (48 ≤ c)) = true], (decide (48 ≤ c)) = true → allP [(decide (48 ≤ c)) = true]] 35 [(0, vc (i3 c)), (3, vc (bo ((decide (48 ≤ c)) && (decide (c ≤ 57)))))] [] ⟨(fun _ => trivial), (fun hp => hp), (fun hp2 => (by first | exact hp2 | exact ⟨hp, hp2⟩))⟩ ?_
   refine gB (((decide (48 ≤ c)) && (decide (c ≤ 57)))) (fun hc15 => ?_) fun hc15 => ?_
   ·
    try simp only [xT, xF, xA, xB] at hc15
    refine gS [] [] 35 [(2, vc (bo true))] [] trivial ?_
    exact gT (vc (bo true)) (by rw [show runeOk c = true from by first | rfl | (unfold runeOk; rw [Bool.eq_iff_iff]; simp only [Bool.or_eq_true, Bool.and_eq_true, decide_eq_true_eq, iff_true, Bool.false_eq_true, iff_false] <;> omega)])
   ·
    try simp only [xT, xF, xA, xB] at hc15
    refine gQ ?_
    refine gS [] [] 35 [(0, vc (i3 c)), (22, vc (bo (decide (c = 45))))] [] trivial ?_
    refine gC (c = 45) (fun hc16 => ?_) fun hc16 => ?_
    ·
     refine AMx.skip ?_
     refine gC (c = 45) (fun hc17 => ?_) fun hc17 => ?_
     ·
      refine gS [] [] 35 [(2, vc (bo true))] [] trivial ?_
      exact gT (vc (bo true)) (by rw [show runeOk c = true from by first | rfl | (unfold runeOk; rw [Bool.eq_iff_iff]; simp only [Bool.or_eq_true, Bool.and_eq_true, decide_eq_true_eq, iff_true, Bool.false_eq_true, iff_false] <;> omega)])
     ·
      refine AMx.skip ?_
      refine AMx.blk ?_
      refine gS [] [((decide (192 ≤ c)) = true) → allP [], ((decide (192 ≤ c)) = true) → allP [(decide (192 ≤ c)) = true], (decide (192 ≤ c)) = true → allP [(decide (192 ≤ c)) = true]] 35 [(2, vc (bo ((decide (192 ≤ c)) && (decide (c ≤ 55295)))))] [] ⟨(fun _ => trivial), (fun hp => hp), (fun hp2 => (by first | exact hp2 | exact ⟨hp, hp2⟩))⟩ ?_
      exact gT (vc (bo ((decide (192 ≤ c)) && (decide (c ≤ 55295))))) (by rw [show runeOk c = ((decide (192 ≤ c)) && (decide (c ≤ 55295))) from by first | rfl | (unfold runeOk; rw [Bool.eq_iff_iff]; simp only [Bool.or_eq_true, Bool.and_eq_true, decide_eq_true_eq, iff_true, Bool.false_eq_true, iff_false] <;> omega)])
    ·
     refine gS [] [] 35 [(0, vc (i3 c)), (22, vc (bo (decide (c = 46))))] [] trivial ?_
     refine gC (c = 46) (fun hc18 => ?_) fun hc18 => ?_
     ·
      refine AMx.skip ?_
      refine gC (c = 46) (fun hc19 => ?_) fun hc19 => ?_
      ·
       refine gS [] [] 35 [(2, vc (bo true))] [] trivial ?_
       exact gT (vc (bo true)) (by rw [show runeOk c = true from by first | rfl | (unfold runeOk; rw [Bool.eq_iff_iff]; simp only [Bool.or_eq_true, Bool.and_eq_true, decide_eq_true_eq, iff_true, Bool.false_eq_true, iff_false] <;> omega)])
      ·
       refine AMx.skip ?_
       refine AMx.blk ?_
       refine gS [] [((decide (192 ≤ c)) = true) → allP [], ((decide (192 ≤ c)) = true) → allP [(decide (192 ≤ c)) = true], (decide (192 ≤ c)) = true → allP [(decide (192 ≤ c)) = true]] 35 [(2, vc (bo ((decide (192 ≤ c)) && (decide (c ≤ 55295)))))] [] ⟨(fun _ => trivial), (fun hp => hp), (fun hp2 => (by first | exact hp2 | exact ⟨hp, hp2⟩))⟩ ?_
       exact gT (vc (bo ((decide (192 ≤ c)) && (decide (c ≤ 55295))))) (by rw [show runeOk c = ((decide (192 ≤ c)) && (decide (c ≤ 55295))) from by first | rfl | (unfold runeOk; rw [Bool.eq_iff_iff]; simp only [Bool.or_eq_true, Bool.and_eq_true, decide_eq_true_eq, iff_true, Bool.false_eq_true, iff_false] <;> omega)])
     ·
      refine gR [] [] 35 [(0, vc (i3 c)), (22, vc (bo (decide (c = 95))))] [] trivial ?_
      refine gC (c = 95) (fun hc20 => ?_) fun hc20 => ?_
      ·
       refine gS [] [] 35 [(2, vc (bo true))] [] trivial ?_
       exact gT (vc (bo true)) (by rw [show runeOk c = true from by first | rfl | (unfold runeOk; rw [Bool.eq_iff_iff]; simp only [Bool.or_eq_true, Bool.and_eq_true, decide_eq_true_eq, iff_true, Bool.false_eq_true, iff_false] <;> omega)])
      ·
       refine AMx.skip ?_
       refine AMx.blk ?_
       refine gS [] [((decide (192 ≤ c)) = true) → allP [], ((decide (192 ≤ c)) = true) → allP [(decide (192 ≤ c)) = true], (decide (192 ≤ c)) = true → allP [(decide (192 ≤ c)) = true]] 35 [(2, vc (bo ((decide (192 ≤ c)) && (decide (c ≤ 55295)))))] [] ⟨(fun _ => trivial), (fun hp => hp), (fun hp2 => (by first | exact hp2 | exact ⟨hp, hp2⟩))⟩ ?_
       exact gT (vc (bo ((decide (192 ≤ c)) && (decide (c ≤ 55295))))) (by rw [show runeOk c = ((decide (192 ≤ c)) && (decide (c ≤ 55295))) from by first | rfl | (unfold runeOk; rw [Bool.eq_iff_iff]; simp only [Bool.or_eq_true, Bool.and_eq_true, decide_eq_true_eq, iff_true, Bool.false_eq_true, iff_false] <;> omega)])

end AL.Route
