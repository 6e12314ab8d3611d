/- route: the contracts of its functions, by their walks. No condition. -/
import Derived.Test.YtiiiecdfganahaaDoorRouteD
import Derived.Test.YtiiiecdfganahaaDoorALe
namespace AL.Route
open Go Go.Proofs AL AL.Rune
set_option linter.unusedVariables false
set_option linter.unusedSimpArgs false

theorem f83_body : Tryd.f83.body = some (.seq (.region 0 (rg Tryd.f83 0) false) (.seq (.block 0 (.seq (.seq (.region 1 (rg Tryd.f83 1) false) (.cond (.tmp 3) (.skip) (.seq (.region 2 (rg Tryd.f83 2) false) (.cond (.tmp 3) (.skip) (.region 3 (rg Tryd.f83 3) false))))) (.cond (.tmp 3) (.seq (.region 4 (rg Tryd.f83 4) false) (.ret)) (.seq (.seq (.region 5 (rg Tryd.f83 5) false) (.cond (.tmp 22) (.skip) (.seq (.region 6 (rg Tryd.f83 6) false) (.cond (.tmp 22) (.skip) (.region 7 (rg Tryd.f83 7) false))))) (.cond (.tmp 22) (.seq (.region 8 (rg Tryd.f83 8) false) (.ret)) (.skip)))))) (.seq (.region 9 (rg Tryd.f83 9) false) (.ret)))) := by kernel_rfl

set_option maxRecDepth 100000 in
set_option maxHeartbeats 8000000 in
theorem Rune_c (c : Int) : Pure Tryd.prog 83 [tc (i3 c)] (vc (bo (runeOk c))) := by
  refine Pure.of_body Tryd.func83 f83_body (by kernel_rfl) Tryd.ntmps83 (by kernel_rfl) (by kernel_rfl) ?_
  refine AMx.seq ?_
  refine AMx.region (ces := []) (ks := [0]) (hs := []) (cs := []) (s' := AS.lst 35 [(0, vc (i3 c))] []) (by kernel_rfl) ?_ ?_
  · exact trivial
  refine AMx.seq ?_
  refine AMx.block ?_
  refine AMx.seq ?_
  refine AMx.seq ?_
  refine AMx.region (ces := []) (ks := [0, 3]) (hs := []) (cs := [((decide (97 ≤ c)) = true) → allP [], ((decide (97 ≤ c)) = true) → allP [(decide (97 ≤ c)) = true], (decide (97 ≤ c)) = true → allP [(decide (97 ≤ c)) = true]]) (s' := AS.lst 35 [(0, vc (i3 c)), (3, vc (bo ((decide (97 ≤ c)) && (decide (c ≤ 122)))))] []) (by kernel_rfl) ?_ ?_
  · exact ⟨(fun _ => trivial), (fun hp => hp), (fun hp2 => (by first | exact hp2 | exact ⟨hp, hp2⟩))⟩
  refine AMx.cond (b := ((decide (97 ≤ c)) && (decide (c ≤ 122)))) (by kernel_rfl) (fun hc1 => ?_) (fun hc1 => ?_)
  · try simp only [decide_eq_true_eq, decide_eq_false_iff_not, Bool.and_eq_true, Bool.and_eq_false_iff] at hc1
    refine AMx.skip ?_
    refine AMx.cond (b := ((decide (97 ≤ c)) && (decide (c ≤ 122)))) (by kernel_rfl) (fun hc2 => ?_) (fun hc2 => ?_)
    · try simp only [decide_eq_true_eq, decide_eq_false_iff_not, Bool.and_eq_true, Bool.and_eq_false_iff] at hc2
      refine AMx.seq ?_
      refine AMx.region (ces := []) (ks := [2]) (hs := []) (cs := []) (s' := AS.lst 35 [(2, vc (bo true))] []) (by kernel_rfl) ?_ ?_
      · exact trivial
      refine AMx.ret ?_
      exact RetP.mk (r := vc (bo true)) (by kernel_rfl) (by rw [show runeOk c = true from by first | rfl | (unfold runeOk; rw [Bool.eq_iff_iff]; simp only [Bool.or_eq_true, Bool.and_eq_true, decide_eq_true_eq, iff_true, Bool.false_eq_true, iff_false] <;> omega)])
    · try simp only [decide_eq_true_eq, decide_eq_false_iff_not, Bool.and_eq_true, Bool.and_eq_false_iff] at hc2
      refine AMx.seq ?_
      refine AMx.seq ?_
      refine AMx.region (ces := []) (ks := [0, 22]) (hs := []) (cs := []) (s' := AS.lst 35 [(0, vc (i3 c)), (22, vc (bo (decide (c = 45))))] []) (by kernel_rfl) ?_ ?_
      · exact trivial
      refine AMx.cond (b := decide (c = 45)) (by kernel_rfl) (fun hc3 => ?_) (fun hc3 => ?_)
      · try simp only [decide_eq_true_eq, decide_eq_false_iff_not] at hc3
        refine AMx.skip ?_
        refine AMx.cond (b := decide (c = 45)) (by kernel_rfl) (fun hc4 => ?_) (fun hc4 => ?_)
        · try simp only [decide_eq_true_eq, decide_eq_false_iff_not] at hc4
          refine AMx.seq ?_
          refine AMx.region (ces := []) (ks := [2]) (hs := []) (cs := []) (s' := AS.lst 35 [(2, vc (bo true))] []) (by kernel_rfl) ?_ ?_
          · exact trivial
          refine AMx.ret ?_
          exact RetP.mk (r := vc (bo true)) (by kernel_rfl) (by rw [show runeOk c = true from by first | rfl | (unfold runeOk; rw [Bool.eq_iff_iff]; simp only [Bool.or_eq_true, Bool.and_eq_true, decide_eq_true_eq, iff_true, Bool.false_eq_true, iff_false] <;> omega)])
        · try simp only [decide_eq_true_eq, decide_eq_false_iff_not] at hc4
          refine AMx.skip ?_
          refine AMx.blk ?_
          refine AMx.seq ?_
          refine AMx.region (ces := []) (ks := [2]) (hs := []) (cs := [((decide (192 ≤ c)) = true) → allP [], ((decide (192 ≤ c)) = true) → allP [(decide (192 ≤ c)) = true], (decide (192 ≤ c)) = true → allP [(decide (192 ≤ c)) = true]]) (s' := AS.lst 35 [(2, vc (bo ((decide (192 ≤ c)) && (decide (c ≤ 55295)))))] []) (by kernel_rfl) ?_ ?_
          · exact ⟨(fun _ => trivial), (fun hp => hp), (fun hp2 => (by first | exact hp2 | exact ⟨hp, hp2⟩))⟩
          refine AMx.ret ?_
          exact RetP.mk (r := vc (bo ((decide (192 ≤ c)) && (decide (c ≤ 55295))))) (by kernel_rfl) (by rw [show runeOk c = ((decide (192 ≤ c)) && (decide (c ≤ 55295))) from by first | rfl | (unfold runeOk; rw [Bool.eq_iff_iff]; simp only [Bool.or_eq_true, Bool.and_eq_true, decide_eq_true_eq, iff_true, Bool.false_eq_true, iff_false] <;> omega)])
      · try simp only [decide_eq_true_eq, decide_eq_false_iff_not] at hc3
        refine AMx.seq ?_
        refine AMx.region (ces := []) (ks := [0, 22]) (hs := []) (cs := []) (s' := AS.lst 35 [(0, vc (i3 c)), (22, vc (bo (decide (c = 46))))] []) (by kernel_rfl) ?_ ?_
        · exact trivial
        refine AMx.cond (b := decide (c = 46)) (by kernel_rfl) (fun hc5 => ?_) (fun hc5 => ?_)
        · try simp only [decide_eq_true_eq, decide_eq_false_iff_not] at hc5
          refine AMx.skip ?_
          refine AMx.cond (b := decide (c = 46)) (by kernel_rfl) (fun hc6 => ?_) (fun hc6 => ?_)
          · try simp only [decide_eq_true_eq, decide_eq_false_iff_not] at hc6
            refine AMx.seq ?_
            refine AMx.region (ces := []) (ks := [2]) (hs := []) (cs := []) (s' := AS.lst 35 [(2, vc (bo true))] []) (by kernel_rfl) ?_ ?_
            · exact trivial
            refine AMx.ret ?_
            exact RetP.mk (r := vc (bo true)) (by kernel_rfl) (by rw [show runeOk c = true from by first | rfl | (unfold runeOk; rw [Bool.eq_iff_iff]; simp only [Bool.or_eq_true, Bool.and_eq_true, decide_eq_true_eq, iff_true, Bool.false_eq_true, iff_false] <;> omega)])
          · try simp only [decide_eq_true_eq, decide_eq_false_iff_not] at hc6
            refine AMx.skip ?_
            refine AMx.blk ?_
            refine AMx.seq ?_
            refine AMx.region (ces := []) (ks := [2]) (hs := []) (cs := [((decide (192 ≤ c)) = true) → allP [], ((decide (192 ≤ c)) = true) → allP [(decide (192 ≤ c)) = true], (decide (192 ≤ c)) = true → allP [(decide (192 ≤ c)) = true]]) (s' := AS.lst 35 [(2, vc (bo ((decide (192 ≤ c)) && (decide (c ≤ 55295)))))] []) (by kernel_rfl) ?_ ?_
            · exact ⟨(fun _ => trivial), (fun hp => hp), (fun hp2 => (by first | exact hp2 | exact ⟨hp, hp2⟩))⟩
            refine AMx.ret ?_
            exact RetP.mk (r := vc (bo ((decide (192 ≤ c)) && (decide (c ≤ 55295))))) (by kernel_rfl) (by rw [show runeOk c = ((decide (192 ≤ c)) && (decide (c ≤ 55295))) from by first | rfl | (unfold runeOk; rw [Bool.eq_iff_iff]; simp only [Bool.or_eq_true, Bool.and_eq_true, decide_eq_true_eq, iff_true, Bool.false_eq_true, iff_false] <;> omega)])
        · try simp only [decide_eq_true_eq, decide_eq_false_iff_not] at hc5
          refine AMx.region (ces := []) (ks := [0, 22]) (hs := []) (cs := []) (s' := AS.lst 35 [(0, vc (i3 c)), (22, vc (bo (decide (c = 95))))] []) (by kernel_rfl) ?_ ?_
          · exact trivial
          refine AMx.cond (b := decide (c = 95)) (by kernel_rfl) (fun hc7 => ?_) (fun hc7 => ?_)
          · try simp only [decide_eq_true_eq, decide_eq_false_iff_not] at hc7
            refine AMx.seq ?_
            refine AMx.region (ces := []) (ks := [2]) (hs := []) (cs := []) (s' := AS.lst 35 [(2, vc (bo true))] []) (by kernel_rfl) ?_ ?_
            · exact trivial
            refine AMx.ret ?_
            exact RetP.mk (r := vc (bo true)) (by kernel_rfl) (by rw [show runeOk c = true from by first | rfl | (unfold runeOk; rw [Bool.eq_iff_iff]; simp only [Bool.or_eq_true, Bool.and_eq_true, decide_eq_true_eq, iff_true, Bool.false_eq_true, iff_false] <;> omega)])
          · try simp only [decide_eq_true_eq, decide_eq_false_iff_not] at hc7
            refine AMx.skip ?_
            refine AMx.blk ?_
            refine AMx.seq ?_
            refine AMx.region (ces := []) (ks := [2]) (hs := []) (cs := [((decide (192 ≤ c)) = true) → allP [], ((decide (192 ≤ c)) = true) → allP [(decide (192 ≤ c)) = true], (decide (192 ≤ c)) = true → allP [(decide (192 ≤ c)) = true]]) (s' := AS.lst 35 [(2, vc (bo ((decide (192 ≤ c)) && (decide (c ≤ 55295)))))] []) (by kernel_rfl) ?_ ?_
            · exact ⟨(fun _ => trivial), (fun hp => hp), (fun hp2 => (by first | exact hp2 | exact ⟨hp, hp2⟩))⟩
            refine AMx.ret ?_
            exact RetP.mk (r := vc (bo ((decide (192 ≤ c)) && (decide (c ≤ 55295))))) (by kernel_rfl) (by rw [show runeOk c = ((decide (192 ≤ c)) && (decide (c ≤ 55295))) from by first | rfl | (unfold runeOk; rw [Bool.eq_iff_iff]; simp only [Bool.or_eq_true, Bool.and_eq_true, decide_eq_true_eq, iff_true, Bool.false_eq_true, iff_false] <;> omega)])
  · try simp only [decide_eq_true_eq, decide_eq_false_iff_not, Bool.and_eq_true, Bool.and_eq_false_iff] at hc1
    refine AMx.seq ?_
    refine AMx.region (ces := []) (ks := [0, 3]) (hs := []) (cs := [((decide (65 ≤ c)) = true) → allP [], ((decide (65 ≤ c)) = true) → allP [(decide (65 ≤ c)) = true], (decide (65 ≤ c)) = true → allP [(decide (65 ≤ c)) = true]]) (s' := AS.lst 35 [(0, vc (i3 c)), (3, vc (bo ((decide (65 ≤ c)) && (decide (c ≤ 90)))))] []) (by kernel_rfl) ?_ ?_
    · exact ⟨(fun _ => trivial), (fun hp => hp), (fun hp2 => (by first | exact hp2 | exact ⟨hp, hp2⟩))⟩
    refine AMx.cond (b := ((decide (65 ≤ c)) && (decide (c ≤ 90)))) (by kernel_rfl) (fun hc8 => ?_) (fun hc8 => ?_)
    · try simp only [decide_eq_true_eq, decide_eq_false_iff_not, Bool.and_eq_true, Bool.and_eq_false_iff] at hc8
      refine AMx.skip ?_
      refine AMx.cond (b := ((decide (65 ≤ c)) && (decide (c ≤ 90)))) (by kernel_rfl) (fun hc9 => ?_) (fun hc9 => ?_)
      · try simp only [decide_eq_true_eq, decide_eq_false_iff_not, Bool.and_eq_true, Bool.and_eq_false_iff] at hc9
        refine AMx.seq ?_
        refine AMx.region (ces := []) (ks := [2]) (hs := []) (cs := []) (s' := AS.lst 35 [(2, vc (bo true))] []) (by kernel_rfl) ?_ ?_
        · exact trivial
        refine AMx.ret ?_
        exact RetP.mk (r := vc (bo true)) (by kernel_rfl) (by rw [show runeOk c = true from by first | rfl | (unfold runeOk; rw [Bool.eq_iff_iff]; simp only [Bool.or_eq_true, Bool.and_eq_true, decide_eq_true_eq, iff_true, Bool.false_eq_true, iff_false] <;> omega)])
      · try simp only [decide_eq_true_eq, decide_eq_false_iff_not, Bool.and_eq_true, Bool.and_eq_false_iff] at hc9
        refine AMx.seq ?_
        refine AMx.seq ?_
        refine AMx.region (ces := []) (ks := [0, 22]) (hs := []) (cs := []) (s' := AS.lst 35 [(0, vc (i3 c)), (22, vc (bo (decide (c = 45))))] []) (by kernel_rfl) ?_ ?_
        · exact trivial
        refine AMx.cond (b := decide (c = 45)) (by kernel_rfl) (fun hc10 => ?_) (fun hc10 => ?_)
        · try simp only [decide_eq_true_eq, decide_eq_false_iff_not] at hc10
          refine AMx.skip ?_
          refine AMx.cond (b := decide (c = 45)) (by kernel_rfl) (fun hc11 => ?_) (fun hc11 => ?_)
          · try simp only [decide_eq_true_eq, decide_eq_false_iff_not] at hc11
            refine AMx.seq ?_
            refine AMx.region (ces := []) (ks := [2]) (hs := []) (cs := []) (s' := AS.lst 35 [(2, vc (bo true))] []) (by kernel_rfl) ?_ ?_
            · exact trivial
            refine AMx.ret ?_
            exact RetP.mk (r := vc (bo true)) (by kernel_rfl) (by rw [show runeOk c = true from by first | rfl | (unfold runeOk; rw [Bool.eq_iff_iff]; simp only [Bool.or_eq_true, Bool.and_eq_true, decide_eq_true_eq, iff_true, Bool.false_eq_true, iff_false] <;> omega)])
          · try simp only [decide_eq_true_eq, decide_eq_false_iff_not] at hc11
            refine AMx.skip ?_
            refine AMx.blk ?_
            refine AMx.seq ?_
            refine AMx.region (ces := []) (ks := [2]) (hs := []) (cs := [((decide (192 ≤ c)) = true) → allP [], ((decide (192 ≤ c)) = true) → allP [(decide (192 ≤ c)) = true], (decide (192 ≤ c)) = true → allP [(decide (192 ≤ c)) = true]]) (s' := AS.lst 35 [(2, vc (bo ((decide (192 ≤ c)) && (decide (c ≤ 55295)))))] []) (by kernel_rfl) ?_ ?_
            · exact ⟨(fun _ => trivial), (fun hp => hp), (fun hp2 => (by first | exact hp2 | exact ⟨hp, hp2⟩))⟩
            refine AMx.ret ?_
            exact RetP.mk (r := vc (bo ((decide (192 ≤ c)) && (decide (c ≤ 55295))))) (by kernel_rfl) (by rw [show runeOk c = ((decide (192 ≤ c)) && (decide (c ≤ 55295))) from by first | rfl | (unfold runeOk; rw [Bool.eq_iff_iff]; simp only [Bool.or_eq_true, Bool.and_eq_true, decide_eq_true_eq, iff_true, Bool.false_eq_true, iff_false] <;> omega)])
        · try simp only [decide_eq_true_eq, decide_eq_false_iff_not] at hc10
          refine AMx.seq ?_
          refine AMx.region (ces := []) (ks := [0, 22]) (hs := []) (cs := []) (s' := AS.lst 35 [(0, vc (i3 c)), (22, vc (bo (decide (c = 46))))] []) (by kernel_rfl) ?_ ?_
          · exact trivial
          refine AMx.cond (b := decide (c = 46)) (by kernel_rfl) (fun hc12 => ?_) (fun hc12 => ?_)
          · try simp only [decide_eq_true_eq, decide_eq_false_iff_not] at hc12
            refine AMx.skip ?_
            refine AMx.cond (b := decide (c = 46)) (by kernel_rfl) (fun hc13 => ?_) (fun hc13 => ?_)
            · try simp only [decide_eq_true_eq, decide_eq_false_iff_not] at hc13
              refine AMx.seq ?_
              refine AMx.region (ces := []) (ks := [2]) (hs := []) (cs := []) (s' := AS.lst 35 [(2, vc (bo true))] []) (by kernel_rfl) ?_ ?_
              · exact trivial
              refine AMx.ret ?_
              exact RetP.mk (r := vc (bo true)) (by kernel_rfl) (by rw [show runeOk c = true from by first | rfl | (unfold runeOk; rw [Bool.eq_iff_iff]; simp only [Bool.or_eq_true, Bool.and_eq_true, decide_eq_true_eq, iff_true, Bool.false_eq_true, iff_false] <;> omega)])
            · try simp only [decide_eq_true_eq, decide_eq_false_iff_not] at hc13
              refine AMx.skip ?_
              refine AMx.blk ?_
              refine AMx.seq ?_
              refine AMx.region (ces := []) (ks := [2]) (hs := []) (cs := [((decide (192 ≤ c)) = true) → allP [], ((decide (192 ≤ c)) = true) → allP [(decide (192 ≤ c)) = true], (decide (192 ≤ c)) = true → allP [(decide (192 ≤ c)) = true]]) (s' := AS.lst 35 [(2, vc (bo ((decide (192 ≤ c)) && (decide (c ≤ 55295)))))] []) (by kernel_rfl) ?_ ?_
              · exact ⟨(fun _ => trivial), (fun hp => hp), (fun hp2 => (by first | exact hp2 | exact ⟨hp, hp2⟩))⟩
              refine AMx.ret ?_
              exact RetP.mk (r := vc (bo ((decide (192 ≤ c)) && (decide (c ≤ 55295))))) (by kernel_rfl) (by rw [show runeOk c = ((decide (192 ≤ c)) && (decide (c ≤ 55295))) from by first | rfl | (unfold runeOk; rw [Bool.eq_iff_iff]; simp only [Bool.or_eq_true, Bool.and_eq_true, decide_eq_true_eq, iff_true, Bool.false_eq_true, iff_false] <;> omega)])
          · try simp only [decide_eq_true_eq, decide_eq_false_iff_not] at hc12
            refine AMx.region (ces := []) (ks := [0, 22]) (hs := []) (cs := []) (s' := AS.lst 35 [(0, vc (i3 c)), (22, vc (bo (decide (c = 95))))] []) (by kernel_rfl) ?_ ?_
            · exact trivial
            refine AMx.cond (b := decide (c = 95)) (by kernel_rfl) (fun hc14 => ?_) (fun hc14 => ?_)
            · try simp only [decide_eq_true_eq, decide_eq_false_iff_not] at hc14
              refine AMx.seq ?_
              refine AMx.region (ces := []) (ks := [2]) (hs := []) (cs := []) (s' := AS.lst 35 [(2, vc (bo true))] []) (by kernel_rfl) ?_ ?_
              · exact trivial
              refine AMx.ret ?_
              exact RetP.mk (r := vc (bo true)) (by kernel_rfl) (by rw [show runeOk c = true from by first | rfl | (unfold runeOk; rw [Bool.eq_iff_iff]; simp only [Bool.or_eq_true, Bool.and_eq_true, decide_eq_true_eq, iff_true, Bool.false_eq_true, iff_false] <;> omega)])
            · try simp only [decide_eq_true_eq, decide_eq_false_iff_not] at hc14
              refine AMx.skip ?_
              refine AMx.blk ?_
              refine AMx.seq ?_
              refine AMx.region (ces := []) (ks := [2]) (hs := []) (cs := [((decide (192 ≤ c)) = true) → allP [], ((decide (192 ≤ c)) = true) → allP [(decide (192 ≤ c)) = true], (decide (192 ≤ c)) = true → allP [(decide (192 ≤ c)) = true]]) (s' := AS.lst 35 [(2, vc (bo ((decide (192 ≤ c)) && (decide (c ≤ 55295)))))] []) (by kernel_rfl) ?_ ?_
              · exact ⟨(fun _ => trivial), (fun hp => hp), (fun hp2 => (by first | exact hp2 | exact ⟨hp, hp2⟩))⟩
              refine AMx.ret ?_
              exact RetP.mk (r := vc (bo ((decide (192 ≤ c)) && (decide (c ≤ 55295))))) (by kernel_rfl) (by rw [show runeOk c = ((decide (192 ≤ c)) && (decide (c ≤ 55295))) from by first | rfl | (unfold runeOk; rw [Bool.eq_iff_iff]; simp only [Bool.or_eq_true, Bool.and_eq_true, decide_eq_true_eq, iff_true, Bool.false_eq_true, iff_false] <;> omega)])
    · try simp only [decide_eq_true_eq, decide_eq_false_iff_not, Bool.and_eq_true, Bool.and_eq_false_iff] at hc8
      refine AMx.region (ces := []) (ks := [0, 3]) (hs := []) (cs := [((decide (48 ≤ c)) = true) → allP [], ((decide (48 ≤ c)) = true) → allP [(decide (48 ≤ c)) = true], (decide (48 ≤ c)) = true → allP [(decide (48 ≤ c)) = true]]) (s' := AS.lst 35 [(0, vc (i3 c)), (3, vc (bo ((decide (48 ≤ c)) && (decide (c ≤ 57)))))] []) (by kernel_rfl) ?_ ?_
      · exact ⟨(fun _ => trivial), (fun hp => hp), (fun hp2 => (by first | exact hp2 | exact ⟨hp, hp2⟩))⟩
      refine AMx.cond (b := ((decide (48 ≤ c)) && (decide (c ≤ 57)))) (by kernel_rfl) (fun hc15 => ?_) (fun hc15 => ?_)
      · try simp only [decide_eq_true_eq, decide_eq_false_iff_not, Bool.and_eq_true, Bool.and_eq_false_iff] at hc15
        refine AMx.seq ?_
        refine AMx.region (ces := []) (ks := [2]) (hs := []) (cs := []) (s' := AS.lst 35 [(2, vc (bo true))] []) (by kernel_rfl) ?_ ?_
        · exact trivial
        refine AMx.ret ?_
        exact RetP.mk (r := vc (bo true)) (by kernel_rfl) (by rw [show runeOk c = true from by first | rfl | (unfold runeOk; rw [Bool.eq_iff_iff]; simp only [Bool.or_eq_true, Bool.and_eq_true, decide_eq_true_eq, iff_true, Bool.false_eq_true, iff_false] <;> omega)])
      · try simp only [decide_eq_true_eq, decide_eq_false_iff_not, Bool.and_eq_true, Bool.and_eq_false_iff] at hc15
        refine AMx.seq ?_
        refine AMx.seq ?_
        refine AMx.region (ces := []) (ks := [0, 22]) (hs := []) (cs := []) (s' := AS.lst 35 [(0, vc (i3 c)), (22, vc (bo (decide (c = 45))))] []) (by kernel_rfl) ?_ ?_
        · exact trivial
        refine AMx.cond (b := decide (c = 45)) (by kernel_rfl) (fun hc16 => ?_) (fun hc16 => ?_)
        · try simp only [decide_eq_true_eq, decide_eq_false_iff_not] at hc16
          refine AMx.skip ?_
          refine AMx.cond (b := decide (c = 45)) (by kernel_rfl) (fun hc17 => ?_) (fun hc17 => ?_)
          · try simp only [decide_eq_true_eq, decide_eq_false_iff_not] at hc17
            refine AMx.seq ?_
            refine AMx.region (ces := []) (ks := [2]) (hs := []) (cs := []) (s' := AS.lst 35 [(2, vc (bo true))] []) (by kernel_rfl) ?_ ?_
            · exact trivial
            refine AMx.ret ?_
            exact RetP.mk (r := vc (bo true)) (by kernel_rfl) (by rw [show runeOk c = true from by first | rfl | (unfold runeOk; rw [Bool.eq_iff_iff]; simp only [Bool.or_eq_true, Bool.and_eq_true, decide_eq_true_eq, iff_true, Bool.false_eq_true, iff_false] <;> omega)])
          · try simp only [decide_eq_true_eq, decide_eq_false_iff_not] at hc17
            refine AMx.skip ?_
            refine AMx.blk ?_
            refine AMx.seq ?_
            refine AMx.region (ces := []) (ks := [2]) (hs := []) (cs := [((decide (192 ≤ c)) = true) → allP [], ((decide (192 ≤ c)) = true) → allP [(decide (192 ≤ c)) = true], (decide (192 ≤ c)) = true → allP [(decide (192 ≤ c)) = true]]) (s' := AS.lst 35 [(2, vc (bo ((decide (192 ≤ c)) && (decide (c ≤ 55295)))))] []) (by kernel_rfl) ?_ ?_
            · exact ⟨(fun _ => trivial), (fun hp => hp), (fun hp2 => (by first | exact hp2 | exact ⟨hp, hp2⟩))⟩
            refine AMx.ret ?_
            exact RetP.mk (r := vc (bo ((decide (192 ≤ c)) && (decide (c ≤ 55295))))) (by kernel_rfl) (by rw [show runeOk c = ((decide (192 ≤ c)) && (decide (c ≤ 55295))) from by first | rfl | (unfold runeOk; rw [Bool.eq_iff_iff]; simp only [Bool.or_eq_true, Bool.and_eq_true, decide_eq_true_eq, iff_true, Bool.false_eq_true, iff_false] <;> omega)])
        · try simp only [decide_eq_true_eq, decide_eq_false_iff_not] at hc16
          refine AMx.seq ?_
          refine AMx.region (ces := []) (ks := [0, 22]) (hs := []) (cs := []) (s' := AS.lst 35 [(0, vc (i3 c)), (22, vc (bo (decide (c = 46))))] []) (by kernel_rfl) ?_ ?_
          · exact trivial
          refine AMx.cond (b := decide (c = 46)) (by kernel_rfl) (fun hc18 => ?_) (fun hc18 => ?_)
          · try simp only [decide_eq_true_eq, decide_eq_false_iff_not] at hc18
            refine AMx.skip ?_
            refine AMx.cond (b := decide (c = 46)) (by kernel_rfl) (fun hc19 => ?_) (fun hc19 => ?_)
            · try simp only [decide_eq_true_eq, decide_eq_false_iff_not] at hc19
              refine AMx.seq ?_
              refine AMx.region (ces := []) (ks := [2]) (hs := []) (cs := []) (s' := AS.lst 35 [(2, vc (bo true))] []) (by kernel_rfl) ?_ ?_
              · exact trivial
              refine AMx.ret ?_
              exact RetP.mk (r := vc (bo true)) (by kernel_rfl) (by rw [show runeOk c = true from by first | rfl | (unfold runeOk; rw [Bool.eq_iff_iff]; simp only [Bool.or_eq_true, Bool.and_eq_true, decide_eq_true_eq, iff_true, Bool.false_eq_true, iff_false] <;> omega)])
            · try simp only [decide_eq_true_eq, decide_eq_false_iff_not] at hc19
              refine AMx.skip ?_
              refine AMx.blk ?_
              refine AMx.seq ?_
              refine AMx.region (ces := []) (ks := [2]) (hs := []) (cs := [((decide (192 ≤ c)) = true) → allP [], ((decide (192 ≤ c)) = true) → allP [(decide (192 ≤ c)) = true], (decide (192 ≤ c)) = true → allP [(decide (192 ≤ c)) = true]]) (s' := AS.lst 35 [(2, vc (bo ((decide (192 ≤ c)) && (decide (c ≤ 55295)))))] []) (by kernel_rfl) ?_ ?_
              · exact ⟨(fun _ => trivial), (fun hp => hp), (fun hp2 => (by first | exact hp2 | exact ⟨hp, hp2⟩))⟩
              refine AMx.ret ?_
              exact RetP.mk (r := vc (bo ((decide (192 ≤ c)) && (decide (c ≤ 55295))))) (by kernel_rfl) (by rw [show runeOk c = ((decide (192 ≤ c)) && (decide (c ≤ 55295))) from by first | rfl | (unfold runeOk; rw [Bool.eq_iff_iff]; simp only [Bool.or_eq_true, Bool.and_eq_true, decide_eq_true_eq, iff_true, Bool.false_eq_true, iff_false] <;> omega)])
          · try simp only [decide_eq_true_eq, decide_eq_false_iff_not] at hc18
            refine AMx.region (ces := []) (ks := [0, 22]) (hs := []) (cs := []) (s' := AS.lst 35 [(0, vc (i3 c)), (22, vc (bo (decide (c = 95))))] []) (by kernel_rfl) ?_ ?_
            · exact trivial
            refine AMx.cond (b := decide (c = 95)) (by kernel_rfl) (fun hc20 => ?_) (fun hc20 => ?_)
            · try simp only [decide_eq_true_eq, decide_eq_false_iff_not] at hc20
              refine AMx.seq ?_
              refine AMx.region (ces := []) (ks := [2]) (hs := []) (cs := []) (s' := AS.lst 35 [(2, vc (bo true))] []) (by kernel_rfl) ?_ ?_
              · exact trivial
              refine AMx.ret ?_
              exact RetP.mk (r := vc (bo true)) (by kernel_rfl) (by rw [show runeOk c = true from by first | rfl | (unfold runeOk; rw [Bool.eq_iff_iff]; simp only [Bool.or_eq_true, Bool.and_eq_true, decide_eq_true_eq, iff_true, Bool.false_eq_true, iff_false] <;> omega)])
            · try simp only [decide_eq_true_eq, decide_eq_false_iff_not] at hc20
              refine AMx.skip ?_
              refine AMx.blk ?_
              refine AMx.seq ?_
              refine AMx.region (ces := []) (ks := [2]) (hs := []) (cs := [((decide (192 ≤ c)) = true) → allP [], ((decide (192 ≤ c)) = true) → allP [(decide (192 ≤ c)) = true], (decide (192 ≤ c)) = true → allP [(decide (192 ≤ c)) = true]]) (s' := AS.lst 35 [(2, vc (bo ((decide (192 ≤ c)) && (decide (c ≤ 55295)))))] []) (by kernel_rfl) ?_ ?_
              · exact ⟨(fun _ => trivial), (fun hp => hp), (fun hp2 => (by first | exact hp2 | exact ⟨hp, hp2⟩))⟩
              refine AMx.ret ?_
              exact RetP.mk (r := vc (bo ((decide (192 ≤ c)) && (decide (c ≤ 55295))))) (by kernel_rfl) (by rw [show runeOk c = ((decide (192 ≤ c)) && (decide (c ≤ 55295))) from by first | rfl | (unfold runeOk; rw [Bool.eq_iff_iff]; simp only [Bool.or_eq_true, Bool.and_eq_true, decide_eq_true_eq, iff_true, Bool.false_eq_true, iff_false] <;> omega)])

end AL.Route
