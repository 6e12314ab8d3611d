/- ask: the contracts of its functions, by their walks. No condition. -/
import Derived.Test.YtiiiecdfganahaaDoorAskL
import Derived.Test.YtiiiecdfganahaaDoorAskR2
namespace AL.Ask
open Go Go.Proofs AL
set_option linter.unusedVariables false
set_option linter.unusedSimpArgs false

theorem f3_body : Tryd.f3.body = some (.seq (.region 0 (rg Tryd.f3 0) false) (.seq (.seq (.region 1 (rg Tryd.f3 1) false) (.cond (.tmp 16) (.seq (.region 2 (rg Tryd.f3 2) false) (.ret)) (.skip))) (.seq (.region 3 (rg Tryd.f3 3) false) (.seq (.region 4 (rg Tryd.f3 4) false) (.seq (.region 5 (rg Tryd.f3 5) false) (.ret)))))) := by kernel_rfl

set_option maxRecDepth 100000 in
set_option maxHeartbeats 8000000 in
theorem AskHex_c (s t : Bytes) : Pure Tryd.prog 3 [tc (st s), tc (st t)] (vc (bo true)) := by
  refine Pure.of_body Tryd.func3 f3_body (by kernel_rfl) Tryd.ntmps3 (by kernel_rfl) (by kernel_rfl) ?_
  refine AMx.seq ?_
  refine AMx.region (ces := []) (ks := [0, 1]) (hs := []) (cs := []) (s' := AS.lst 46 [(0, vc (st s)), (1, vc (st t))] []) (by kernel_rfl) ?_ ?_
  · exact trivial
  refine AMx.seq ?_
  refine AMx.seq ?_
  refine AMx.region (ces := []) (ks := [0, 1, 16]) (hs := []) (cs := [((decide (300 < (List.length s : Int))) = false) → allP [], ((decide (300 < (List.length s : Int))) = false) → allP [(decide (300 < (List.length s : Int))) = false], ((decide (300 < (List.length s : Int))) = false) → allP [(decide (300 < (List.length s : Int))) = false], (decide (300 < (List.length s : Int))) = false → allP [(decide (300 < (List.length s : Int))) = false]]) (s' := AS.lst 46 [(0, vc (st s)), (1, vc (st t)), (16, vc (bo ((decide (300 < (List.length s : Int))) || (decide (300 < (List.length t : Int))))))] []) (by kernel_rfl) ?_ ?_
  · exact ⟨(fun _ => trivial), (fun hp => hp), (fun hp => hp), (fun hp2 => (by first | exact hp2 | exact ⟨hp, hp2⟩))⟩
  refine AMx.cond (b := ((decide (300 < (List.length s : Int))) || (decide (300 < (List.length t : Int))))) (by kernel_rfl) (fun hc1 => ?_) (fun hc1 => ?_)
  · try simp only [decide_eq_true_eq, decide_eq_false_iff_not, Bool.or_eq_true, Bool.or_eq_false_iff] at hc1
    refine AMx.seq ?_
    refine AMx.region (ces := [(0, CE.call [] [] (vc (bo true)) [])]) (ks := [4]) (hs := []) (cs := [Spec Tryd.prog 6 [] (ofH []) (vc (bo true)) (ofH [])]) (s' := AS.lst 46 [(4, vc (bo true))] []) (by kernel_rfl) ?_ ?_
    · exact (awake_c)
    refine AMx.ret ?_
    exact RetP.mk (r := vc (bo true)) (by kernel_rfl) rfl
  · try simp only [decide_eq_true_eq, decide_eq_false_iff_not, Bool.or_eq_true, Bool.or_eq_false_iff] at hc1
    refine AMx.skip ?_
    refine AMx.seq ?_
    refine AMx.region (ces := [(1, CE.call [] [] (AV.tup [tc (st ((unhexS t).1)), tc (bo ((unhexS t).2))]) [])]) (ks := [0, 1, 5, 6]) (hs := []) (cs := [Spec Tryd.prog 7 [tc (st t)] (ofH []) (AV.tup [tc (st ((unhexS t).1)), tc (bo ((unhexS t).2))]) (ofH [])]) (s' := AS.lst 46 [(0, vc (st s)), (1, vc (st t)), (5, vc (st ((unhexS t).1))), (6, vc (bo ((unhexS t).2)))] []) (by kernel_rfl) ?_ ?_
    · exact (Unhex_c t (by omega))
    refine AMx.seq ?_
    refine AMx.region (ces := [(1, CE.call [] [] (AV.tup [tc (st ((unhexS t).1)), tc (bo ((unhexS t).2))]) [])]) (ks := [0, 5, 6, 7, 8]) (hs := []) (cs := [Spec Tryd.prog 8 [tc (st t)] (ofH []) (AV.tup [tc (st ((unhexS t).1)), tc (bo ((unhexS t).2))]) (ofH [])]) (s' := AS.lst 46 [(0, vc (st s)), (5, vc (st ((unhexS t).1))), (6, vc (bo ((unhexS t).2))), (7, vc (st ((unhexS t).1))), (8, vc (bo ((unhexS t).2)))] []) (by kernel_rfl) ?_ ?_
    · exact (RUnhex_c t (by omega))
    refine AMx.seq ?_
    refine AMx.region (ces := [(1, CE.call [] [] (vc (st (hexS s))) []), (3, CE.call [] [] (vc (st (hexS s))) []), (16, CE.call [] [] (vc (bo true)) [])]) (ks := [4]) (hs := []) (cs := [Spec Tryd.prog 9 [tc (st s)] (ofH []) (vc (st (hexS s))) (ofH []), Spec Tryd.prog 10 [tc (st s)] (ofH []) (vc (st (hexS s))) (ofH []), ((decide (hexS s = hexS s)) = true) → allP [], ((decide (hexS s = hexS s)) = true) → allP [], ((decide (hexS s = hexS s)) = true) → allP [(decide (hexS s = hexS s)) = true, (decide (hexS s = hexS s)) = true], (decide (hexS s = hexS s)) = true → allP [(decide (hexS s = hexS s)) = true], (((decide (hexS s = hexS s)) && (decide ((unhexS t).1 = (unhexS t).1))) = true) → allP [], (((decide (hexS s = hexS s)) && (decide ((unhexS t).1 = (unhexS t).1))) = true) → allP [], (((decide (hexS s = hexS s)) && (decide ((unhexS t).1 = (unhexS t).1))) = true) → allP [((decide (hexS s = hexS s)) && (decide ((unhexS t).1 = (unhexS t).1))) = true, ((decide (hexS s = hexS s)) && (decide ((unhexS t).1 = (unhexS t).1))) = true], ((decide (hexS s = hexS s)) && (decide ((unhexS t).1 = (unhexS t).1))) = true → allP [((decide (hexS s = hexS s)) && (decide ((unhexS t).1 = (unhexS t).1))) = true], ((((decide (hexS s = hexS s)) && (decide ((unhexS t).1 = (unhexS t).1))) && (((unhexS t).2) == ((unhexS t).2))) = true) → allP [Spec Tryd.prog 6 [] (ofH []) (vc (bo true)) (ofH [])], (((decide (hexS s = hexS s)) && (decide ((unhexS t).1 = (unhexS t).1))) && (((unhexS t).2) == ((unhexS t).2))) = true → allP [(((decide (hexS s = hexS s)) && (decide ((unhexS t).1 = (unhexS t).1))) && (((unhexS t).2) == ((unhexS t).2))) = true]]) (s' := AS.lst 46 [(4, vc (bo ((((decide (hexS s = hexS s)) && (decide ((unhexS t).1 = (unhexS t).1))) && (((unhexS t).2) == ((unhexS t).2))) && true)))] []) (by kernel_rfl) ?_ ?_
    · exact ⟨(Hex_c s (by omega)), (RHex_c s (by omega)), (fun _ => trivial), (fun _ => trivial), (fun hp => ⟨hp, hp⟩), (fun hp2 => (by first | exact hp2 | exact ⟨hp, hp2⟩)), (fun _ => trivial), (fun _ => trivial), (fun hp => ⟨hp, hp⟩), (fun hp2 => (by first | exact hp2 | exact ⟨hp, hp2⟩)), (fun hp => by have hq := hp; (try simp only [decide_eq_true_eq, decide_eq_false_iff_not, Bool.and_eq_true, Bool.or_eq_true, Bool.and_eq_false_iff, Bool.or_eq_false_iff, Bool.not_eq_true', Bool.not_eq_false', Bool.not_eq_true, Bool.not_eq_false] at hq); exact (awake_c)), (fun hp2 => (by first | exact hp2 | exact ⟨hp, hp2⟩))⟩
    refine AMx.ret ?_
    exact RetP.mk (r := vc (bo ((((decide (hexS s = hexS s)) && (decide ((unhexS t).1 = (unhexS t).1))) && (((unhexS t).2) == ((unhexS t).2))) && true))) (by kernel_rfl) (congrArg (fun b => vc (bo b)) (show ((((decide (hexS s = hexS s)) && (decide ((unhexS t).1 = (unhexS t).1))) && (((unhexS t).2) == ((unhexS t).2))) && true) = true from by simp))

end AL.Ask
