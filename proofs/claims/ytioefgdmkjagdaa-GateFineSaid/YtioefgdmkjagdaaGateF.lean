/- gate: the contracts of its functions, by their walks. No condition. -/
import Derived.Test.YtioefgdmkjagdaaGateB
namespace AL.Gate
open Go Go.Proofs AL AL.Fnv
set_option linter.unusedVariables false
set_option linter.unusedSimpArgs false

theorem f45_body : Try.f45.body = some (.seq (.region 0 (rg Try.f45 0) false) (.seq (.region 1 (rg Try.f45 1) false) (.seq (.seq (.region 2 (rg Try.f45 2) false) (.block 0 (.loop (.seq (.seq (.region 3 (rg Try.f45 3) false) (.cond (.tmp 10) (.skip) (.exit 0))) (.seq (.block 1 (.seq (.region 5 (rg Try.f45 5) true) (.cond (.tmp 41) (.seq (.region 6 (rg Try.f45 6) false) (.ret)) (.skip)))) (.region 4 (rg Try.f45 4) false)))))) (.seq (.region 7 (rg Try.f45 7) false) (.ret))))) := by kernel_rfl

set_option maxRecDepth 100000 in
set_option maxHeartbeats 8000000 in
theorem fine_c (g : Gt) (hg : Wf g) (hb : g.1.length + g.2.length ≤ 90000) (hw : Wr g.1) (hk : Kept g) : Pure Try.prog 45 [TV.agg [.s (slO g.1), .s (slO g.2)]] (vc (bo true)) := by
  refine Pure.of_body Try.func45 f45_body (by kernel_rfl) Try.ntmps45 (by kernel_rfl) (by kernel_rfl) ?_
  refine AMx.seq ?_
  refine AMx.region (ces := []) (ks := [1]) (hs := [1]) (cs := []) (s' := AS.lst 51 [(1, vp 1 0)] [(1, AObj.row [.s (slO g.1), .s (slO g.2)])]) (by kernel_rfl) ?_ ?_
  · exact trivial
  refine AMx.seq ?_
  refine AMx.region (ces := [(1, CE.call [] [] (vc (slI (namesS g.1))) [])]) (ks := [1, 3]) (hs := [1]) (cs := [Spec Try.prog 46 [TV.agg [.s (slO g.1), .s (slO g.2)]] (ofH []) (vc (slI (namesS g.1))) (ofH [])]) (s' := AS.lst 51 [(1, vp 1 0), (3, vc (slI (namesS g.1)))] [(1, AObj.row [.s (slO g.1), .s (slO g.2)])]) (by kernel_rfl) ?_ ?_
  · exact (Holders_c g (by first | assumption | omega | (show sizeS _ ≤ _; (repeat (first | apply sz_ask | apply sz_leave)); first | exact sz_run (by omega) | exact sz_runs (by omega) | exact Nat.zero_le _ | omega | assumption)))
  refine AMx.seq ?_
  refine AMx.seq ?_
  refine AMx.region (ces := []) (ks := [1, 3, 4]) (hs := [1]) (cs := []) (s' := AS.lst 51 [(1, vp 1 0), (3, vc (slI (namesS g.1))), (4, vc (i6 0))] [(1, AObj.row [.s (slO g.1), .s (slO g.2)])]) (by kernel_rfl) ?_ ?_
  · exact trivial
  refine AMx.block ?_
  refine AMx.ent (s' := AS.lst 51 [(1, vp 1 0), (3, vc (slI (namesS g.1))), (4, vc (i6 0))] [(1, AObj.row [.s (slO g.1), .s (slO g.2)])]) (ent_proj [1, 3, 4] [1]) ?_
  refine AMx.loop (fun mm ss => ∃ (i : Nat), (i ≤ (namesS g.1).length) ∧ mm = (namesS g.1).length - i ∧ ss = AS.lst 51 [(1, vp 1 0), (3, vc (slI (namesS g.1))), (4, vc (i6 (i : Int)))] [(1, AObj.row [.s (slO g.1), .s (slO g.2)])]) ⟨0, ?_, rfl, ?_⟩ ?_
  · omega
  · rfl
  rintro mm ss ⟨i, hI, rfl, rfl⟩
  refine AMx.seq ?_
  refine AMx.seq ?_
  refine AMx.region (ces := []) (ks := [1, 3, 4, 10]) (hs := [1]) (cs := []) (s' := AS.lst 51 [(1, vp 1 0), (3, vc (slI (namesS g.1))), (4, vc (i6 (i : Int))), (10, vc (bo (decide ((i : Int) < (List.length (namesS g.1 : List Int) : Int)))))] [(1, AObj.row [.s (slO g.1), .s (slO g.2)])]) (by kernel_rfl) ?_ ?_
  · exact trivial
  refine AMx.cond (b := decide ((i : Int) < (List.length (namesS g.1 : List Int) : Int))) (by kernel_rfl) (fun hc1 => ?_) (fun hc1 => ?_)
  · try simp only [decide_eq_true_eq, decide_eq_false_iff_not] at hc1
    refine AMx.skip ?_
    refine AMx.seq ?_
    refine AMx.block ?_
    refine AMx.seq ?_
    refine AMx.region_draw (ces := [(5, CE.call [] [] (vc (u8 (modeS g.1 (List.getD (namesS g.1) i 0)))) []), (18, CE.call [] [] (vc (u8 (modeS g.1 (List.getD (namesS g.1) i 0)))) []), (27, CE.call [] [] (vc (bo (decide (0 ≤ findS g.2 (List.getD (namesS g.1) i 0))))) [])]) (ros := [(0, [1]), (13, [1]), (22, [1])]) (ks := [1, 3, 4, 41]) (hs := [1]) (cs := [(0 : Int) ≤ (i : Int), (i : Int) < List.length (namesS g.1 : List Int), Spec Try.prog 38 [TV.agg [.s (slO g.1), .s (slO g.2)], tc (i6 (List.getD (namesS g.1) i 0))] (ofH []) (vc (u8 (modeS g.1 (List.getD (namesS g.1) i 0)))) (ofH []), ((decide (modeS g.1 (List.getD (namesS g.1) i 0) = 2)) = true) → allP [], ((decide (modeS g.1 (List.getD (namesS g.1) i 0) = 2)) = true) → allP [(decide (modeS g.1 (List.getD (namesS g.1) i 0) = 2)) = true], ((decide (modeS g.1 (List.getD (namesS g.1) i 0) = 2)) = true) → allP [(decide (modeS g.1 (List.getD (namesS g.1) i 0) = 2)) = true], (decide (modeS g.1 (List.getD (namesS g.1) i 0) = 2)) = true → allP [(decide (modeS g.1 (List.getD (namesS g.1) i 0) = 2)) = true], (((decide (modeS g.1 (List.getD (namesS g.1) i 0) = 2)) && (!decide ((List.length (namesS g.1 : List Int) : Int) = 1))) = false) → allP [], (((decide (modeS g.1 (List.getD (namesS g.1) i 0) = 2)) && (!decide ((List.length (namesS g.1 : List Int) : Int) = 1))) = false) → allP [], (((decide (modeS g.1 (List.getD (namesS g.1) i 0) = 2)) && (!decide ((List.length (namesS g.1 : List Int) : Int) = 1))) = false) → allP [], (((decide (modeS g.1 (List.getD (namesS g.1) i 0) = 2)) && (!decide ((List.length (namesS g.1 : List Int) : Int) = 1))) = false) → allP [((decide (modeS g.1 (List.getD (namesS g.1) i 0) = 2)) && (!decide ((List.length (namesS g.1 : List Int) : Int) = 1))) = false, ((decide (modeS g.1 (List.getD (namesS g.1) i 0) = 2)) && (!decide ((List.length (namesS g.1 : List Int) : Int) = 1))) = false, (0 : Int) ≤ (i : Int), (i : Int) < List.length (namesS g.1 : List Int)], (((decide (modeS g.1 (List.getD (namesS g.1) i 0) = 2)) && (!decide ((List.length (namesS g.1 : List Int) : Int) = 1))) = false) → allP [((decide (modeS g.1 (List.getD (namesS g.1) i 0) = 2)) && (!decide ((List.length (namesS g.1 : List Int) : Int) = 1))) = false], (((decide (modeS g.1 (List.getD (namesS g.1) i 0) = 2)) && (!decide ((List.length (namesS g.1 : List Int) : Int) = 1))) = false) → allP [((decide (modeS g.1 (List.getD (namesS g.1) i 0) = 2)) && (!decide ((List.length (namesS g.1 : List Int) : Int) = 1))) = false, ((decide (modeS g.1 (List.getD (namesS g.1) i 0) = 2)) && (!decide ((List.length (namesS g.1 : List Int) : Int) = 1))) = false, Spec Try.prog 38 [TV.agg [.s (slO g.1), .s (slO g.2)], tc (i6 (List.getD (namesS g.1) i 0))] (ofH []) (vc (u8 (modeS g.1 (List.getD (namesS g.1) i 0)))) (ofH [])], (((decide (modeS g.1 (List.getD (namesS g.1) i 0) = 2)) && (!decide ((List.length (namesS g.1 : List Int) : Int) = 1))) = false) → allP [((decide (modeS g.1 (List.getD (namesS g.1) i 0) = 2)) && (!decide ((List.length (namesS g.1 : List Int) : Int) = 1))) = false], ((decide (modeS g.1 (List.getD (namesS g.1) i 0) = 2)) && (!decide ((List.length (namesS g.1 : List Int) : Int) = 1))) = false → allP [((decide (modeS g.1 (List.getD (namesS g.1) i 0) = 2)) && (!decide ((List.length (namesS g.1 : List Int) : Int) = 1))) = false], ((((decide (modeS g.1 (List.getD (namesS g.1) i 0) = 2)) && (!decide ((List.length (namesS g.1 : List Int) : Int) = 1))) || (decide (modeS g.1 (List.getD (namesS g.1) i 0) = 0))) = false) → allP [], ((((decide (modeS g.1 (List.getD (namesS g.1) i 0) = 2)) && (!decide ((List.length (namesS g.1 : List Int) : Int) = 1))) || (decide (modeS g.1 (List.getD (namesS g.1) i 0) = 0))) = false) → allP [], ((((decide (modeS g.1 (List.getD (namesS g.1) i 0) = 2)) && (!decide ((List.length (namesS g.1 : List Int) : Int) = 1))) || (decide (modeS g.1 (List.getD (namesS g.1) i 0) = 0))) = false) → allP [], ((((decide (modeS g.1 (List.getD (namesS g.1) i 0) = 2)) && (!decide ((List.length (namesS g.1 : List Int) : Int) = 1))) || (decide (modeS g.1 (List.getD (namesS g.1) i 0) = 0))) = false) → allP [(((decide (modeS g.1 (List.getD (namesS g.1) i 0) = 2)) && (!decide ((List.length (namesS g.1 : List Int) : Int) = 1))) || (decide (modeS g.1 (List.getD (namesS g.1) i 0) = 0))) = false, (((decide (modeS g.1 (List.getD (namesS g.1) i 0) = 2)) && (!decide ((List.length (namesS g.1 : List Int) : Int) = 1))) || (decide (modeS g.1 (List.getD (namesS g.1) i 0) = 0))) = false, (0 : Int) ≤ (i : Int), (i : Int) < List.length (namesS g.1 : List Int)], ((((decide (modeS g.1 (List.getD (namesS g.1) i 0) = 2)) && (!decide ((List.length (namesS g.1 : List Int) : Int) = 1))) || (decide (modeS g.1 (List.getD (namesS g.1) i 0) = 0))) = false) → allP [(((decide (modeS g.1 (List.getD (namesS g.1) i 0) = 2)) && (!decide ((List.length (namesS g.1 : List Int) : Int) = 1))) || (decide (modeS g.1 (List.getD (namesS g.1) i 0) = 0))) = false], ((((decide (modeS g.1 (List.getD (namesS g.1) i 0) = 2)) && (!decide ((List.length (namesS g.1 : List Int) : Int) = 1))) || (decide (modeS g.1 (List.getD (namesS g.1) i 0) = 0))) = false) → allP [(((decide (modeS g.1 (List.getD (namesS g.1) i 0) = 2)) && (!decide ((List.length (namesS g.1 : List Int) : Int) = 1))) || (decide (modeS g.1 (List.getD (namesS g.1) i 0) = 0))) = false, (((decide (modeS g.1 (List.getD (namesS g.1) i 0) = 2)) && (!decide ((List.length (namesS g.1 : List Int) : Int) = 1))) || (decide (modeS g.1 (List.getD (namesS g.1) i 0) = 0))) = false, Spec Try.prog 39 [TV.agg [.s (slO g.1), .s (slO g.2)], tc (i6 (List.getD (namesS g.1) i 0))] (ofH []) (vc (bo (decide (0 ≤ findS g.2 (List.getD (namesS g.1) i 0))))) (ofH [])], (((decide (modeS g.1 (List.getD (namesS g.1) i 0) = 2)) && (!decide ((List.length (namesS g.1 : List Int) : Int) = 1))) || (decide (modeS g.1 (List.getD (namesS g.1) i 0) = 0))) = false → allP [(((decide (modeS g.1 (List.getD (namesS g.1) i 0) = 2)) && (!decide ((List.length (namesS g.1 : List Int) : Int) = 1))) || (decide (modeS g.1 (List.getD (namesS g.1) i 0) = 0))) = false]]) (s' := AS.lst 51 [(1, vp 1 0), (3, vc (slI (namesS g.1))), (4, vc (i6 (i : Int))), (41, vc (bo ((((decide (modeS g.1 (List.getD (namesS g.1) i 0) = 2)) && (!decide ((List.length (namesS g.1 : List Int) : Int) = 1))) || (decide (modeS g.1 (List.getD (namesS g.1) i 0) = 0))) || (decide (0 ≤ findS g.2 (List.getD (namesS g.1) i 0))))))] [(1, AObj.row [.s (slO g.1), .s (slO g.2)])]) mixed (by kernel_rfl) ?_ ?_
    · exact ⟨(show (0 : Int) ≤ (i : Int) from (by first | omega | (have hn := names_len g.1; have hn2 := names_len g.2; omega))), (show (i : Int) < List.length (namesS g.1 : List Int) from (by first | omega | (have hn := names_len g.1; have hn2 := names_len g.2; omega))), (Holds_c g (List.getD (namesS g.1) i 0)), (fun _ => trivial), (fun hp => hp), (fun hp => hp), (fun hp2 => (by first | exact hp2 | exact ⟨hp, hp2⟩)), (fun _ => trivial), (fun _ => trivial), (fun _ => trivial), (fun hp => by have hq := hp; (try simp only [decide_eq_true_eq, decide_eq_false_iff_not, Bool.and_eq_true, Bool.or_eq_true, Bool.and_eq_false_iff, Bool.or_eq_false_iff, Bool.not_eq_true', Bool.not_eq_false', Bool.not_eq_true, Bool.not_eq_false] at hq); exact ⟨hp, hp, (show (0 : Int) ≤ (i : Int) from (by first | omega | (have hn := names_len g.1; have hn2 := names_len g.2; omega))), (show (i : Int) < List.length (namesS g.1 : List Int) from (by first | omega | (have hn := names_len g.1; have hn2 := names_len g.2; omega)))⟩), (fun hp => hp), (fun hp => by have hq := hp; (try simp only [decide_eq_true_eq, decide_eq_false_iff_not, Bool.and_eq_true, Bool.or_eq_true, Bool.and_eq_false_iff, Bool.or_eq_false_iff, Bool.not_eq_true', Bool.not_eq_false', Bool.not_eq_true, Bool.not_eq_false] at hq); exact ⟨hp, hp, (Holds_c g (List.getD (namesS g.1) i 0))⟩), (fun hp => hp), (fun hp2 => (by first | exact hp2 | exact ⟨hp, hp2⟩)), (fun _ => trivial), (fun _ => trivial), (fun _ => trivial), (fun hp => by have hq := hp; (try simp only [decide_eq_true_eq, decide_eq_false_iff_not, Bool.and_eq_true, Bool.or_eq_true, Bool.and_eq_false_iff, Bool.or_eq_false_iff, Bool.not_eq_true', Bool.not_eq_false', Bool.not_eq_true, Bool.not_eq_false] at hq); exact ⟨hp, hp, (show (0 : Int) ≤ (i : Int) from (by first | omega | (have hn := names_len g.1; have hn2 := names_len g.2; omega))), (show (i : Int) < List.length (namesS g.1 : List Int) from (by first | omega | (have hn := names_len g.1; have hn2 := names_len g.2; omega)))⟩), (fun hp => hp), (fun hp => by have hq := hp; (try simp only [decide_eq_true_eq, decide_eq_false_iff_not, Bool.and_eq_true, Bool.or_eq_true, Bool.and_eq_false_iff, Bool.or_eq_false_iff, Bool.not_eq_true', Bool.not_eq_false', Bool.not_eq_true, Bool.not_eq_false] at hq); exact ⟨hp, hp, (Waits_c g (List.getD (namesS g.1) i 0))⟩), (fun hp2 => (by first | exact hp2 | exact ⟨hp, hp2⟩))⟩
    refine AMx.cond (b := ((((decide (modeS g.1 (List.getD (namesS g.1) i 0) = 2)) && (!decide ((List.length (namesS g.1 : List Int) : Int) = 1))) || (decide (modeS g.1 (List.getD (namesS g.1) i 0) = 0))) || (decide (0 ≤ findS g.2 (List.getD (namesS g.1) i 0))))) (by kernel_rfl) (fun hc2 => ?_) (fun hc2 => ?_)
    · try simp only [decide_eq_true_eq, decide_eq_false_iff_not, Bool.and_eq_true, Bool.and_eq_false_iff, Bool.or_eq_true, Bool.or_eq_false_iff, Bool.not_eq_true', Bool.not_eq_false'] at hc2
      refine AMx.seq ?_
      refine AMx.region (ces := []) (ks := [2]) (hs := []) (cs := []) (s' := AS.lst 51 [(2, vc (bo false))] []) (by kernel_rfl) ?_ ?_
      · exact trivial
      refine AMx.ret ?_
      exact RetP.mk (r := vc (bo false)) (by kernel_rfl) (by exfalso; have hm := Lib.getD_mem (0, 0) g.1 i (by rw [names_len] at *; omega); have he : List.getD (namesS g.1) i 0 = (List.getD g.1 i (0, 0)).1 := names_get g.1 i; rw [he] at hc2; have h1 := mode_eq hg.nd1 hm; rw [h1, names_len] at hc2; have h2 := hw _ hm; have h3 := (hg.ok _ (List.mem_append_left _ hm)).2; have h4 := find_neg.2 (fun h => hg.dis (names_mem hm) h); rcases hc2 with (q | q) | q <;> omega)
    · try simp only [decide_eq_true_eq, decide_eq_false_iff_not, Bool.and_eq_true, Bool.and_eq_false_iff, Bool.or_eq_true, Bool.or_eq_false_iff, Bool.not_eq_true', Bool.not_eq_false'] at hc2
      refine AMx.skip ?_
      refine AMx.blk ?_
      refine AMx.region (ces := []) (ks := [1, 3, 4]) (hs := [1]) (cs := [InR .i64 ((i : Int) + 1)]) (s' := AS.lst 51 [(1, vp 1 0), (3, vc (slI (namesS g.1))), (4, vc (i6 ((i : Int) + 1)))] [(1, AObj.row [.s (slO g.1), .s (slO g.2)])]) (by kernel_rfl) ?_ ?_
      · exact (show InR .i64 ((i : Int) + 1) from (inR64 (by first | omega | (have hn := names_len g.1; have hn2 := names_len g.2; omega)) (by first | omega | (have hn := names_len g.1; have hn2 := names_len g.2; omega))))
      refine AMx.ent_inv (s' := AS.lst 51 [(1, vp 1 0), (3, vc (slI (namesS g.1))), (4, vc (i6 ((i : Int) + 1)))] [(1, AObj.row [.s (slO g.1), .s (slO g.2)])]) (ent_proj [1, 3, 4] [1]) ?_
      refine AMx.inv ⟨_, ?_, i + 1, ?_, rfl, ?_⟩
      rotate_left
      · omega
      · rfl
      · omega
  · try simp only [decide_eq_true_eq, decide_eq_false_iff_not] at hc1
    refine AMx.exit ?_
    refine AMx.code_exit ?_
    refine AMx.inv_exit ?_
    refine AMx.blk_exit ?_
    refine AMx.seq ?_
    refine AMx.region (ces := [(1, CE.call [] [] (vc (slI (namesS g.2))) [])]) (ks := [2]) (hs := []) (cs := [Spec Try.prog 48 [TV.agg [.s (slO g.1), .s (slO g.2)]] (ofH []) (vc (slI (namesS g.2))) (ofH []), ((decide ((List.length (namesS g.2 : List Int) : Int) = 0)) = false) → allP [], ((decide ((List.length (namesS g.2 : List Int) : Int) = 0)) = false) → allP [(decide ((List.length (namesS g.2 : List Int) : Int) = 0)) = false], ((decide ((List.length (namesS g.2 : List Int) : Int) = 0)) = false) → allP [(decide ((List.length (namesS g.2 : List Int) : Int) = 0)) = false], (decide ((List.length (namesS g.2 : List Int) : Int) = 0)) = false → allP [(decide ((List.length (namesS g.2 : List Int) : Int) = 0)) = false]]) (s' := AS.lst 51 [(2, vc (bo ((decide ((List.length (namesS g.2 : List Int) : Int) = 0)) || (decide (0 < (List.length (namesS g.1 : List Int) : Int))))))] []) (by kernel_rfl) ?_ ?_
    · exact ⟨(Row_c g (by first | assumption | omega | (show sizeS _ ≤ _; (repeat (first | apply sz_ask | apply sz_leave)); first | exact sz_run (by omega) | exact sz_runs (by omega) | exact Nat.zero_le _ | omega | assumption))), (fun _ => trivial), (fun hp => hp), (fun hp => hp), (fun hp2 => (by first | exact hp2 | exact ⟨hp, hp2⟩))⟩
    refine AMx.ret ?_
    exact RetP.mk (r := vc (bo ((decide ((List.length (namesS g.2 : List Int) : Int) = 0)) || (decide (0 < (List.length (namesS g.1 : List Int) : Int)))))) (by kernel_rfl) (congrArg (fun b => vc (bo b)) (show ((decide ((List.length (namesS g.2 : List Int) : Int) = 0)) || (decide (0 < (List.length (namesS g.1 : List Int) : Int)))) = true from fine_end hk))

theorem f9_body : Try.f9.body = some (.seq (.region 0 (rg Try.f9 0) false) (.seq (.seq (.region 1 (rg Try.f9 1) false) (.cond (.tmp 11) (.seq (.region 2 (rg Try.f9 2) false) (.ret)) (.skip))) (.seq (.region 3 (rg Try.f9 3) false) (.seq (.seq (.region 4 (rg Try.f9 4) false) (.block 0 (.loop (.seq (.seq (.region 5 (rg Try.f9 5) false) (.cond (.tmp 16) (.skip) (.exit 0))) (.seq (.block 1 (.seq (.seq (.region 7 (rg Try.f9 7) false) (.cond (.tmp 23) (.region 8 (rg Try.f9 8) true) (.region 9 (rg Try.f9 9) true))) (.seq (.region 10 (rg Try.f9 10) false) (.cond (.tmp 53) (.seq (.region 11 (rg Try.f9 11) false) (.ret)) (.skip))))) (.region 6 (rg Try.f9 6) false)))))) (.seq (.seq (.region 12 (rg Try.f9 12) false) (.block 2 (.loop (.seq (.seq (.region 13 (rg Try.f9 13) false) (.cond (.tmp 61) (.skip) (.exit 2))) (.seq (.block 3 (.seq (.region 15 (rg Try.f9 15) true) (.seq (.seq (.region 16 (rg Try.f9 16) false) (.cond (.tmp 80) (.seq (.region 17 (rg Try.f9 17) false) (.ret)) (.skip))) (.region 18 (rg Try.f9 18) false)))) (.region 14 (rg Try.f9 14) false)))))) (.seq (.region 19 (rg Try.f9 19) false) (.ret))))))) := by kernel_rfl

set_option maxRecDepth 100000 in
set_option maxHeartbeats 8000000 in
theorem GateFine_c (l : List OpS) : Pure Try.prog 9 [tc (slP l)] (vc (bo true)) := by
  refine Pure.of_body Try.func9 f9_body (by kernel_rfl) Try.ntmps9 (by kernel_rfl) (by kernel_rfl) ?_
  refine AMx.seq ?_
  refine AMx.region (ces := []) (ks := [0]) (hs := []) (cs := []) (s' := AS.lst 87 [(0, vc (slP l))] []) (by kernel_rfl) ?_ ?_
  · exact trivial
  refine AMx.seq ?_
  refine AMx.seq ?_
  refine AMx.region (ces := []) (ks := [0, 11]) (hs := []) (cs := []) (s' := AS.lst 87 [(0, vc (slP l)), (11, vc (bo (decide (60 < (List.length l : Int)))))] []) (by kernel_rfl) ?_ ?_
  · exact trivial
  refine AMx.cond (b := decide (60 < (List.length l : Int))) (by kernel_rfl) (fun hc1 => ?_) (fun hc1 => ?_)
  · try simp only [decide_eq_true_eq, decide_eq_false_iff_not] at hc1
    refine AMx.seq ?_
    refine AMx.region (ces := [(0, CE.call [] [] (vc (bo true)) [])]) (ks := [2]) (hs := []) (cs := [Spec Try.prog 35 [] (ofH []) (vc (bo true)) (ofH [])]) (s' := AS.lst 87 [(2, vc (bo true))] []) (by kernel_rfl) ?_ ?_
    · exact (awake_c)
    refine AMx.ret ?_
    exact RetP.mk (r := vc (bo true)) (by kernel_rfl) rfl
  · try simp only [decide_eq_true_eq, decide_eq_false_iff_not] at hc1
    refine AMx.skip ?_
    refine AMx.seq ?_
    refine AMx.region (ces := []) (ks := [0, 3]) (hs := [3]) (cs := []) (s' := AS.lst 87 [(0, vc (slP l)), (3, vp 3 0)] [(3, AObj.row [.s (SC.nilsl), .s (SC.nilsl)])]) (by kernel_rfl) ?_ ?_
    · exact trivial
    refine AMx.seq ?_
    refine AMx.seq ?_
    refine AMx.region (ces := []) (ks := [0, 3, 4]) (hs := [3]) (cs := []) (s' := AS.lst 87 [(0, vc (slP l)), (3, vp 3 0), (4, vc (i6 0))] [(3, AObj.row [.s (SC.nilsl), .s (SC.nilsl)])]) (by kernel_rfl) ?_ ?_
    · exact trivial
    refine AMx.block ?_
    refine AMx.ent (ent_row 3 (l := [.s (SC.nilsl), .s (SC.nilsl)]) (m := [.s (slO []), .s (slO [])]) (by kernel_rfl) ⟨AC.le_nil, AC.le_nil, trivial⟩) ?_
    refine AMx.ent (s' := AS.lst 87 [(0, vc (slP l)), (3, vp 3 0), (4, vc (i6 0))] [(3, AObj.row [.s (slO []), .s (slO [])])]) (ent_proj [0, 3, 4] [3]) ?_
    refine AMx.loop (fun mm ss => ∃ (i : Nat), (i ≤ l.length) ∧ mm = l.length - i ∧ ss = AS.lst 87 [(0, vc (slP l)), (3, vp 3 0), (4, vc (i6 (i : Int)))] [(3, AObj.row [.s (slO ((runS (List.take i l)).1)), .s (slO ((runS (List.take i l)).2))])]) ⟨0, ?_, rfl, ?_⟩ ?_
    · omega
    · rfl
    rintro mm ss ⟨i, hI, rfl, rfl⟩
    refine AMx.seq ?_
    refine AMx.seq ?_
    refine AMx.region (ces := []) (ks := [0, 3, 4, 16]) (hs := [3]) (cs := []) (s' := AS.lst 87 [(0, vc (slP l)), (3, vp 3 0), (4, vc (i6 (i : Int))), (16, vc (bo (decide ((i : Int) < (List.length l : Int)))))] [(3, AObj.row [.s (slO ((runS (List.take i l)).1)), .s (slO ((runS (List.take i l)).2))])]) (by kernel_rfl) ?_ ?_
    · exact trivial
    refine AMx.cond (b := decide ((i : Int) < (List.length l : Int))) (by kernel_rfl) (fun hc2 => ?_) (fun hc2 => ?_)
    · try simp only [decide_eq_true_eq, decide_eq_false_iff_not] at hc2
      refine AMx.skip ?_
      refine AMx.seq ?_
      refine AMx.block ?_
      refine AMx.seq ?_
      refine AMx.seq ?_
      refine AMx.region (ces := []) (ks := [0, 3, 4, 23]) (hs := [3]) (cs := [(0 : Int) ≤ (i : Int), (i : Int) < List.length l]) (s' := AS.lst 87 [(0, vc (slP l)), (3, vp 3 0), (4, vc (i6 (i : Int))), (23, vc (bo ((List.getD l i opd).leave)))] [(3, AObj.row [.s (slO ((runS (List.take i l)).1)), .s (slO ((runS (List.take i l)).2))])]) (by kernel_rfl) ?_ ?_
      · exact ⟨(show (0 : Int) ≤ (i : Int) from (by omega)), (show (i : Int) < List.length l from (by omega))⟩
      refine AMx.cond (b := (List.getD l i opd).leave) (by kernel_rfl) (fun hc3 => ?_) (fun hc3 => ?_)
      · try simp only [decide_eq_true_eq, decide_eq_false_iff_not] at hc3
        refine AMx.region_draw (ces := [(6, CE.call [] [] (AV.tup [TV.agg [.s (slO (((leaveS (runS (List.take i l)) ((List.getD l i opd).who)).1).1)), .s (slO (((leaveS (runS (List.take i l)) ((List.getD l i opd).who)).1).2))], tc (slI ((leaveS (runS (List.take i l)) ((List.getD l i opd).who)).2.1)), tc (i6 ((leaveS (runS (List.take i l)) ((List.getD l i opd).who)).2.2))]) [])]) (ros := [(0, [3]), (11, [3])]) (ks := [0, 3, 4]) (hs := [3]) (cs := [(0 : Int) ≤ (i : Int), (i : Int) < List.length l, Spec Try.prog 41 [TV.agg [.s (slO ((runS (List.take i l)).1)), .s (slO ((runS (List.take i l)).2))], tc (i6 ((List.getD l i opd).who))] (ofH []) (AV.tup [TV.agg [.s (slO (((leaveS (runS (List.take i l)) ((List.getD l i opd).who)).1).1)), .s (slO (((leaveS (runS (List.take i l)) ((List.getD l i opd).who)).1).2))], tc (slI ((leaveS (runS (List.take i l)) ((List.getD l i opd).who)).2.1)), tc (i6 ((leaveS (runS (List.take i l)) ((List.getD l i opd).who)).2.2))]) (ofH [])]) (s' := AS.lst 87 [(0, vc (slP l)), (3, vp 3 0), (4, vc (i6 (i : Int)))] [(3, AObj.row [.s (slO (((leaveS (runS (List.take i l)) ((List.getD l i opd).who)).1).1)), .s (slO (((leaveS (runS (List.take i l)) ((List.getD l i opd).who)).1).2))])]) mixed (by kernel_rfl) ?_ ?_
        · exact ⟨(show (0 : Int) ≤ (i : Int) from (by omega)), (show (i : Int) < List.length l from (by omega)), (Leave_c (runS (List.take i l)) ((List.getD l i opd).who) (by (repeat (first | apply ask_wf | apply leave_wf)); first | exact wf_nil | exact run_wf _ | assumption) (by first | assumption | omega | (show sizeS _ ≤ _; (repeat (first | apply sz_ask | apply sz_leave)); first | exact sz_run (by omega) | exact sz_runs (by omega) | exact Nat.zero_le _ | omega | assumption)))⟩
        refine AMx.seq ?_
        refine AMx.region (ces := [(1, CE.call [] [] (vc (bo true)) [])]) (ks := [0, 3, 4, 53]) (hs := [3]) (cs := [Spec Try.prog 45 [TV.agg [.s (slO (((leaveS (runS (List.take i l)) ((List.getD l i opd).who)).1).1)), .s (slO (((leaveS (runS (List.take i l)) ((List.getD l i opd).who)).1).2))]] (ofH []) (vc (bo true)) (ofH [])]) (s' := AS.lst 87 [(0, vc (slP l)), (3, vp 3 0), (4, vc (i6 (i : Int))), (53, vc (bo false))] [(3, AObj.row [.s (slO (((leaveS (runS (List.take i l)) ((List.getD l i opd).who)).1).1)), .s (slO (((leaveS (runS (List.take i l)) ((List.getD l i opd).who)).1).2))])]) (by kernel_rfl) ?_ ?_
        · exact (fine_c ((leaveS (runS (List.take i l)) ((List.getD l i opd).who)).1) (by (repeat (first | apply ask_wf | apply leave_wf)); first | exact wf_nil | exact run_wf _ | assumption) (by first | assumption | omega | (show sizeS _ ≤ _; (repeat (first | apply sz_ask | apply sz_leave)); first | exact sz_run (by omega) | exact sz_runs (by omega) | exact Nat.zero_le _ | omega | assumption)) (by (repeat (first | apply ask_wr | apply leave_wr)); first | exact run_wr _ | assumption) (by (repeat (first | apply ask_kept | apply leave_kept)); first | exact run_kept _ | assumption))
        refine AMx.cond (b := false) (by kernel_rfl) (fun hc4 => ?_) (fun hc4 => ?_)
        · skip
          cases hc4
        · skip
          refine AMx.skip ?_
          refine AMx.blk ?_
          refine AMx.region (ces := []) (ks := [0, 3, 4]) (hs := [3]) (cs := [InR .i64 ((i : Int) + 1)]) (s' := AS.lst 87 [(0, vc (slP l)), (3, vp 3 0), (4, vc (i6 ((i : Int) + 1)))] [(3, AObj.row [.s (slO (((leaveS (runS (List.take i l)) ((List.getD l i opd).who)).1).1)), .s (slO (((leaveS (runS (List.take i l)) ((List.getD l i opd).who)).1).2))])]) (by kernel_rfl) ?_ ?_
          · exact (show InR .i64 ((i : Int) + 1) from (inR64 (by omega) (by omega)))
          refine AMx.ent_inv (s' := AS.lst 87 [(0, vc (slP l)), (3, vp 3 0), (4, vc (i6 ((i : Int) + 1)))] [(3, AObj.row [.s (slO (((leaveS (runS (List.take i l)) ((List.getD l i opd).who)).1).1)), .s (slO (((leaveS (runS (List.take i l)) ((List.getD l i opd).who)).1).2))])]) (ent_proj [0, 3, 4] [3]) ?_
          refine AMx.inv ⟨_, ?_, i + 1, ?_, rfl, ?_⟩
          rotate_left
          · omega
          · rw [← run_step l i (by omega)]; unfold stepS; first | (rw [if_pos hc3]; rfl) | (rw [if_neg (by rw [hc3]; decide)]; rfl)
          · omega
      · try simp only [decide_eq_true_eq, decide_eq_false_iff_not] at hc3
        refine AMx.region_draw (ces := [(11, CE.call [] [] (AV.tup [TV.agg [.s (slO (((askS (runS (List.take i l)) ((List.getD l i opd).who) ((List.getD l i opd).mode)).1).1)), .s (slO (((askS (runS (List.take i l)) ((List.getD l i opd).who) ((List.getD l i opd).mode)).1).2))], tc (bo ((askS (runS (List.take i l)) ((List.getD l i opd).who) ((List.getD l i opd).mode)).2.1)), tc (i6 ((askS (runS (List.take i l)) ((List.getD l i opd).who) ((List.getD l i opd).mode)).2.2))]) [])]) (ros := [(0, [3]), (16, [3])]) (ks := [0, 3, 4]) (hs := [3]) (cs := [(0 : Int) ≤ (i : Int), (i : Int) < List.length l, (0 : Int) ≤ (i : Int), (i : Int) < List.length l, Spec Try.prog 40 [TV.agg [.s (slO ((runS (List.take i l)).1)), .s (slO ((runS (List.take i l)).2))], tc (i6 ((List.getD l i opd).who)), tc (u8 ((List.getD l i opd).mode))] (ofH []) (AV.tup [TV.agg [.s (slO (((askS (runS (List.take i l)) ((List.getD l i opd).who) ((List.getD l i opd).mode)).1).1)), .s (slO (((askS (runS (List.take i l)) ((List.getD l i opd).who) ((List.getD l i opd).mode)).1).2))], tc (bo ((askS (runS (List.take i l)) ((List.getD l i opd).who) ((List.getD l i opd).mode)).2.1)), tc (i6 ((askS (runS (List.take i l)) ((List.getD l i opd).who) ((List.getD l i opd).mode)).2.2))]) (ofH [])]) (s' := AS.lst 87 [(0, vc (slP l)), (3, vp 3 0), (4, vc (i6 (i : Int)))] [(3, AObj.row [.s (slO (((askS (runS (List.take i l)) ((List.getD l i opd).who) ((List.getD l i opd).mode)).1).1)), .s (slO (((askS (runS (List.take i l)) ((List.getD l i opd).who) ((List.getD l i opd).mode)).1).2))])]) mixed (by kernel_rfl) ?_ ?_
        · exact ⟨(show (0 : Int) ≤ (i : Int) from (by omega)), (show (i : Int) < List.length l from (by omega)), (show (0 : Int) ≤ (i : Int) from (by omega)), (show (i : Int) < List.length l from (by omega)), (Ask_c (runS (List.take i l)) ((List.getD l i opd).who) ((List.getD l i opd).mode) (by (repeat (first | apply ask_wf | apply leave_wf)); first | exact wf_nil | exact run_wf _ | assumption) (by first | assumption | omega | (show sizeS _ ≤ _; (repeat (first | apply sz_ask | apply sz_leave)); first | exact sz_run (by omega) | exact sz_runs (by omega) | exact Nat.zero_le _ | omega | assumption)))⟩
        refine AMx.seq ?_
        refine AMx.region (ces := [(1, CE.call [] [] (vc (bo true)) [])]) (ks := [0, 3, 4, 53]) (hs := [3]) (cs := [Spec Try.prog 45 [TV.agg [.s (slO (((askS (runS (List.take i l)) ((List.getD l i opd).who) ((List.getD l i opd).mode)).1).1)), .s (slO (((askS (runS (List.take i l)) ((List.getD l i opd).who) ((List.getD l i opd).mode)).1).2))]] (ofH []) (vc (bo true)) (ofH [])]) (s' := AS.lst 87 [(0, vc (slP l)), (3, vp 3 0), (4, vc (i6 (i : Int))), (53, vc (bo false))] [(3, AObj.row [.s (slO (((askS (runS (List.take i l)) ((List.getD l i opd).who) ((List.getD l i opd).mode)).1).1)), .s (slO (((askS (runS (List.take i l)) ((List.getD l i opd).who) ((List.getD l i opd).mode)).1).2))])]) (by kernel_rfl) ?_ ?_
        · exact (fine_c ((askS (runS (List.take i l)) ((List.getD l i opd).who) ((List.getD l i opd).mode)).1) (by (repeat (first | apply ask_wf | apply leave_wf)); first | exact wf_nil | exact run_wf _ | assumption) (by first | assumption | omega | (show sizeS _ ≤ _; (repeat (first | apply sz_ask | apply sz_leave)); first | exact sz_run (by omega) | exact sz_runs (by omega) | exact Nat.zero_le _ | omega | assumption)) (by (repeat (first | apply ask_wr | apply leave_wr)); first | exact run_wr _ | assumption) (by (repeat (first | apply ask_kept | apply leave_kept)); first | exact run_kept _ | assumption))
        refine AMx.cond (b := false) (by kernel_rfl) (fun hc5 => ?_) (fun hc5 => ?_)
        · skip
          cases hc5
        · skip
          refine AMx.skip ?_
          refine AMx.blk ?_
          refine AMx.region (ces := []) (ks := [0, 3, 4]) (hs := [3]) (cs := [InR .i64 ((i : Int) + 1)]) (s' := AS.lst 87 [(0, vc (slP l)), (3, vp 3 0), (4, vc (i6 ((i : Int) + 1)))] [(3, AObj.row [.s (slO (((askS (runS (List.take i l)) ((List.getD l i opd).who) ((List.getD l i opd).mode)).1).1)), .s (slO (((askS (runS (List.take i l)) ((List.getD l i opd).who) ((List.getD l i opd).mode)).1).2))])]) (by kernel_rfl) ?_ ?_
          · exact (show InR .i64 ((i : Int) + 1) from (inR64 (by omega) (by omega)))
          refine AMx.ent_inv (s' := AS.lst 87 [(0, vc (slP l)), (3, vp 3 0), (4, vc (i6 ((i : Int) + 1)))] [(3, AObj.row [.s (slO (((askS (runS (List.take i l)) ((List.getD l i opd).who) ((List.getD l i opd).mode)).1).1)), .s (slO (((askS (runS (List.take i l)) ((List.getD l i opd).who) ((List.getD l i opd).mode)).1).2))])]) (ent_proj [0, 3, 4] [3]) ?_
          refine AMx.inv ⟨_, ?_, i + 1, ?_, rfl, ?_⟩
          rotate_left
          · omega
          · rw [← run_step l i (by omega)]; unfold stepS; first | (rw [if_pos hc3]; rfl) | (rw [if_neg (by rw [hc3]; decide)]; rfl)
          · omega
    · try simp only [decide_eq_true_eq, decide_eq_false_iff_not] at hc2
      refine AMx.exit ?_
      refine AMx.code_exit ?_
      refine AMx.inv_exit ?_
      refine AMx.blk_exit ?_
      refine AMx.seq ?_
      refine AMx.seq ?_
      refine AMx.region (ces := []) (ks := [3, 5]) (hs := [3]) (cs := []) (s' := AS.lst 87 [(3, vp 3 0), (5, vc (i6 0))] [(3, AObj.row [.s (slO ((runS (List.take i l)).1)), .s (slO ((runS (List.take i l)).2))])]) (by kernel_rfl) ?_ ?_
      · exact trivial
      refine AMx.block ?_
      refine AMx.ent (s' := AS.lst 87 [(3, vp 3 0), (5, vc (i6 0))] [(3, AObj.row [.s (slO ((runS (List.take i l)).1)), .s (slO ((runS (List.take i l)).2))])]) (ent_proj [3, 5] [3]) ?_
      refine AMx.loop (fun mm ss => ∃ (n : Nat) (g2 : Gt), (Wf g2 ∧ Wr g2.1 ∧ Kept g2 ∧ sizeS g2 + n ≤ 60) ∧ mm = sizeS g2 ∧ ss = AS.lst 87 [(3, vp 3 0), (5, vc (i6 (n : Int)))] [(3, AObj.row [.s (slO g2.1), .s (slO g2.2)])]) ⟨0, runS l, ?_, rfl, ?_⟩ ?_
      · exact ⟨run_wf l, run_wr l, run_kept l, by have := run_size l; omega⟩
      · rw [List.take_of_length_le (by omega)]; rfl
      rintro mm ss ⟨n, g2, ⟨hw, hr, hk, hz⟩, rfl, rfl⟩
      have hz2 : g2.1.length + g2.2.length = sizeS g2 := rfl
      refine AMx.seq ?_
      refine AMx.seq ?_
      refine AMx.region (ces := [(4, CE.call [] [] (vc (slI (namesS g2.1))) [])]) (ks := [3, 5, 61]) (hs := [3]) (cs := [((decide ((n : Int) < 200)) = true) → allP [], ((decide ((n : Int) < 200)) = true) → allP [(decide ((n : Int) < 200)) = true, Spec Try.prog 46 [TV.agg [.s (slO g2.1), .s (slO g2.2)]] (ofH []) (vc (slI (namesS g2.1))) (ofH [])], ((decide ((n : Int) < 200)) = true) → allP [(decide ((n : Int) < 200)) = true], ((decide ((n : Int) < 200)) = true) → allP [(decide ((n : Int) < 200)) = true], (decide ((n : Int) < 200)) = true → allP [(decide ((n : Int) < 200)) = true]]) (s' := AS.lst 87 [(3, vp 3 0), (5, vc (i6 (n : Int))), (61, vc (bo ((decide ((n : Int) < 200)) && (decide (0 < (List.length (namesS g2.1 : List Int) : Int))))))] [(3, AObj.row [.s (slO g2.1), .s (slO g2.2)])]) (by kernel_rfl) ?_ ?_
      · exact ⟨(fun _ => trivial), (fun hp => by have hq := hp; (try simp only [decide_eq_true_eq, decide_eq_false_iff_not, Bool.and_eq_true, Bool.or_eq_true, Bool.and_eq_false_iff, Bool.or_eq_false_iff, Bool.not_eq_true', Bool.not_eq_false', Bool.not_eq_true, Bool.not_eq_false] at hq); exact ⟨hp, (Holders_c g2 (by first | assumption | omega | (show sizeS _ ≤ _; (repeat (first | apply sz_ask | apply sz_leave)); first | exact sz_run (by omega) | exact sz_runs (by omega) | exact Nat.zero_le _ | omega | assumption)))⟩), (fun hp => hp), (fun hp => hp), (fun hp2 => (by first | exact hp2 | exact ⟨hp, hp2⟩))⟩
      refine AMx.cond (b := ((decide ((n : Int) < 200)) && (decide (0 < (List.length (namesS g2.1 : List Int) : Int))))) (by kernel_rfl) (fun hc6 => ?_) (fun hc6 => ?_)
      · try simp only [decide_eq_true_eq, decide_eq_false_iff_not, Bool.and_eq_true, Bool.and_eq_false_iff] at hc6
        refine AMx.skip ?_
        refine AMx.seq ?_
        refine AMx.block ?_
        refine AMx.seq ?_
        refine AMx.region_draw (ces := [(2, CE.call [] [] (vc (slI (namesS g2.1))) []), (5, CE.call [] [] (AV.tup [TV.agg [.s (slO (((leaveS g2 (List.getD (namesS g2.1) 0 0)).1).1)), .s (slO (((leaveS g2 (List.getD (namesS g2.1) 0 0)).1).2))], tc (slI ((leaveS g2 (List.getD (namesS g2.1) 0 0)).2.1)), tc (i6 ((leaveS g2 (List.getD (namesS g2.1) 0 0)).2.2))]) [])]) (ros := [(0, [3]), (1, [3]), (11, [6])]) (ks := [3, 5, 6, 8]) (hs := [3, 6]) (cs := [Spec Try.prog 46 [TV.agg [.s (slO g2.1), .s (slO g2.2)]] (ofH []) (vc (slI (namesS g2.1))) (ofH []), (0 : Int) ≤ 0, (0 : Int) < List.length (namesS g2.1 : List Int), Spec Try.prog 41 [TV.agg [.s (slO g2.1), .s (slO g2.2)], tc (i6 (List.getD (namesS g2.1) 0 0))] (ofH []) (AV.tup [TV.agg [.s (slO (((leaveS g2 (List.getD (namesS g2.1) 0 0)).1).1)), .s (slO (((leaveS g2 (List.getD (namesS g2.1) 0 0)).1).2))], tc (slI ((leaveS g2 (List.getD (namesS g2.1) 0 0)).2.1)), tc (i6 ((leaveS g2 (List.getD (namesS g2.1) 0 0)).2.2))]) (ofH [])]) (s' := AS.lst 87 [(3, vp 3 0), (5, vc (i6 (n : Int))), (6, vp 6 0), (8, vc (i6 ((leaveS g2 (List.getD (namesS g2.1) 0 0)).2.2)))] [(3, AObj.row [.s (slO g2.1), .s (slO g2.2)]), (6, AObj.row [.s (slO (((leaveS g2 (List.getD (namesS g2.1) 0 0)).1).1)), .s (slO (((leaveS g2 (List.getD (namesS g2.1) 0 0)).1).2))])]) mixed (by kernel_rfl) ?_ ?_
        · exact ⟨(Holders_c g2 (by first | assumption | omega | (show sizeS _ ≤ _; (repeat (first | apply sz_ask | apply sz_leave)); first | exact sz_run (by omega) | exact sz_runs (by omega) | exact Nat.zero_le _ | omega | assumption))), (show (0 : Int) ≤ 0 from (by omega)), (show (0 : Int) < List.length (namesS g2.1 : List Int) from (by omega)), (Leave_c g2 (List.getD (namesS g2.1) 0 0) (by (repeat (first | apply ask_wf | apply leave_wf)); first | exact wf_nil | exact run_wf _ | assumption) (by first | assumption | omega | (show sizeS _ ≤ _; (repeat (first | apply sz_ask | apply sz_leave)); first | exact sz_run (by omega) | exact sz_runs (by omega) | exact Nat.zero_le _ | omega | assumption)))⟩
        refine AMx.seq ?_
        refine AMx.seq ?_
        refine AMx.region (ces := [(4, CE.call [] [] (vc (bo true)) [])]) (ks := [3, 5, 6, 80]) (hs := [3, 6]) (cs := [((!decide ((leaveS g2 (List.getD (namesS g2.1) 0 0)).2.2 = 0)) = false) → allP [], ((!decide ((leaveS g2 (List.getD (namesS g2.1) 0 0)).2.2 = 0)) = false) → allP [(!decide ((leaveS g2 (List.getD (namesS g2.1) 0 0)).2.2 = 0)) = false, Spec Try.prog 45 [TV.agg [.s (slO (((leaveS g2 (List.getD (namesS g2.1) 0 0)).1).1)), .s (slO (((leaveS g2 (List.getD (namesS g2.1) 0 0)).1).2))]] (ofH []) (vc (bo true)) (ofH [])], ((!decide ((leaveS g2 (List.getD (namesS g2.1) 0 0)).2.2 = 0)) = false) → allP [(!decide ((leaveS g2 (List.getD (namesS g2.1) 0 0)).2.2 = 0)) = false], (!decide ((leaveS g2 (List.getD (namesS g2.1) 0 0)).2.2 = 0)) = false → allP [(!decide ((leaveS g2 (List.getD (namesS g2.1) 0 0)).2.2 = 0)) = false]]) (s' := AS.lst 87 [(3, vp 3 0), (5, vc (i6 (n : Int))), (6, vp 6 0), (80, vc (bo ((!decide ((leaveS g2 (List.getD (namesS g2.1) 0 0)).2.2 = 0)) || false)))] [(3, AObj.row [.s (slO g2.1), .s (slO g2.2)]), (6, AObj.row [.s (slO (((leaveS g2 (List.getD (namesS g2.1) 0 0)).1).1)), .s (slO (((leaveS g2 (List.getD (namesS g2.1) 0 0)).1).2))])]) (by kernel_rfl) ?_ ?_
        · exact ⟨(fun _ => trivial), (fun hp => by have hq := hp; (try simp only [decide_eq_true_eq, decide_eq_false_iff_not, Bool.and_eq_true, Bool.or_eq_true, Bool.and_eq_false_iff, Bool.or_eq_false_iff, Bool.not_eq_true', Bool.not_eq_false', Bool.not_eq_true, Bool.not_eq_false] at hq); exact ⟨hp, (fine_c ((leaveS g2 (List.getD (namesS g2.1) 0 0)).1) (by (repeat (first | apply ask_wf | apply leave_wf)); first | exact wf_nil | exact run_wf _ | assumption) (by first | assumption | omega | (show sizeS _ ≤ _; (repeat (first | apply sz_ask | apply sz_leave)); first | exact sz_run (by omega) | exact sz_runs (by omega) | exact Nat.zero_le _ | omega | assumption)) (by (repeat (first | apply ask_wr | apply leave_wr)); first | exact run_wr _ | assumption) (by (repeat (first | apply ask_kept | apply leave_kept)); first | exact run_kept _ | assumption))⟩), (fun hp => hp), (fun hp2 => (by first | exact hp2 | exact ⟨hp, hp2⟩))⟩
        refine AMx.cond (b := ((!decide ((leaveS g2 (List.getD (namesS g2.1) 0 0)).2.2 = 0)) || false)) (by kernel_rfl) (fun hc7 => ?_) (fun hc7 => ?_)
        · try simp only [decide_eq_true_eq, decide_eq_false_iff_not, Bool.or_eq_true, Bool.or_eq_false_iff, Bool.not_eq_true', Bool.not_eq_false'] at hc7
          refine AMx.seq ?_
          refine AMx.region (ces := []) (ks := [2]) (hs := []) (cs := []) (s' := AS.lst 87 [(2, vc (bo false))] []) (by kernel_rfl) ?_ ?_
          · exact trivial
          refine AMx.ret ?_
          exact RetP.mk (r := vc (bo false)) (by kernel_rfl) (by exfalso; have q := hc7; rcases q with q | q; exact q (leave_dec hw (by have h0 := Lib.getD_mem (0 : Int) (namesS g2.1) 0 (by omega); rw [names_app, List.mem_append]; exact .inl h0)).2; cases q)
        · try simp only [decide_eq_true_eq, decide_eq_false_iff_not, Bool.or_eq_true, Bool.or_eq_false_iff, Bool.not_eq_true', Bool.not_eq_false'] at hc7
          refine AMx.skip ?_
          refine AMx.region (ces := []) (ks := [3, 5]) (hs := [3]) (cs := []) (s' := AS.lst 87 [(3, vp 3 0), (5, vc (i6 (n : Int)))] [(3, AObj.row [.s (slO (((leaveS g2 (List.getD (namesS g2.1) 0 0)).1).1)), .s (slO (((leaveS g2 (List.getD (namesS g2.1) 0 0)).1).2))])]) (by kernel_rfl) ?_ ?_
          · exact trivial
          refine AMx.blk ?_
          refine AMx.region (ces := []) (ks := [3, 5]) (hs := [3]) (cs := [InR .i64 ((n : Int) + 1)]) (s' := AS.lst 87 [(3, vp 3 0), (5, vc (i6 ((n : Int) + 1)))] [(3, AObj.row [.s (slO (((leaveS g2 (List.getD (namesS g2.1) 0 0)).1).1)), .s (slO (((leaveS g2 (List.getD (namesS g2.1) 0 0)).1).2))])]) (by kernel_rfl) ?_ ?_
          · exact (show InR .i64 ((n : Int) + 1) from (inR64 (by omega) (by omega)))
          refine AMx.ent_inv (s' := AS.lst 87 [(3, vp 3 0), (5, vc (i6 ((n : Int) + 1)))] [(3, AObj.row [.s (slO (((leaveS g2 (List.getD (namesS g2.1) 0 0)).1).1)), .s (slO (((leaveS g2 (List.getD (namesS g2.1) 0 0)).1).2))])]) (ent_proj [3, 5] [3]) ?_
          refine AMx.inv ⟨_, ?_, n + 1, (leaveS g2 (List.getD (namesS g2.1) 0 0)).1, ?_, rfl, ?_⟩
          rotate_left
          · have hd := (leave_dec hw (w := List.getD (namesS g2.1) 0 0) (by have h0 := Lib.getD_mem (0 : Int) (namesS g2.1) 0 (by omega); rw [names_app, List.mem_append]; exact .inl h0)).1; exact ⟨leave_wf hw, leave_wr hr, leave_kept hk, by omega⟩
          · rfl
          · have hd := (leave_dec hw (w := List.getD (namesS g2.1) 0 0) (by have h0 := Lib.getD_mem (0 : Int) (namesS g2.1) 0 (by omega); rw [names_app, List.mem_append]; exact .inl h0)).1; omega
      · try simp only [decide_eq_true_eq, decide_eq_false_iff_not, Bool.and_eq_true, Bool.and_eq_false_iff] at hc6
        refine AMx.exit ?_
        refine AMx.code_exit ?_
        refine AMx.inv_exit ?_
        refine AMx.blk_exit ?_
        refine AMx.seq ?_
        refine AMx.region (ces := [(1, CE.call [] [] (vc (bo (decide ((List.length g2.1 : Int) + (List.length g2.2 : Int) = 0)))) []), (3, CE.call [] [] (vc (bo true)) [])]) (ks := [2]) (hs := []) (cs := [Spec Try.prog 47 [TV.agg [.s (slO g2.1), .s (slO g2.2)]] (ofH []) (vc (bo (decide ((List.length g2.1 : Int) + (List.length g2.2 : Int) = 0)))) (ofH []), ((decide ((List.length g2.1 : Int) + (List.length g2.2 : Int) = 0)) = true) → allP [Spec Try.prog 35 [] (ofH []) (vc (bo true)) (ofH [])], (decide ((List.length g2.1 : Int) + (List.length g2.2 : Int) = 0)) = true → allP [(decide ((List.length g2.1 : Int) + (List.length g2.2 : Int) = 0)) = true]]) (s' := AS.lst 87 [(2, vc (bo ((decide ((List.length g2.1 : Int) + (List.length g2.2 : Int) = 0)) && true)))] []) (by kernel_rfl) ?_ ?_
        · exact ⟨(Free_c g2 (by first | assumption | omega | (show sizeS _ ≤ _; (repeat (first | apply sz_ask | apply sz_leave)); first | exact sz_run (by omega) | exact sz_runs (by omega) | exact Nat.zero_le _ | omega | assumption))), (fun hp => by have hq := hp; (try simp only [decide_eq_true_eq, decide_eq_false_iff_not, Bool.and_eq_true, Bool.or_eq_true, Bool.and_eq_false_iff, Bool.or_eq_false_iff, Bool.not_eq_true', Bool.not_eq_false', Bool.not_eq_true, Bool.not_eq_false] at hq); exact (awake_c)), (fun hp2 => (by first | exact hp2 | exact ⟨hp, hp2⟩))⟩
        refine AMx.ret ?_
        exact RetP.mk (r := vc (bo ((decide ((List.length g2.1 : Int) + (List.length g2.2 : Int) = 0)) && true))) (by kernel_rfl) (congrArg (fun b => vc (bo b)) (show ((decide ((List.length g2.1 : Int) + (List.length g2.2 : Int) = 0)) && true) = true from by have h1 : g2.1 = [] := List.eq_nil_of_length_eq_zero (by rw [names_len] at *; omega); have h2 : g2.2 = [] := Classical.byContradiction fun h => hk h h1; rw [h1, h2]; rfl))

end AL.Gate
