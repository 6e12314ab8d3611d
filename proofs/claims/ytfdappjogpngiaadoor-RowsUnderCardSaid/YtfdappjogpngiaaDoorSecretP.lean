/- secret: the contracts of its functions, by their walks. No condition. -/
import Derived.Test.YtfdappjogpngiaaDoorSecretC
namespace AL.Secret
open Go Go.Proofs AL AL.Fnv
set_option linter.unusedVariables false
set_option linter.unusedSimpArgs false

theorem f40_body : Tryd.f40.body = some (.seq (.region 0 (rg Tryd.f40 0) false) (.seq (.seq (.region 1 (rg Tryd.f40 1) false) (.cond (.tmp 10) (.seq (.region 2 (rg Tryd.f40 2) false) (.ret)) (.skip))) (.seq (.seq (.region 3 (rg Tryd.f40 3) false) (.block 0 (.loop (.seq (.region 4 (rg Tryd.f40 4) false) (.seq (.cond (.tmp 14) (.skip) (.exit 0)) (.seq (.block 1 (.seq (.region 5 (rg Tryd.f40 5) false) (.seq (.region 6 (rg Tryd.f40 6) true) (.cond (.tmp 24) (.seq (.region 7 (rg Tryd.f40 7) false) (.ret)) (.skip))))) (.region 8 (rg Tryd.f40 8) false))))))) (.seq (.region 9 (rg Tryd.f40 9) false) (.ret))))) := by kernel_rfl

set_option maxRecDepth 100000 in
set_option maxHeartbeats 8000000 in
theorem EqualR_c (a b : List RowV) : Pure Tryd.prog 40 [tc (slR a), tc (slR b)] (vc (bo (decide (a = b)))) := by
  refine Pure.of_body Tryd.func40 f40_body (by kernel_rfl) Tryd.ntmps40 (by kernel_rfl) (by kernel_rfl) ?_
  refine AMx.sl 0 (l := a) rfl (fun hl => ?_)
  simp only [maxLen] at hl
  refine AMx.seq ?_
  refine AMx.region (ces := []) (ks := [0, 1]) (hs := []) (cs := []) (s' := AS.lst 26 [(0, vc (slR a)), (1, vc (slR b))] []) (by kernel_rfl) ?_ ?_
  · exact trivial
  refine AMx.seq ?_
  refine AMx.seq ?_
  refine AMx.region (ces := []) (ks := [0, 1, 10]) (hs := []) (cs := []) (s' := AS.lst 26 [(0, vc (slR a)), (1, vc (slR b)), (10, vc (bo (!decide ((List.length a : Int) = (List.length b : Int)))))] []) (by kernel_rfl) ?_ ?_
  · exact trivial
  refine AMx.cond (b := !decide ((List.length a : Int) = (List.length b : Int))) (by kernel_rfl) (fun hc1 => ?_) (fun hc1 => ?_)
  · try simp only [decide_eq_true_eq, decide_eq_false_iff_not, Bool.not_eq_true', Bool.not_eq_false'] at hc1
    refine AMx.seq ?_
    refine AMx.region (ces := []) (ks := [4]) (hs := []) (cs := []) (s' := AS.lst 26 [(4, vc (bo false))] []) (by kernel_rfl) ?_ ?_
    · exact trivial
    refine AMx.ret ?_
    exact RetP.mk (r := vc (bo false)) (by kernel_rfl) (by rw [decide_eq_false (fun h => by subst h; simp_all)])
  · try simp only [decide_eq_true_eq, decide_eq_false_iff_not, Bool.not_eq_true', Bool.not_eq_false'] at hc1
    refine AMx.skip ?_
    refine AMx.seq ?_
    refine AMx.seq ?_
    refine AMx.region (ces := []) (ks := [0, 1, 12, 13]) (hs := []) (cs := []) (s' := AS.lst 26 [(0, vc (slR a)), (1, vc (slR b)), (12, vc (i6 (List.length a : Int))), (13, vc (i6 0))] []) (by kernel_rfl) ?_ ?_
    · exact trivial
    refine AMx.block ?_
    refine AMx.ent (s' := AS.lst 26 [(0, vc (slR a)), (1, vc (slR b)), (12, vc (i6 (List.length a : Int))), (13, vc (i6 0))] []) (ent_proj [0, 1, 12, 13] []) ?_
    refine AMx.loop (fun mm ss => ∃ (i : Nat), (i ≤ a.length ∧ List.take i a = List.take i b) ∧ mm = a.length - i ∧ ss = AS.lst 26 [(0, vc (slR a)), (1, vc (slR b)), (12, vc (i6 (List.length a : Int))), (13, vc (i6 (i : Int)))] []) ⟨0, ?_, rfl, ?_⟩ ?_
    · exact ⟨by omega, rfl⟩
    · rfl
    rintro mm ss ⟨i, ⟨hI, hE⟩, rfl, rfl⟩
    refine AMx.seq ?_
    refine AMx.region (ces := []) (ks := [0, 1, 12, 13, 14]) (hs := []) (cs := []) (s' := AS.lst 26 [(0, vc (slR a)), (1, vc (slR b)), (12, vc (i6 (List.length a : Int))), (13, vc (i6 (i : Int))), (14, vc (bo (decide ((i : Int) < (List.length a : Int)))))] []) (by kernel_rfl) ?_ ?_
    · exact trivial
    refine AMx.seq ?_
    refine AMx.cond (b := decide ((i : Int) < (List.length a : Int))) (by kernel_rfl) (fun hc2 => ?_) (fun hc2 => ?_)
    · try simp only [decide_eq_true_eq, decide_eq_false_iff_not] at hc2
      refine AMx.skip ?_
      refine AMx.seq ?_
      refine AMx.block ?_
      refine AMx.seq ?_
      refine AMx.region (ces := []) (ks := [0, 1, 5, 12, 13]) (hs := []) (cs := []) (s' := AS.lst 26 [(0, vc (slR a)), (1, vc (slR b)), (5, vc (i6 (i : Int))), (12, vc (i6 (List.length a : Int))), (13, vc (i6 (i : Int)))] []) (by kernel_rfl) ?_ ?_
      · exact trivial
      refine AMx.seq ?_
      refine AMx.region_draw (ces := []) (ros := []) (ks := [0, 1, 12, 13, 24]) (hs := []) (cs := [(0 : Int) ≤ (i : Int), (i : Int) < List.length a, (0 : Int) ≤ (i : Int), (i : Int) < List.length b]) (s' := AS.lst 26 [(0, vc (slR a)), (1, vc (slR b)), (12, vc (i6 (List.length a : Int))), (13, vc (i6 (i : Int))), (24, vc (bo (!(decide ((List.getD a i (0, false, false)).1 = (List.getD b i (0, false, false)).1) && ((((List.getD a i (0, false, false)).2.1) == ((List.getD b i (0, false, false)).2.1)) && ((((List.getD a i (0, false, false)).2.2) == ((List.getD b i (0, false, false)).2.2)) && true))))))] []) mixed (by kernel_rfl) ?_ ?_
      · exact ⟨(show (0 : Int) ≤ (i : Int) from (by omega)), (show (i : Int) < List.length a from (by omega)), (show (0 : Int) ≤ (i : Int) from (by omega)), (show (i : Int) < List.length b from (by omega))⟩
      refine AMx.cond (b := !(decide ((List.getD a i (0, false, false)).1 = (List.getD b i (0, false, false)).1) && ((((List.getD a i (0, false, false)).2.1) == ((List.getD b i (0, false, false)).2.1)) && ((((List.getD a i (0, false, false)).2.2) == ((List.getD b i (0, false, false)).2.2)) && true)))) (by kernel_rfl) (fun hc3 => ?_) (fun hc3 => ?_)
      · try simp only [decide_eq_true_eq, decide_eq_false_iff_not, Bool.and_eq_true, Bool.and_eq_false_iff, Bool.not_eq_true', Bool.not_eq_false'] at hc3
        refine AMx.seq ?_
        refine AMx.region (ces := []) (ks := [4]) (hs := []) (cs := []) (s' := AS.lst 26 [(4, vc (bo false))] []) (by kernel_rfl) ?_ ?_
        · exact trivial
        refine AMx.ret ?_
        exact RetP.mk (r := vc (bo false)) (by kernel_rfl) (by rw [decide_eq_false (fun h => by subst h; simp_all)])
      · try simp only [decide_eq_true_eq, decide_eq_false_iff_not, Bool.and_eq_true, Bool.and_eq_false_iff, Bool.not_eq_true', Bool.not_eq_false'] at hc3
        refine AMx.skip ?_
        refine AMx.blk ?_
        refine AMx.region (ces := []) (ks := [0, 1, 12, 13]) (hs := []) (cs := [InR .i64 ((i : Int) + 1)]) (s' := AS.lst 26 [(0, vc (slR a)), (1, vc (slR b)), (12, vc (i6 (List.length a : Int))), (13, vc (i6 ((i : Int) + 1)))] []) (by kernel_rfl) ?_ ?_
        · exact (show InR .i64 ((i : Int) + 1) from (inR64 (by omega) (by omega)))
        refine AMx.ent_inv (s' := AS.lst 26 [(0, vc (slR a)), (1, vc (slR b)), (12, vc (i6 (List.length a : Int))), (13, vc (i6 ((i : Int) + 1)))] []) (ent_proj [0, 1, 12, 13] []) ?_
        refine AMx.inv ⟨_, ?_, i + 1, ?_, rfl, ?_⟩
        rotate_left
        · exact ⟨by omega, Lib.same_step (0, false, false) a b i (by omega) (by omega) hE (by grind)⟩
        · rfl
        · omega
    · try simp only [decide_eq_true_eq, decide_eq_false_iff_not] at hc2
      refine AMx.exit ?_
      refine AMx.code_exit ?_
      refine AMx.inv_exit ?_
      refine AMx.blk_exit ?_
      refine AMx.seq ?_
      refine AMx.region (ces := []) (ks := [4]) (hs := []) (cs := []) (s' := AS.lst 26 [(4, vc (bo true))] []) (by kernel_rfl) ?_ ?_
      · exact trivial
      refine AMx.ret ?_
      exact RetP.mk (r := vc (bo true)) (by kernel_rfl) (by rw [decide_eq_true (Lib.same_end a b i (by omega) (by omega) hE)])

theorem f25_body : Tryd.f25.body = some (.seq (.region 0 (rg Tryd.f25 0) false) (.seq (.region 1 (rg Tryd.f25 1) false) (.ret))) := by kernel_rfl

set_option maxRecDepth 100000 in
set_option maxHeartbeats 8000000 in
theorem Same_c (a b : Sec) : Pure Tryd.prog 25 [TV.agg [.s (i6 a.1), .s (bo a.2.1), .s (i6 a.2.2.1), .s (slR a.2.2.2)], TV.agg [.s (i6 b.1), .s (bo b.2.1), .s (i6 b.2.2.1), .s (slR b.2.2.2)]] (vc (bo (decide (a = b)))) := by
  refine Pure.of_body Tryd.func25 f25_body (by kernel_rfl) Tryd.ntmps25 (by kernel_rfl) (by kernel_rfl) ?_
  refine AMx.seq ?_
  refine AMx.region (ces := []) (ks := [2, 3]) (hs := [2, 3]) (cs := []) (s' := AS.lst 31 [(2, vp 2 0), (3, vp 3 0)] [(2, AObj.row [.s (i6 a.1), .s (bo a.2.1), .s (i6 a.2.2.1), .s (slR a.2.2.2)]), (3, AObj.row [.s (i6 b.1), .s (bo b.2.1), .s (i6 b.2.2.1), .s (slR b.2.2.2)])]) (by kernel_rfl) ?_ ?_
  · exact trivial
  refine AMx.seq ?_
  refine AMx.region (ces := [(24, CE.call [] [] (vc (bo (decide (a.2.2.2 = b.2.2.2)))) [])]) (ks := [4]) (hs := []) (cs := [((decide (a.1 = b.1)) = true) → allP [], ((decide (a.1 = b.1)) = true) → allP [(decide (a.1 = b.1)) = true], ((decide (a.1 = b.1)) = true) → allP [], ((decide (a.1 = b.1)) = true) → allP [(decide (a.1 = b.1)) = true], ((decide (a.1 = b.1)) = true) → allP [(decide (a.1 = b.1)) = true, (decide (a.1 = b.1)) = true], (decide (a.1 = b.1)) = true → allP [(decide (a.1 = b.1)) = true], (((decide (a.1 = b.1)) && (a.2.1 == b.2.1)) = true) → allP [], (((decide (a.1 = b.1)) && (a.2.1 == b.2.1)) = true) → allP [((decide (a.1 = b.1)) && (a.2.1 == b.2.1)) = true], (((decide (a.1 = b.1)) && (a.2.1 == b.2.1)) = true) → allP [], (((decide (a.1 = b.1)) && (a.2.1 == b.2.1)) = true) → allP [((decide (a.1 = b.1)) && (a.2.1 == b.2.1)) = true], (((decide (a.1 = b.1)) && (a.2.1 == b.2.1)) = true) → allP [((decide (a.1 = b.1)) && (a.2.1 == b.2.1)) = true, ((decide (a.1 = b.1)) && (a.2.1 == b.2.1)) = true], ((decide (a.1 = b.1)) && (a.2.1 == b.2.1)) = true → allP [((decide (a.1 = b.1)) && (a.2.1 == b.2.1)) = true], ((((decide (a.1 = b.1)) && (a.2.1 == b.2.1)) && (decide (a.2.2.1 = b.2.2.1))) = true) → allP [], ((((decide (a.1 = b.1)) && (a.2.1 == b.2.1)) && (decide (a.2.2.1 = b.2.2.1))) = true) → allP [(((decide (a.1 = b.1)) && (a.2.1 == b.2.1)) && (decide (a.2.2.1 = b.2.2.1))) = true], ((((decide (a.1 = b.1)) && (a.2.1 == b.2.1)) && (decide (a.2.2.1 = b.2.2.1))) = true) → allP [], ((((decide (a.1 = b.1)) && (a.2.1 == b.2.1)) && (decide (a.2.2.1 = b.2.2.1))) = true) → allP [(((decide (a.1 = b.1)) && (a.2.1 == b.2.1)) && (decide (a.2.2.1 = b.2.2.1))) = true], ((((decide (a.1 = b.1)) && (a.2.1 == b.2.1)) && (decide (a.2.2.1 = b.2.2.1))) = true) → allP [(((decide (a.1 = b.1)) && (a.2.1 == b.2.1)) && (decide (a.2.2.1 = b.2.2.1))) = true, (((decide (a.1 = b.1)) && (a.2.1 == b.2.1)) && (decide (a.2.2.1 = b.2.2.1))) = true, Spec Tryd.prog 40 [tc (slR a.2.2.2), tc (slR b.2.2.2)] (ofH []) (vc (bo (decide (a.2.2.2 = b.2.2.2)))) (ofH [])], (((decide (a.1 = b.1)) && (a.2.1 == b.2.1)) && (decide (a.2.2.1 = b.2.2.1))) = true → allP [(((decide (a.1 = b.1)) && (a.2.1 == b.2.1)) && (decide (a.2.2.1 = b.2.2.1))) = true]]) (s' := AS.lst 31 [(4, vc (bo ((((decide (a.1 = b.1)) && (a.2.1 == b.2.1)) && (decide (a.2.2.1 = b.2.2.1))) && (decide (a.2.2.2 = b.2.2.2)))))] []) (by kernel_rfl) ?_ ?_
  · exact ⟨(fun _ => trivial), (fun hp => hp), (fun _ => trivial), (fun hp => hp), (fun hp => ⟨hp, hp⟩), (fun hp2 => (by first | exact hp2 | exact ⟨hp, hp2⟩)), (fun _ => trivial), (fun hp => hp), (fun _ => trivial), (fun hp => hp), (fun hp => ⟨hp, hp⟩), (fun hp2 => (by first | exact hp2 | exact ⟨hp, hp2⟩)), (fun _ => trivial), (fun hp => hp), (fun _ => trivial), (fun hp => hp), (fun hp => by have hq := hp; (try simp only [decide_eq_true_eq, decide_eq_false_iff_not, Bool.and_eq_true, Bool.or_eq_true, Bool.and_eq_false_iff, Bool.or_eq_false_iff, Bool.not_eq_true', Bool.not_eq_false', Bool.not_eq_true, Bool.not_eq_false] at hq); exact ⟨hp, hp, (EqualR_c a.2.2.2 b.2.2.2)⟩), (fun hp2 => (by first | exact hp2 | exact ⟨hp, hp2⟩))⟩
  refine AMx.ret ?_
  exact RetP.mk (r := vc (bo ((((decide (a.1 = b.1)) && (a.2.1 == b.2.1)) && (decide (a.2.2.1 = b.2.2.1))) && (decide (a.2.2.2 = b.2.2.2))))) (by kernel_rfl) (by rw [show decide (a = b) = ((((decide (a.1 = b.1)) && (a.2.1 == b.2.1)) && (decide (a.2.2.1 = b.2.2.1))) && (decide (a.2.2.2 = b.2.2.2))) from same_eq a b])

theorem f22_body : Tryd.f22.body = some (.seq (.region 0 (rg Tryd.f22 0) false) (.seq (.seq (.region 1 (rg Tryd.f22 1) false) (.cond (.tmp 33) (.seq (.region 2 (rg Tryd.f22 2) false) (.ret)) (.skip))) (.seq (.seq (.region 3 (rg Tryd.f22 3) false) (.block 0 (.loop (.seq (.seq (.region 4 (rg Tryd.f22 4) false) (.cond (.tmp 38) (.skip) (.exit 0))) (.seq (.block 1 (.seq (.region 6 (rg Tryd.f22 6) true) (.cond (.tmp 51) (.seq (.region 7 (rg Tryd.f22 7) false) (.ret)) (.skip)))) (.region 5 (rg Tryd.f22 5) false)))))) (.seq (.region 8 (rg Tryd.f22 8) false) (.ret))))) := by kernel_rfl

set_option maxRecDepth 100000 in
set_option maxHeartbeats 8000000 in
theorem RSame_c (a b : Sec) : Pure Tryd.prog 22 [TV.agg [.s (i6 a.1), .s (bo a.2.1), .s (i6 a.2.2.1), .s (slR a.2.2.2)], TV.agg [.s (i6 b.1), .s (bo b.2.1), .s (i6 b.2.2.1), .s (slR b.2.2.2)]] (vc (bo (decide (a = b)))) := by
  refine Pure.of_body Tryd.func22 f22_body (by kernel_rfl) Tryd.ntmps22 (by kernel_rfl) (by kernel_rfl) ?_
  refine AMx.celln 0 3 rfl rfl (fun hl => ?_)
  simp only [maxLen] at hl
  refine AMx.seq ?_
  refine AMx.region (ces := []) (ks := [2, 3]) (hs := [2, 3]) (cs := []) (s' := AS.lst 52 [(2, vp 2 0), (3, vp 3 0)] [(2, AObj.row [.s (i6 a.1), .s (bo a.2.1), .s (i6 a.2.2.1), .s (slR a.2.2.2)]), (3, AObj.row [.s (i6 b.1), .s (bo b.2.1), .s (i6 b.2.2.1), .s (slR b.2.2.2)])]) (by kernel_rfl) ?_ ?_
  · exact trivial
  refine AMx.seq ?_
  refine AMx.seq ?_
  refine AMx.region (ces := []) (ks := [2, 3, 33]) (hs := [2, 3]) (cs := [((!decide (a.1 = b.1)) = false) → allP [], ((!decide (a.1 = b.1)) = false) → allP [(!decide (a.1 = b.1)) = false], ((!decide (a.1 = b.1)) = false) → allP [], ((!decide (a.1 = b.1)) = false) → allP [(!decide (a.1 = b.1)) = false], ((!decide (a.1 = b.1)) = false) → allP [(!decide (a.1 = b.1)) = false, (!decide (a.1 = b.1)) = false], (!decide (a.1 = b.1)) = false → allP [(!decide (a.1 = b.1)) = false], (((!decide (a.1 = b.1)) || (!(a.2.1 == b.2.1))) = false) → allP [], (((!decide (a.1 = b.1)) || (!(a.2.1 == b.2.1))) = false) → allP [((!decide (a.1 = b.1)) || (!(a.2.1 == b.2.1))) = false], (((!decide (a.1 = b.1)) || (!(a.2.1 == b.2.1))) = false) → allP [], (((!decide (a.1 = b.1)) || (!(a.2.1 == b.2.1))) = false) → allP [((!decide (a.1 = b.1)) || (!(a.2.1 == b.2.1))) = false], (((!decide (a.1 = b.1)) || (!(a.2.1 == b.2.1))) = false) → allP [((!decide (a.1 = b.1)) || (!(a.2.1 == b.2.1))) = false, ((!decide (a.1 = b.1)) || (!(a.2.1 == b.2.1))) = false], ((!decide (a.1 = b.1)) || (!(a.2.1 == b.2.1))) = false → allP [((!decide (a.1 = b.1)) || (!(a.2.1 == b.2.1))) = false], ((((!decide (a.1 = b.1)) || (!(a.2.1 == b.2.1))) || (!decide (a.2.2.1 = b.2.2.1))) = false) → allP [], ((((!decide (a.1 = b.1)) || (!(a.2.1 == b.2.1))) || (!decide (a.2.2.1 = b.2.2.1))) = false) → allP [(((!decide (a.1 = b.1)) || (!(a.2.1 == b.2.1))) || (!decide (a.2.2.1 = b.2.2.1))) = false], ((((!decide (a.1 = b.1)) || (!(a.2.1 == b.2.1))) || (!decide (a.2.2.1 = b.2.2.1))) = false) → allP [(((!decide (a.1 = b.1)) || (!(a.2.1 == b.2.1))) || (!decide (a.2.2.1 = b.2.2.1))) = false], ((((!decide (a.1 = b.1)) || (!(a.2.1 == b.2.1))) || (!decide (a.2.2.1 = b.2.2.1))) = false) → allP [], ((((!decide (a.1 = b.1)) || (!(a.2.1 == b.2.1))) || (!decide (a.2.2.1 = b.2.2.1))) = false) → allP [(((!decide (a.1 = b.1)) || (!(a.2.1 == b.2.1))) || (!decide (a.2.2.1 = b.2.2.1))) = false], ((((!decide (a.1 = b.1)) || (!(a.2.1 == b.2.1))) || (!decide (a.2.2.1 = b.2.2.1))) = false) → allP [(((!decide (a.1 = b.1)) || (!(a.2.1 == b.2.1))) || (!decide (a.2.2.1 = b.2.2.1))) = false], ((((!decide (a.1 = b.1)) || (!(a.2.1 == b.2.1))) || (!decide (a.2.2.1 = b.2.2.1))) = false) → allP [(((!decide (a.1 = b.1)) || (!(a.2.1 == b.2.1))) || (!decide (a.2.2.1 = b.2.2.1))) = false, (((!decide (a.1 = b.1)) || (!(a.2.1 == b.2.1))) || (!decide (a.2.2.1 = b.2.2.1))) = false], (((!decide (a.1 = b.1)) || (!(a.2.1 == b.2.1))) || (!decide (a.2.2.1 = b.2.2.1))) = false → allP [(((!decide (a.1 = b.1)) || (!(a.2.1 == b.2.1))) || (!decide (a.2.2.1 = b.2.2.1))) = false]]) (s' := AS.lst 52 [(2, vp 2 0), (3, vp 3 0), (33, vc (bo ((((!decide (a.1 = b.1)) || (!(a.2.1 == b.2.1))) || (!decide (a.2.2.1 = b.2.2.1))) || (!decide ((List.length a.2.2.2 : Int) = (List.length b.2.2.2 : Int))))))] [(2, AObj.row [.s (i6 a.1), .s (bo a.2.1), .s (i6 a.2.2.1), .s (slR a.2.2.2)]), (3, AObj.row [.s (i6 b.1), .s (bo b.2.1), .s (i6 b.2.2.1), .s (slR b.2.2.2)])]) (by kernel_rfl) ?_ ?_
  · exact ⟨(fun _ => trivial), (fun hp => hp), (fun _ => trivial), (fun hp => hp), (fun hp => ⟨hp, hp⟩), (fun hp2 => (by first | exact hp2 | exact ⟨hp, hp2⟩)), (fun _ => trivial), (fun hp => hp), (fun _ => trivial), (fun hp => hp), (fun hp => ⟨hp, hp⟩), (fun hp2 => (by first | exact hp2 | exact ⟨hp, hp2⟩)), (fun _ => trivial), (fun hp => hp), (fun hp => hp), (fun _ => trivial), (fun hp => hp), (fun hp => hp), (fun hp => ⟨hp, hp⟩), (fun hp2 => (by first | exact hp2 | exact ⟨hp, hp2⟩))⟩
  refine AMx.cond (b := ((((!decide (a.1 = b.1)) || (!(a.2.1 == b.2.1))) || (!decide (a.2.2.1 = b.2.2.1))) || (!decide ((List.length a.2.2.2 : Int) = (List.length b.2.2.2 : Int))))) (by kernel_rfl) (fun hc1 => ?_) (fun hc1 => ?_)
  · try simp only [decide_eq_true_eq, decide_eq_false_iff_not, Bool.or_eq_true, Bool.or_eq_false_iff, Bool.not_eq_true', Bool.not_eq_false'] at hc1
    refine AMx.seq ?_
    refine AMx.region (ces := []) (ks := [4]) (hs := []) (cs := []) (s' := AS.lst 52 [(4, vc (bo false))] []) (by kernel_rfl) ?_ ?_
    · exact trivial
    refine AMx.ret ?_
    exact RetP.mk (r := vc (bo false)) (by kernel_rfl) (by rw [show decide (a = b) = false from decide_eq_false (fun h => by subst h; simp at hc1)])
  · try simp only [decide_eq_true_eq, decide_eq_false_iff_not, Bool.or_eq_true, Bool.or_eq_false_iff, Bool.not_eq_true', Bool.not_eq_false'] at hc1
    refine AMx.skip ?_
    refine AMx.seq ?_
    refine AMx.seq ?_
    refine AMx.region (ces := []) (ks := [2, 3, 5]) (hs := [2, 3]) (cs := []) (s' := AS.lst 52 [(2, vp 2 0), (3, vp 3 0), (5, vc (i6 0))] [(2, AObj.row [.s (i6 a.1), .s (bo a.2.1), .s (i6 a.2.2.1), .s (slR a.2.2.2)]), (3, AObj.row [.s (i6 b.1), .s (bo b.2.1), .s (i6 b.2.2.1), .s (slR b.2.2.2)])]) (by kernel_rfl) ?_ ?_
    · exact trivial
    refine AMx.block ?_
    refine AMx.ent (s' := AS.lst 52 [(2, vp 2 0), (3, vp 3 0), (5, vc (i6 0))] [(2, AObj.row [.s (i6 a.1), .s (bo a.2.1), .s (i6 a.2.2.1), .s (slR a.2.2.2)]), (3, AObj.row [.s (i6 b.1), .s (bo b.2.1), .s (i6 b.2.2.1), .s (slR b.2.2.2)])]) (ent_proj [2, 3, 5] [2, 3]) ?_
    refine AMx.loop (fun mm ss => ∃ (i : Nat), (i ≤ a.2.2.2.length ∧ List.take i a.2.2.2 = List.take i b.2.2.2) ∧ mm = a.2.2.2.length - i ∧ ss = AS.lst 52 [(2, vp 2 0), (3, vp 3 0), (5, vc (i6 (i : Int)))] [(2, AObj.row [.s (i6 a.1), .s (bo a.2.1), .s (i6 a.2.2.1), .s (slR a.2.2.2)]), (3, AObj.row [.s (i6 b.1), .s (bo b.2.1), .s (i6 b.2.2.1), .s (slR b.2.2.2)])]) ⟨0, ?_, rfl, ?_⟩ ?_
    · exact ⟨by omega, rfl⟩
    · rfl
    rintro mm ss ⟨i, ⟨hI, hE⟩, rfl, rfl⟩
    refine AMx.seq ?_
    refine AMx.seq ?_
    refine AMx.region (ces := []) (ks := [2, 3, 5, 38]) (hs := [2, 3]) (cs := []) (s' := AS.lst 52 [(2, vp 2 0), (3, vp 3 0), (5, vc (i6 (i : Int))), (38, vc (bo (decide ((i : Int) < (List.length a.2.2.2 : Int)))))] [(2, AObj.row [.s (i6 a.1), .s (bo a.2.1), .s (i6 a.2.2.1), .s (slR a.2.2.2)]), (3, AObj.row [.s (i6 b.1), .s (bo b.2.1), .s (i6 b.2.2.1), .s (slR b.2.2.2)])]) (by kernel_rfl) ?_ ?_
    · exact trivial
    refine AMx.cond (b := decide ((i : Int) < (List.length a.2.2.2 : Int))) (by kernel_rfl) (fun hc2 => ?_) (fun hc2 => ?_)
    · try simp only [decide_eq_true_eq, decide_eq_false_iff_not] at hc2
      refine AMx.skip ?_
      refine AMx.seq ?_
      refine AMx.block ?_
      refine AMx.seq ?_
      refine AMx.region_draw (ces := []) (ros := [(1, [2]), (6, [3])]) (ks := [2, 3, 5, 51]) (hs := [2, 3]) (cs := [(0 : Int) ≤ (i : Int), (i : Int) < List.length a.2.2.2, (0 : Int) ≤ (i : Int), (i : Int) < List.length b.2.2.2]) (s' := AS.lst 52 [(2, vp 2 0), (3, vp 3 0), (5, vc (i6 (i : Int))), (51, vc (bo (!(decide ((List.getD a.2.2.2 i (0, false, false)).1 = (List.getD b.2.2.2 i (0, false, false)).1) && ((((List.getD a.2.2.2 i (0, false, false)).2.1) == ((List.getD b.2.2.2 i (0, false, false)).2.1)) && ((((List.getD a.2.2.2 i (0, false, false)).2.2) == ((List.getD b.2.2.2 i (0, false, false)).2.2)) && true))))))] [(2, AObj.row [.s (i6 a.1), .s (bo a.2.1), .s (i6 a.2.2.1), .s (slR a.2.2.2)]), (3, AObj.row [.s (i6 b.1), .s (bo b.2.1), .s (i6 b.2.2.1), .s (slR b.2.2.2)])]) mixed (by kernel_rfl) ?_ ?_
      · exact ⟨(show (0 : Int) ≤ (i : Int) from (by omega)), (show (i : Int) < List.length a.2.2.2 from (by omega)), (show (0 : Int) ≤ (i : Int) from (by omega)), (show (i : Int) < List.length b.2.2.2 from (by omega))⟩
      refine AMx.cond (b := !(decide ((List.getD a.2.2.2 i (0, false, false)).1 = (List.getD b.2.2.2 i (0, false, false)).1) && ((((List.getD a.2.2.2 i (0, false, false)).2.1) == ((List.getD b.2.2.2 i (0, false, false)).2.1)) && ((((List.getD a.2.2.2 i (0, false, false)).2.2) == ((List.getD b.2.2.2 i (0, false, false)).2.2)) && true)))) (by kernel_rfl) (fun hc3 => ?_) (fun hc3 => ?_)
      · try simp only [decide_eq_true_eq, decide_eq_false_iff_not, Bool.and_eq_true, Bool.and_eq_false_iff, Bool.not_eq_true', Bool.not_eq_false'] at hc3
        refine AMx.seq ?_
        refine AMx.region (ces := []) (ks := [4]) (hs := []) (cs := []) (s' := AS.lst 52 [(4, vc (bo false))] []) (by kernel_rfl) ?_ ?_
        · exact trivial
        refine AMx.ret ?_
        exact RetP.mk (r := vc (bo false)) (by kernel_rfl) (by rw [show decide (a = b) = false from decide_eq_false (fun h => by subst h; simp at hc3)])
      · try simp only [decide_eq_true_eq, decide_eq_false_iff_not, Bool.and_eq_true, Bool.and_eq_false_iff, Bool.not_eq_true', Bool.not_eq_false'] at hc3
        refine AMx.skip ?_
        refine AMx.blk ?_
        refine AMx.region (ces := []) (ks := [2, 3, 5]) (hs := [2, 3]) (cs := [InR .i64 ((i : Int) + 1)]) (s' := AS.lst 52 [(2, vp 2 0), (3, vp 3 0), (5, vc (i6 ((i : Int) + 1)))] [(2, AObj.row [.s (i6 a.1), .s (bo a.2.1), .s (i6 a.2.2.1), .s (slR a.2.2.2)]), (3, AObj.row [.s (i6 b.1), .s (bo b.2.1), .s (i6 b.2.2.1), .s (slR b.2.2.2)])]) (by kernel_rfl) ?_ ?_
        · exact (show InR .i64 ((i : Int) + 1) from (inR64 (by omega) (by omega)))
        refine AMx.ent_inv (s' := AS.lst 52 [(2, vp 2 0), (3, vp 3 0), (5, vc (i6 ((i : Int) + 1)))] [(2, AObj.row [.s (i6 a.1), .s (bo a.2.1), .s (i6 a.2.2.1), .s (slR a.2.2.2)]), (3, AObj.row [.s (i6 b.1), .s (bo b.2.1), .s (i6 b.2.2.1), .s (slR b.2.2.2)])]) (ent_proj [2, 3, 5] [2, 3]) ?_
        refine AMx.inv ⟨_, ?_, i + 1, ?_, rfl, ?_⟩
        rotate_left
        · exact ⟨by omega, Lib.same_step (0, false, false) _ _ i (by omega) (by omega) hE (by grind)⟩
        · rfl
        · omega
    · try simp only [decide_eq_true_eq, decide_eq_false_iff_not] at hc2
      refine AMx.exit ?_
      refine AMx.code_exit ?_
      refine AMx.inv_exit ?_
      refine AMx.blk_exit ?_
      refine AMx.seq ?_
      refine AMx.region (ces := []) (ks := [4]) (hs := []) (cs := []) (s' := AS.lst 52 [(4, vc (bo true))] []) (by kernel_rfl) ?_ ?_
      · exact trivial
      refine AMx.ret ?_
      exact RetP.mk (r := vc (bo true)) (by kernel_rfl) (by rw [show decide (a = b) = true from decide_eq_true (by have q := Lib.same_end _ _ i (by omega) (by omega) hE; exact Prod.ext (by grind) (Prod.ext (by grind) (Prod.ext (by grind) q)))])

theorem f18_body : Tryd.f18.body = some (.seq (.region 0 (rg Tryd.f18 0) false) (.seq (.region 1 (rg Tryd.f18 1) false) (.seq (.seq (.region 2 (rg Tryd.f18 2) false) (.block 0 (.loop (.seq (.seq (.region 3 (rg Tryd.f18 3) false) (.cond (.tmp 16) (.skip) (.exit 0))) (.seq (.block 1 (.region 5 (rg Tryd.f18 5) true)) (.region 4 (rg Tryd.f18 4) false)))))) (.seq (.region 6 (rg Tryd.f18 6) false) (.ret))))) := by kernel_rfl

set_option maxRecDepth 100000 in
set_option maxHeartbeats 8000000 in
theorem Own_c (s : Sec) (hb : s.2.2.2.length ≤ 1000) : Pure Tryd.prog 18 [TV.agg [.s (i6 s.1), .s (bo s.2.1), .s (i6 s.2.2.1), .s (slR s.2.2.2)]] (AV.t (TV.agg [.s (i6 s.1), .s (bo s.2.1), .s (i6 s.2.2.1), .s (slR s.2.2.2)])) := by
  refine Pure.of_body Tryd.func18 f18_body (by kernel_rfl) Tryd.ntmps18 (by kernel_rfl) (by kernel_rfl) ?_
  refine AMx.seq ?_
  refine AMx.region (ces := []) (ks := [1, 2]) (hs := [1, 2]) (cs := []) (s' := AS.lst 30 [(1, vp 1 0), (2, vp 2 0)] [(1, AObj.row [.s (i6 s.1), .s (bo s.2.1), .s (i6 s.2.2.1), .s (slR s.2.2.2)]), (2, AObj.row [.s (i6 0), .s (bo false), .s (i6 0), .s (SC.nilsl)])]) (by kernel_rfl) ?_ ?_
  · exact trivial
  refine AMx.seq ?_
  refine AMx.region (ces := []) (ks := [1, 2, 3]) (hs := [1, 2, 3]) (cs := []) (s' := AS.lst 30 [(1, vp 1 0), (2, vp 2 0), (3, vp 3 0)] [(1, AObj.row [.s (i6 s.1), .s (bo s.2.1), .s (i6 s.2.2.1), .s (slR s.2.2.2)]), (2, AObj.row [.s (i6 0), .s (bo false), .s (i6 0), .s (SC.nilsl)]), (3, AObj.row [.s (i6 s.1), .s (bo s.2.1), .s (i6 s.2.2.1), .s (SC.nilsl)])]) (by kernel_rfl) ?_ ?_
  · exact trivial
  refine AMx.seq ?_
  refine AMx.seq ?_
  refine AMx.region (ces := []) (ks := [1, 2, 3, 4]) (hs := [1, 2, 3]) (cs := []) (s' := AS.lst 30 [(1, vp 1 0), (2, vp 2 0), (3, vp 3 0), (4, vc (i6 0))] [(1, AObj.row [.s (i6 s.1), .s (bo s.2.1), .s (i6 s.2.2.1), .s (slR s.2.2.2)]), (2, AObj.row [.s (i6 0), .s (bo false), .s (i6 0), .s (SC.nilsl)]), (3, AObj.row [.s (i6 s.1), .s (bo s.2.1), .s (i6 s.2.2.1), .s (SC.nilsl)])]) (by kernel_rfl) ?_ ?_
  · exact trivial
  refine AMx.block ?_
  refine AMx.ent (ent_adoptO 3 19 [.s (i6 s.1), .s (bo s.2.1), .s (i6 s.2.2.1)] [] 66 3 RowV (0, false, false) rowR (by kernel_rfl) (by kernel_rfl) (by kernel_rfl) (by kernel_rfl)) ?_
  refine AMx.ent (s' := AS.lst 30 [(1, vp 1 0), (2, vp 2 0), (3, vp 3 0), (4, vc (i6 0))] [(1, AObj.row [.s (i6 s.1), .s (bo s.2.1), .s (i6 s.2.2.1), .s (slR s.2.2.2)]), (2, AObj.row [.s (i6 0), .s (bo false), .s (i6 0), .s (SC.nilsl)]), (3, AObj.row [.s (i6 s.1), .s (bo s.2.1), .s (i6 s.2.2.1), .own 19]), (19, AObj.grow 66 3 RowV (0, false, false) rowR [])]) (ent_proj [1, 2, 3, 4] [1, 2, 3, 19]) ?_
  refine AMx.ent (s' := AS.lst 30 [(1, vp 1 0), (2, vp 2 0), (3, vp 3 0), (4, vc (i6 0))] [(1, AObj.row [.s (i6 s.1), .s (bo s.2.1), .s (i6 s.2.2.1), .s (slR s.2.2.2)]), (2, AObj.row [.s (i6 0), .s (bo false), .s (i6 0), .s (SC.nilsl)]), (3, AObj.row [.s (i6 s.1), .s (bo s.2.1), .s (i6 s.2.2.1), .own 19]), (19, AObj.grow 66 3 RowV (0, false, false) rowR [])]) (ent_proj [1, 2, 3, 4] [1, 2, 3, 19]) ?_
  refine AMx.loop (fun mm ss => ∃ (i : Nat), (i ≤ s.2.2.2.length) ∧ mm = s.2.2.2.length - i ∧ ss = AS.lst 30 [(1, vp 1 0), (2, vp 2 0), (3, vp 3 0), (4, vc (i6 (i : Int)))] [(1, AObj.row [.s (i6 s.1), .s (bo s.2.1), .s (i6 s.2.2.1), .s (slR s.2.2.2)]), (2, AObj.row [.s (i6 0), .s (bo false), .s (i6 0), .s (SC.nilsl)]), (3, AObj.row [.s (i6 s.1), .s (bo s.2.1), .s (i6 s.2.2.1), .own 19]), (19, AObj.grow 66 3 RowV (0, false, false) rowR (List.take i s.2.2.2))]) ⟨0, ?_, rfl, ?_⟩ ?_
  · omega
  · rfl
  rintro mm ss ⟨i, hI, rfl, rfl⟩
  refine AMx.seq ?_
  refine AMx.seq ?_
  refine AMx.region (ces := []) (ks := [1, 2, 3, 4, 16]) (hs := [1, 2, 3, 19]) (cs := []) (s' := AS.lst 30 [(1, vp 1 0), (2, vp 2 0), (3, vp 3 0), (4, vc (i6 (i : Int))), (16, vc (bo (decide ((i : Int) < (List.length s.2.2.2 : Int)))))] [(1, AObj.row [.s (i6 s.1), .s (bo s.2.1), .s (i6 s.2.2.1), .s (slR s.2.2.2)]), (2, AObj.row [.s (i6 0), .s (bo false), .s (i6 0), .s (SC.nilsl)]), (3, AObj.row [.s (i6 s.1), .s (bo s.2.1), .s (i6 s.2.2.1), .own 19]), (19, AObj.grow 66 3 RowV (0, false, false) rowR (List.take i s.2.2.2))]) (by kernel_rfl) ?_ ?_
  · exact trivial
  refine AMx.cond (b := decide ((i : Int) < (List.length s.2.2.2 : Int))) (by kernel_rfl) (fun hc1 => ?_) (fun hc1 => ?_)
  · try simp only [decide_eq_true_eq, decide_eq_false_iff_not] at hc1
    refine AMx.skip ?_
    refine AMx.seq ?_
    refine AMx.block ?_
    refine AMx.region_draw (ces := [(7, CE.obj (AObj.grow 66 3 RowV (0, false, false) rowR [(List.getD s.2.2.2 i (0, false, false))])), (8, CE.obj (AObj.grow 66 3 RowV (0, false, false) rowR ((List.take i s.2.2.2) ++ [(List.getD s.2.2.2 i (0, false, false))])))]) (ros := [(1, [3]), (3, [1]), (8, [19, 26]), (10, [3])]) (ks := [1, 2, 3, 4]) (hs := [1, 2, 3, 27]) (cs := [(0 : Int) ≤ (i : Int), (i : Int) < List.length s.2.2.2, flat 3 rowR [(List.getD s.2.2.2 i (0, false, false))] = [.s (i6 ((List.getD s.2.2.2 i (0, false, false)).1)), .s (bo ((List.getD s.2.2.2 i (0, false, false)).2.1)), .s (bo ((List.getD s.2.2.2 i (0, false, false)).2.2))], List.length ([(List.getD s.2.2.2 i (0, false, false))] : List RowV) = 1, AppC (flat 3 rowR [(List.getD s.2.2.2 i (0, false, false))]) (List.length ([(List.getD s.2.2.2 i (0, false, false))] : List RowV)) 16 (AObj.grow 66 3 RowV (0, false, false) rowR (List.take i s.2.2.2)) (AObj.grow 66 3 RowV (0, false, false) rowR ((List.take i s.2.2.2) ++ [(List.getD s.2.2.2 i (0, false, false))]))]) (s' := AS.lst 30 [(1, vp 1 0), (2, vp 2 0), (3, vp 3 0), (4, vc (i6 (i : Int)))] [(1, AObj.row [.s (i6 s.1), .s (bo s.2.1), .s (i6 s.2.2.1), .s (slR s.2.2.2)]), (2, AObj.row [.s (i6 0), .s (bo false), .s (i6 0), .s (SC.nilsl)]), (3, AObj.row [.s (i6 s.1), .s (bo s.2.1), .s (i6 s.2.2.1), .own 27]), (27, AObj.grow 66 3 RowV (0, false, false) rowR ((List.take i s.2.2.2) ++ [(List.getD s.2.2.2 i (0, false, false))]))]) mixed (by kernel_rfl) ?_ ?_
    · exact ⟨(show (0 : Int) ≤ (i : Int) from (by omega)), (show (i : Int) < List.length s.2.2.2 from (by omega)), rfl, rfl, (⟨_, rfl, rfl, rfl, by simp only [List.length_take, List.length_cons, List.length_nil]; omega, by simp only [maxLen, List.length_take, List.length_cons, List.length_nil]; omega⟩)⟩
    refine AMx.blk ?_
    refine AMx.region (ces := []) (ks := [1, 2, 3, 4]) (hs := [1, 2, 3, 27]) (cs := [InR .i64 ((i : Int) + 1)]) (s' := AS.lst 30 [(1, vp 1 0), (2, vp 2 0), (3, vp 3 0), (4, vc (i6 ((i : Int) + 1)))] [(1, AObj.row [.s (i6 s.1), .s (bo s.2.1), .s (i6 s.2.2.1), .s (slR s.2.2.2)]), (2, AObj.row [.s (i6 0), .s (bo false), .s (i6 0), .s (SC.nilsl)]), (3, AObj.row [.s (i6 s.1), .s (bo s.2.1), .s (i6 s.2.2.1), .own 27]), (27, AObj.grow 66 3 RowV (0, false, false) rowR ((List.take i s.2.2.2) ++ [(List.getD s.2.2.2 i (0, false, false))]))]) (by kernel_rfl) ?_ ?_
    · exact (show InR .i64 ((i : Int) + 1) from (inR64 (by omega) (by omega)))
    refine AMx.ent_inv (s' := AS.lst 30 [(1, vp 1 0), (2, vp 2 0), (3, vp 3 0), (4, vc (i6 ((i : Int) + 1)))] [(1, AObj.row [.s (i6 s.1), .s (bo s.2.1), .s (i6 s.2.2.1), .s (slR s.2.2.2)]), (2, AObj.row [.s (i6 0), .s (bo false), .s (i6 0), .s (SC.nilsl)]), (3, AObj.row [.s (i6 s.1), .s (bo s.2.1), .s (i6 s.2.2.1), .own 19]), (19, AObj.grow 66 3 RowV (0, false, false) rowR ((List.take i s.2.2.2) ++ [(List.getD s.2.2.2 i (0, false, false))]))]) (ent_swap 27 19 (by kernel_rfl) (by kernel_rfl)) ?_
    refine AMx.ent_inv (s' := AS.lst 30 [(1, vp 1 0), (2, vp 2 0), (3, vp 3 0), (4, vc (i6 ((i : Int) + 1)))] [(1, AObj.row [.s (i6 s.1), .s (bo s.2.1), .s (i6 s.2.2.1), .s (slR s.2.2.2)]), (2, AObj.row [.s (i6 0), .s (bo false), .s (i6 0), .s (SC.nilsl)]), (3, AObj.row [.s (i6 s.1), .s (bo s.2.1), .s (i6 s.2.2.1), .own 19]), (19, AObj.grow 66 3 RowV (0, false, false) rowR ((List.take i s.2.2.2) ++ [(List.getD s.2.2.2 i (0, false, false))]))]) (ent_proj [1, 2, 3, 4] [1, 2, 3, 19]) ?_
    refine AMx.inv ⟨_, ?_, i + 1, ?_, rfl, ?_⟩
    rotate_left
    · omega
    · rw [Lib.take_succ (0, false, false) s.2.2.2 i (by omega)]; rfl
    · omega
  · try simp only [decide_eq_true_eq, decide_eq_false_iff_not] at hc1
    refine AMx.exit ?_
    refine AMx.code_exit ?_
    refine AMx.inv_exit ?_
    refine AMx.blk_exit ?_
    refine AMx.seq ?_
    refine AMx.region (ces := []) (ks := [2]) (hs := [2, 19]) (cs := []) (s' := AS.lst 30 [(2, vp 2 0)] [(2, AObj.row [.s (i6 s.1), .s (bo s.2.1), .s (i6 s.2.2.1), .own 19]), (19, AObj.grow 66 3 RowV (0, false, false) rowR (List.take i s.2.2.2))]) (by kernel_rfl) ?_ ?_
    · exact trivial
    refine AMx.ent (s' := AS.lst 30 [(2, vp 2 0)] [(2, AObj.row [.s (i6 s.1), .s (bo s.2.1), .s (i6 s.2.2.1), .s (slR (List.take i s.2.2.2))])]) (ent_freeze (id := 19) (T := 66) (by kernel_rfl)) ?_
    refine AMx.ret ?_
    exact RetP.mk (r := AV.t (TV.agg [.s (i6 s.1), .s (bo s.2.1), .s (i6 s.2.2.1), .s (slR (List.take i s.2.2.2))])) (by kernel_rfl) (by rw [List.take_of_length_le (by omega)])

theorem f23_body : Tryd.f23.body = some (.seq (.region 0 (rg Tryd.f23 0) false) (.seq (.region 1 (rg Tryd.f23 1) false) (.seq (.seq (.region 2 (rg Tryd.f23 2) false) (.block 0 (.loop (.seq (.seq (.region 3 (rg Tryd.f23 3) false) (.cond (.tmp 16) (.skip) (.exit 0))) (.seq (.block 1 (.region 5 (rg Tryd.f23 5) true)) (.region 4 (rg Tryd.f23 4) false)))))) (.seq (.region 6 (rg Tryd.f23 6) false) (.ret))))) := by kernel_rfl

set_option maxRecDepth 100000 in
set_option maxHeartbeats 8000000 in
theorem Back_c (s : Sec) (hb : s.2.2.2.length ≤ 1000) : Pure Tryd.prog 23 [TV.agg [.s (i6 s.1), .s (bo s.2.1), .s (i6 s.2.2.1), .s (slR s.2.2.2)]] (AV.t (TV.agg [.s (i6 s.1), .s (bo s.2.1), .s (i6 s.2.2.1), .s (slR s.2.2.2)])) := by
  refine Pure.of_body Tryd.func23 f23_body (by kernel_rfl) Tryd.ntmps23 (by kernel_rfl) (by kernel_rfl) ?_
  refine AMx.seq ?_
  refine AMx.region (ces := []) (ks := [1, 2]) (hs := [1, 2]) (cs := []) (s' := AS.lst 30 [(1, vp 1 0), (2, vp 2 0)] [(1, AObj.row [.s (i6 s.1), .s (bo s.2.1), .s (i6 s.2.2.1), .s (slR s.2.2.2)]), (2, AObj.row [.s (i6 0), .s (bo false), .s (i6 0), .s (SC.nilsl)])]) (by kernel_rfl) ?_ ?_
  · exact trivial
  refine AMx.seq ?_
  refine AMx.region (ces := []) (ks := [1, 2, 3]) (hs := [1, 2, 3]) (cs := []) (s' := AS.lst 30 [(1, vp 1 0), (2, vp 2 0), (3, vp 3 0)] [(1, AObj.row [.s (i6 s.1), .s (bo s.2.1), .s (i6 s.2.2.1), .s (slR s.2.2.2)]), (2, AObj.row [.s (i6 0), .s (bo false), .s (i6 0), .s (SC.nilsl)]), (3, AObj.row [.s (i6 s.1), .s (bo s.2.1), .s (i6 s.2.2.1), .s (SC.nilsl)])]) (by kernel_rfl) ?_ ?_
  · exact trivial
  refine AMx.seq ?_
  refine AMx.seq ?_
  refine AMx.region (ces := []) (ks := [1, 2, 3, 4]) (hs := [1, 2, 3]) (cs := []) (s' := AS.lst 30 [(1, vp 1 0), (2, vp 2 0), (3, vp 3 0), (4, vc (i6 0))] [(1, AObj.row [.s (i6 s.1), .s (bo s.2.1), .s (i6 s.2.2.1), .s (slR s.2.2.2)]), (2, AObj.row [.s (i6 0), .s (bo false), .s (i6 0), .s (SC.nilsl)]), (3, AObj.row [.s (i6 s.1), .s (bo s.2.1), .s (i6 s.2.2.1), .s (SC.nilsl)])]) (by kernel_rfl) ?_ ?_
  · exact trivial
  refine AMx.block ?_
  refine AMx.ent (ent_adoptO 3 19 [.s (i6 s.1), .s (bo s.2.1), .s (i6 s.2.2.1)] [] 77 3 RowV (0, false, false) rowR (by kernel_rfl) (by kernel_rfl) (by kernel_rfl) (by kernel_rfl)) ?_
  refine AMx.ent (s' := AS.lst 30 [(1, vp 1 0), (2, vp 2 0), (3, vp 3 0), (4, vc (i6 0))] [(1, AObj.row [.s (i6 s.1), .s (bo s.2.1), .s (i6 s.2.2.1), .s (slR s.2.2.2)]), (2, AObj.row [.s (i6 0), .s (bo false), .s (i6 0), .s (SC.nilsl)]), (3, AObj.row [.s (i6 s.1), .s (bo s.2.1), .s (i6 s.2.2.1), .own 19]), (19, AObj.grow 77 3 RowV (0, false, false) rowR [])]) (ent_proj [1, 2, 3, 4] [1, 2, 3, 19]) ?_
  refine AMx.ent (s' := AS.lst 30 [(1, vp 1 0), (2, vp 2 0), (3, vp 3 0), (4, vc (i6 0))] [(1, AObj.row [.s (i6 s.1), .s (bo s.2.1), .s (i6 s.2.2.1), .s (slR s.2.2.2)]), (2, AObj.row [.s (i6 0), .s (bo false), .s (i6 0), .s (SC.nilsl)]), (3, AObj.row [.s (i6 s.1), .s (bo s.2.1), .s (i6 s.2.2.1), .own 19]), (19, AObj.grow 77 3 RowV (0, false, false) rowR [])]) (ent_proj [1, 2, 3, 4] [1, 2, 3, 19]) ?_
  refine AMx.loop (fun mm ss => ∃ (i : Nat), (i ≤ s.2.2.2.length) ∧ mm = s.2.2.2.length - i ∧ ss = AS.lst 30 [(1, vp 1 0), (2, vp 2 0), (3, vp 3 0), (4, vc (i6 (i : Int)))] [(1, AObj.row [.s (i6 s.1), .s (bo s.2.1), .s (i6 s.2.2.1), .s (slR s.2.2.2)]), (2, AObj.row [.s (i6 0), .s (bo false), .s (i6 0), .s (SC.nilsl)]), (3, AObj.row [.s (i6 s.1), .s (bo s.2.1), .s (i6 s.2.2.1), .own 19]), (19, AObj.grow 77 3 RowV (0, false, false) rowR (List.take i s.2.2.2))]) ⟨0, ?_, rfl, ?_⟩ ?_
  · omega
  · rfl
  rintro mm ss ⟨i, hI, rfl, rfl⟩
  refine AMx.seq ?_
  refine AMx.seq ?_
  refine AMx.region (ces := []) (ks := [1, 2, 3, 4, 16]) (hs := [1, 2, 3, 19]) (cs := []) (s' := AS.lst 30 [(1, vp 1 0), (2, vp 2 0), (3, vp 3 0), (4, vc (i6 (i : Int))), (16, vc (bo (decide ((i : Int) < (List.length s.2.2.2 : Int)))))] [(1, AObj.row [.s (i6 s.1), .s (bo s.2.1), .s (i6 s.2.2.1), .s (slR s.2.2.2)]), (2, AObj.row [.s (i6 0), .s (bo false), .s (i6 0), .s (SC.nilsl)]), (3, AObj.row [.s (i6 s.1), .s (bo s.2.1), .s (i6 s.2.2.1), .own 19]), (19, AObj.grow 77 3 RowV (0, false, false) rowR (List.take i s.2.2.2))]) (by kernel_rfl) ?_ ?_
  · exact trivial
  refine AMx.cond (b := decide ((i : Int) < (List.length s.2.2.2 : Int))) (by kernel_rfl) (fun hc1 => ?_) (fun hc1 => ?_)
  · try simp only [decide_eq_true_eq, decide_eq_false_iff_not] at hc1
    refine AMx.skip ?_
    refine AMx.seq ?_
    refine AMx.block ?_
    refine AMx.region_draw (ces := [(7, CE.obj (AObj.grow 77 3 RowV (0, false, false) rowR [(List.getD s.2.2.2 i (0, false, false))])), (8, CE.obj (AObj.grow 77 3 RowV (0, false, false) rowR ((List.take i s.2.2.2) ++ [(List.getD s.2.2.2 i (0, false, false))])))]) (ros := [(1, [3]), (3, [1]), (8, [19, 26]), (10, [3])]) (ks := [1, 2, 3, 4]) (hs := [1, 2, 3, 27]) (cs := [(0 : Int) ≤ (i : Int), (i : Int) < List.length s.2.2.2, flat 3 rowR [(List.getD s.2.2.2 i (0, false, false))] = [.s (i6 ((List.getD s.2.2.2 i (0, false, false)).1)), .s (bo ((List.getD s.2.2.2 i (0, false, false)).2.1)), .s (bo ((List.getD s.2.2.2 i (0, false, false)).2.2))], List.length ([(List.getD s.2.2.2 i (0, false, false))] : List RowV) = 1, AppC (flat 3 rowR [(List.getD s.2.2.2 i (0, false, false))]) (List.length ([(List.getD s.2.2.2 i (0, false, false))] : List RowV)) 16 (AObj.grow 77 3 RowV (0, false, false) rowR (List.take i s.2.2.2)) (AObj.grow 77 3 RowV (0, false, false) rowR ((List.take i s.2.2.2) ++ [(List.getD s.2.2.2 i (0, false, false))]))]) (s' := AS.lst 30 [(1, vp 1 0), (2, vp 2 0), (3, vp 3 0), (4, vc (i6 (i : Int)))] [(1, AObj.row [.s (i6 s.1), .s (bo s.2.1), .s (i6 s.2.2.1), .s (slR s.2.2.2)]), (2, AObj.row [.s (i6 0), .s (bo false), .s (i6 0), .s (SC.nilsl)]), (3, AObj.row [.s (i6 s.1), .s (bo s.2.1), .s (i6 s.2.2.1), .own 27]), (27, AObj.grow 77 3 RowV (0, false, false) rowR ((List.take i s.2.2.2) ++ [(List.getD s.2.2.2 i (0, false, false))]))]) mixed (by kernel_rfl) ?_ ?_
    · exact ⟨(show (0 : Int) ≤ (i : Int) from (by omega)), (show (i : Int) < List.length s.2.2.2 from (by omega)), rfl, rfl, (⟨_, rfl, rfl, rfl, by simp only [List.length_take, List.length_cons, List.length_nil]; omega, by simp only [maxLen, List.length_take, List.length_cons, List.length_nil]; omega⟩)⟩
    refine AMx.blk ?_
    refine AMx.region (ces := []) (ks := [1, 2, 3, 4]) (hs := [1, 2, 3, 27]) (cs := [InR .i64 ((i : Int) + 1)]) (s' := AS.lst 30 [(1, vp 1 0), (2, vp 2 0), (3, vp 3 0), (4, vc (i6 ((i : Int) + 1)))] [(1, AObj.row [.s (i6 s.1), .s (bo s.2.1), .s (i6 s.2.2.1), .s (slR s.2.2.2)]), (2, AObj.row [.s (i6 0), .s (bo false), .s (i6 0), .s (SC.nilsl)]), (3, AObj.row [.s (i6 s.1), .s (bo s.2.1), .s (i6 s.2.2.1), .own 27]), (27, AObj.grow 77 3 RowV (0, false, false) rowR ((List.take i s.2.2.2) ++ [(List.getD s.2.2.2 i (0, false, false))]))]) (by kernel_rfl) ?_ ?_
    · exact (show InR .i64 ((i : Int) + 1) from (inR64 (by omega) (by omega)))
    refine AMx.ent_inv (s' := AS.lst 30 [(1, vp 1 0), (2, vp 2 0), (3, vp 3 0), (4, vc (i6 ((i : Int) + 1)))] [(1, AObj.row [.s (i6 s.1), .s (bo s.2.1), .s (i6 s.2.2.1), .s (slR s.2.2.2)]), (2, AObj.row [.s (i6 0), .s (bo false), .s (i6 0), .s (SC.nilsl)]), (3, AObj.row [.s (i6 s.1), .s (bo s.2.1), .s (i6 s.2.2.1), .own 19]), (19, AObj.grow 77 3 RowV (0, false, false) rowR ((List.take i s.2.2.2) ++ [(List.getD s.2.2.2 i (0, false, false))]))]) (ent_swap 27 19 (by kernel_rfl) (by kernel_rfl)) ?_
    refine AMx.ent_inv (s' := AS.lst 30 [(1, vp 1 0), (2, vp 2 0), (3, vp 3 0), (4, vc (i6 ((i : Int) + 1)))] [(1, AObj.row [.s (i6 s.1), .s (bo s.2.1), .s (i6 s.2.2.1), .s (slR s.2.2.2)]), (2, AObj.row [.s (i6 0), .s (bo false), .s (i6 0), .s (SC.nilsl)]), (3, AObj.row [.s (i6 s.1), .s (bo s.2.1), .s (i6 s.2.2.1), .own 19]), (19, AObj.grow 77 3 RowV (0, false, false) rowR ((List.take i s.2.2.2) ++ [(List.getD s.2.2.2 i (0, false, false))]))]) (ent_proj [1, 2, 3, 4] [1, 2, 3, 19]) ?_
    refine AMx.inv ⟨_, ?_, i + 1, ?_, rfl, ?_⟩
    rotate_left
    · omega
    · rw [Lib.take_succ (0, false, false) s.2.2.2 i (by omega)]; rfl
    · omega
  · try simp only [decide_eq_true_eq, decide_eq_false_iff_not] at hc1
    refine AMx.exit ?_
    refine AMx.code_exit ?_
    refine AMx.inv_exit ?_
    refine AMx.blk_exit ?_
    refine AMx.seq ?_
    refine AMx.region (ces := []) (ks := [2]) (hs := [2, 19]) (cs := []) (s' := AS.lst 30 [(2, vp 2 0)] [(2, AObj.row [.s (i6 s.1), .s (bo s.2.1), .s (i6 s.2.2.1), .own 19]), (19, AObj.grow 77 3 RowV (0, false, false) rowR (List.take i s.2.2.2))]) (by kernel_rfl) ?_ ?_
    · exact trivial
    refine AMx.ent (s' := AS.lst 30 [(2, vp 2 0)] [(2, AObj.row [.s (i6 s.1), .s (bo s.2.1), .s (i6 s.2.2.1), .s (slR (List.take i s.2.2.2))])]) (ent_freeze (id := 19) (T := 77) (by kernel_rfl)) ?_
    refine AMx.ret ?_
    exact RetP.mk (r := AV.t (TV.agg [.s (i6 s.1), .s (bo s.2.1), .s (i6 s.2.2.1), .s (slR (List.take i s.2.2.2))])) (by kernel_rfl) (by rw [List.take_of_length_le (by omega)])

end AL.Secret
