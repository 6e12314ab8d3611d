/- policy: the contracts of its functions, by their walks. No condition. -/
import Derived.Test.YtkpgnlcjolmdlaaDoorPolicyL
namespace AL.Policy
open Go Go.Proofs AL AL.Rune
set_option linter.unusedVariables false
set_option linter.unusedSimpArgs false

theorem f6_body : Tryd.f6.body = some (.seq (.region 0 (rg Tryd.f6 0) false) (.seq (.seq (.region 1 (rg Tryd.f6 1) false) (.cond (.tmp 31) (.seq (.region 2 (rg Tryd.f6 2) false) (.ret)) (.skip))) (.seq (.region 3 (rg Tryd.f6 3) false) (.seq (.region 4 (rg Tryd.f6 4) false) (.seq (.region 5 (rg Tryd.f6 5) false) (.seq (.seq (.region 6 (rg Tryd.f6 6) false) (.cond (.tmp 48) (.seq (.region 7 (rg Tryd.f6 7) false) (.seq (.region 8 (rg Tryd.f6 8) false) (.cond (.tmp 74) (.seq (.region 9 (rg Tryd.f6 9) false) (.ret)) (.skip)))) (.skip))) (.seq (.seq (.region 10 (rg Tryd.f6 10) false) (.seq (.region 11 (rg Tryd.f6 11) false) (.cond (.tmp 81) (.seq (.region 12 (rg Tryd.f6 12) false) (.seq (.region 13 (rg Tryd.f6 13) false) (.cond (.tmp 98) (.seq (.region 14 (rg Tryd.f6 14) false) (.ret)) (.skip)))) (.skip)))) (.seq (.region 15 (rg Tryd.f6 15) false) (.ret))))))))) := by kernel_rfl

set_option maxRecDepth 100000 in
set_option maxHeartbeats 8000000 in
theorem PolicyBack_c (l k : List RuleV) (s : Bytes) : Pure Tryd.prog 6 [tc (slP l), tc (slP k), tc (st s)] (vc (bo true)) := by
  refine Pure.of_body Tryd.func6 f6_body (by kernel_rfl) Tryd.ntmps6 (by kernel_rfl) (by kernel_rfl) ?_
  refine AMx.slint 0 1 (f := fun x : RuleV => x.2) rfl (by decide) (fun _ => rfl) (fun hn => ?_)
  have hn0 : ∀ x ∈ l, 0 ≤ x.2 := fun x hx => (inR8_iff.1 (hn x hx)).1
  refine AMx.slint 1 1 (f := fun x : RuleV => x.2) rfl (by decide) (fun _ => rfl) (fun hk => ?_)
  have hk0 : ∀ x ∈ k, 0 ≤ x.2 := fun x hx => (inR8_iff.1 (hk x hx)).1
  have hpl := parse_len s
  have htl := textP_len l
  refine AMx.seq ?_
  refine AMx.region (ces := []) (ks := [0, 1, 2]) (hs := []) (cs := []) (s' := AS.lst 100 [(0, vc (slP l)), (1, vc (slP k)), (2, vc (st s))] []) (by kernel_rfl) ?_ ?_
  · exact trivial
  refine AMx.seq ?_
  refine AMx.seq ?_
  refine AMx.region (ces := [(1, CE.call [] [] (vc (i6 (overP l))) []), (5, CE.call [] [] (vc (i6 (overP k))) [])]) (ks := [0, 1, 2, 31]) (hs := []) (cs := [Spec Tryd.prog 8 [tc (slP l)] (ofH []) (vc (i6 (overP l))) (ofH []), ((decide (0 < overP l)) = false) → allP [], ((decide (0 < overP l)) = false) → allP [(decide (0 < overP l)) = false, Spec Tryd.prog 8 [tc (slP k)] (ofH []) (vc (i6 (overP k))) (ofH [])], ((decide (0 < overP l)) = false) → allP [(decide (0 < overP l)) = false], (decide (0 < overP l)) = false → allP [(decide (0 < overP l)) = false], (((decide (0 < overP l)) || (decide (0 < overP k))) = false) → allP [], (((decide (0 < overP l)) || (decide (0 < overP k))) = false) → allP [((decide (0 < overP l)) || (decide (0 < overP k))) = false], (((decide (0 < overP l)) || (decide (0 < overP k))) = false) → allP [((decide (0 < overP l)) || (decide (0 < overP k))) = false], ((decide (0 < overP l)) || (decide (0 < overP k))) = false → allP [((decide (0 < overP l)) || (decide (0 < overP k))) = false]]) (s' := AS.lst 100 [(0, vc (slP l)), (1, vc (slP k)), (2, vc (st s)), (31, vc (bo (((decide (0 < overP l)) || (decide (0 < overP k))) || (decide (300 < (List.length s : Int))))))] []) (by kernel_rfl) ?_ ?_
  · exact ⟨(Over_c l), (fun _ => trivial), (fun hp => by have hq := hp; (try simp only [decide_eq_true_eq, decide_eq_false_iff_not, Bool.and_eq_true, Bool.or_eq_true, Bool.and_eq_false_iff, Bool.or_eq_false_iff, Bool.not_eq_true', Bool.not_eq_false', Bool.not_eq_true, Bool.not_eq_false] at hq); exact ⟨hp, (Over_c k)⟩), (fun hp => hp), (fun hp2 => (by first | exact hp2 | exact ⟨hp, hp2⟩)), (fun _ => trivial), (fun hp => hp), (fun hp => hp), (fun hp2 => (by first | exact hp2 | exact ⟨hp, hp2⟩))⟩
  refine AMx.cond (b := (((decide (0 < overP l)) || (decide (0 < overP k))) || (decide (300 < (List.length s : Int))))) (by kernel_rfl) (fun hc1 => ?_) (fun hc1 => ?_)
  · try simp only [decide_eq_true_eq, decide_eq_false_iff_not, Bool.or_eq_true, Bool.or_eq_false_iff] at hc1
    refine AMx.seq ?_
    refine AMx.region (ces := [(0, CE.call [] [] (vc (bo true)) [])]) (ks := [6]) (hs := []) (cs := [Spec Tryd.prog 9 [] (ofH []) (vc (bo true)) (ofH [])]) (s' := AS.lst 100 [(6, vc (bo true))] []) (by kernel_rfl) ?_ ?_
    · exact (awake_c)
    refine AMx.ret ?_
    exact RetP.mk (r := vc (bo true)) (by kernel_rfl) rfl
  · try simp only [decide_eq_true_eq, decide_eq_false_iff_not, Bool.or_eq_true, Bool.or_eq_false_iff] at hc1
    refine AMx.skip ?_
    refine AMx.seq ?_
    refine AMx.region (ces := [(1, CE.call [] [] (vc (slP l)) []), (3, CE.call [] [] (vc (slP k)) [])]) (ks := [2, 7, 8]) (hs := []) (cs := [Spec Tryd.prog 10 [tc (slP l)] (ofH []) (vc (slP l)) (ofH []), Spec Tryd.prog 10 [tc (slP k)] (ofH []) (vc (slP k)) (ofH [])]) (s' := AS.lst 100 [(2, vc (st s)), (7, vc (slP l)), (8, vc (slP k))] []) (by kernel_rfl) ?_ ?_
    · exact ⟨(Own_c l (by first | omega | (have q := (over_ok (l := l) (by omega)).1; omega) | (have q := (over_ok (l := k) (by omega)).1; omega))), (Own_c k (by first | omega | (have q := (over_ok (l := l) (by omega)).1; omega) | (have q := (over_ok (l := k) (by omega)).1; omega)))⟩
    refine AMx.seq ?_
    refine AMx.region (ces := [(1, CE.call [] [] (AV.tup [tc (st ((textP l).1)), tc (i6 ((textP l).2))]) [])]) (ks := [2, 7, 8, 9, 10]) (hs := []) (cs := [Spec Tryd.prog 19 [tc (slP l)] (ofH []) (AV.tup [tc (st ((textP l).1)), tc (i6 ((textP l).2))]) (ofH [])]) (s' := AS.lst 100 [(2, vc (st s)), (7, vc (slP l)), (8, vc (slP k)), (9, vc (st ((textP l).1))), (10, vc (i6 ((textP l).2)))] []) (by kernel_rfl) ?_ ?_
    · exact (Text_c l)
    refine AMx.seq ?_
    refine AMx.region (ces := [(1, CE.call [] [] (AV.tup [tc (st ((textP k).1)), tc (i6 ((textP k).2))]) [])]) (ks := [2, 7, 8, 9, 10, 11, 12]) (hs := []) (cs := [Spec Tryd.prog 19 [tc (slP k)] (ofH []) (AV.tup [tc (st ((textP k).1)), tc (i6 ((textP k).2))]) (ofH [])]) (s' := AS.lst 100 [(2, vc (st s)), (7, vc (slP l)), (8, vc (slP k)), (9, vc (st ((textP l).1))), (10, vc (i6 ((textP l).2))), (11, vc (st ((textP k).1))), (12, vc (i6 ((textP k).2)))] []) (by kernel_rfl) ?_ ?_
    · exact (Text_c k)
    refine AMx.seq ?_
    refine AMx.seq ?_
    refine AMx.region (ces := []) (ks := [2, 7, 8, 9, 11, 12, 48]) (hs := []) (cs := []) (s' := AS.lst 100 [(2, vc (st s)), (7, vc (slP l)), (8, vc (slP k)), (9, vc (st ((textP l).1))), (11, vc (st ((textP k).1))), (12, vc (i6 ((textP k).2))), (48, vc (bo (decide ((textP l).2 = 0))))] []) (by kernel_rfl) ?_ ?_
    · exact trivial
    refine AMx.cond (b := decide ((textP l).2 = 0)) (by kernel_rfl) (fun hc2 => ?_) (fun hc2 => ?_)
    · try simp only [decide_eq_true_eq, decide_eq_false_iff_not] at hc2
      refine AMx.seq ?_
      refine AMx.region (ces := [(1, CE.call [] [] (AV.tup [tc (slP ((parseP ((textP l).1)).1)), tc (i6 ((parseP ((textP l).1)).2))]) [])]) (ks := [2, 7, 8, 9, 11, 12, 13, 14]) (hs := []) (cs := [Spec Tryd.prog 21 [tc (st ((textP l).1))] (ofH []) (AV.tup [tc (slP ((parseP ((textP l).1)).1)), tc (i6 ((parseP ((textP l).1)).2))]) (ofH [])]) (s' := AS.lst 100 [(2, vc (st s)), (7, vc (slP l)), (8, vc (slP k)), (9, vc (st ((textP l).1))), (11, vc (st ((textP k).1))), (12, vc (i6 ((textP k).2))), (13, vc (slP ((parseP ((textP l).1)).1))), (14, vc (i6 ((parseP ((textP l).1)).2)))] []) (by kernel_rfl) ?_ ?_
      · exact (Parse_c ((textP l).1) (by first | omega | (have q := (over_ok (l := l) (by omega)).1; omega) | (have q := (over_ok (l := k) (by omega)).1; omega)))
      rw [show (parseP ((textP l).1)).1 = l from by rw [parse_textP hc2 hn0]]
      rw [show (parseP ((textP l).1)).2 = 0 from by rw [parse_textP hc2 hn0]]
      refine AMx.seq ?_
      refine AMx.region (ces := [(5, CE.call [] [] (vc (bo (decide (l = l)))) []), (17, CE.call [] [] (vc (bo (decide (l = k)))) [])]) (ks := [2, 74]) (hs := []) (cs := [(false = false) → allP [], (false = false) → allP [], (false = false) → allP [false = false, false = false, Spec Tryd.prog 17 [tc (slP l), tc (slP l)] (ofH []) (vc (bo (decide (l = l)))) (ofH [])], (false = false) → allP [false = false], false = false → allP [false = false], ((false || (!(decide (l = l)))) = false) → allP [], ((false || (!(decide (l = l)))) = false) → allP [(false || (!(decide (l = l)))) = false], ((false || (!(decide (l = l)))) = false) → allP [(false || (!(decide (l = l)))) = false], (((false || (!(decide (l = l)))) = false) ∧ (decide ((textP k).2 = 0)) = true) → allP [], (((false || (!(decide (l = l)))) = false) ∧ (decide ((textP k).2 = 0)) = true) → allP [], (((false || (!(decide (l = l)))) = false) ∧ (decide ((textP k).2 = 0)) = true) → allP [((false || (!(decide (l = l)))) = false) ∧ (decide ((textP k).2 = 0)) = true, ((false || (!(decide (l = l)))) = false) ∧ (decide ((textP k).2 = 0)) = true], (((false || (!(decide (l = l)))) = false) ∧ (decide ((textP k).2 = 0)) = true) → allP [], (((false || (!(decide (l = l)))) = false) ∧ (decide ((textP k).2 = 0)) = true) → allP [], (((false || (!(decide (l = l)))) = false) ∧ (decide ((textP k).2 = 0)) = true) → allP [((false || (!(decide (l = l)))) = false) ∧ (decide ((textP k).2 = 0)) = true, ((false || (!(decide (l = l)))) = false) ∧ (decide ((textP k).2 = 0)) = true, Spec Tryd.prog 17 [tc (slP l), tc (slP k)] (ofH []) (vc (bo (decide (l = k)))) (ofH [])], (((false || (!(decide (l = l)))) = false) ∧ (decide ((textP k).2 = 0)) = true) → allP [((false || (!(decide (l = l)))) = false) ∧ (decide ((textP k).2 = 0)) = true, ((false || (!(decide (l = l)))) = false) ∧ (decide ((textP k).2 = 0)) = true], ((false || (!(decide (l = l)))) = false) → allP [(false || (!(decide (l = l)))) = false, (decide ((textP k).2 = 0)) = true → allP [((false || (!(decide (l = l)))) = false) ∧ (decide ((textP k).2 = 0)) = true]], (false || (!(decide (l = l)))) = false → allP [(false || (!(decide (l = l)))) = false]]) (s' := AS.lst 100 [(2, vc (st s)), (74, vc (bo ((false || (!(decide (l = l)))) || ((decide ((textP k).2 = 0)) && (!((decide ((textP l).1 = (textP k).1)) == (decide (l = k))))))))] []) (by kernel_rfl) ?_ ?_
      · exact ⟨(fun _ => trivial), (fun _ => trivial), (fun hp => by have hq := hp; (try simp only [decide_eq_true_eq, decide_eq_false_iff_not, Bool.and_eq_true, Bool.or_eq_true, Bool.and_eq_false_iff, Bool.or_eq_false_iff, Bool.not_eq_true', Bool.not_eq_false', Bool.not_eq_true, Bool.not_eq_false] at hq); exact ⟨hp, hp, (Same_c l l)⟩), (fun hp => hp), (fun hp2 => (by first | exact hp2 | exact ⟨hp, hp2⟩)), (fun _ => trivial), (fun hp => hp), (fun hp => hp), (fun _ => trivial), (fun _ => trivial), (fun hp => ⟨hp, hp⟩), (fun _ => trivial), (fun _ => trivial), (fun hp => by have hq := hp; (try simp only [decide_eq_true_eq, decide_eq_false_iff_not, Bool.and_eq_true, Bool.or_eq_true, Bool.and_eq_false_iff, Bool.or_eq_false_iff, Bool.not_eq_true', Bool.not_eq_false', Bool.not_eq_true, Bool.not_eq_false] at hq); exact ⟨hp, hp, (Same_c l k)⟩), (fun hp => ⟨hp, hp⟩), (fun hp => by have hq := hp; (try simp only [decide_eq_true_eq, decide_eq_false_iff_not, Bool.and_eq_true, Bool.or_eq_true, Bool.and_eq_false_iff, Bool.or_eq_false_iff, Bool.not_eq_true', Bool.not_eq_false', Bool.not_eq_true, Bool.not_eq_false] at hq); exact ⟨hp, (fun hp2 => (by first | exact hp2 | exact ⟨hp, hp2⟩))⟩), (fun hp2 => (by first | exact hp2 | exact ⟨hp, hp2⟩))⟩
      refine AMx.cond (b := ((false || (!(decide (l = l)))) || ((decide ((textP k).2 = 0)) && (!((decide ((textP l).1 = (textP k).1)) == (decide (l = k))))))) (by kernel_rfl) (fun hc3 => ?_) (fun hc3 => ?_)
      · try simp only [decide_eq_true_eq, decide_eq_false_iff_not, Bool.and_eq_true, Bool.and_eq_false_iff, Bool.or_eq_true, Bool.or_eq_false_iff, Bool.not_eq_true', Bool.not_eq_false'] at hc3
        refine AMx.seq ?_
        refine AMx.region (ces := []) (ks := [6]) (hs := []) (cs := []) (s' := AS.lst 100 [(6, vc (bo false))] []) (by kernel_rfl) ?_ ?_
        · exact trivial
        refine AMx.ret ?_
        exact RetP.mk (r := vc (bo false)) (by kernel_rfl) (by exfalso; have hz := hc3; first | (have q := fun h => text_injP (a := l) (b := k) hc2 h hn0 hk0; simp at hz; obtain ⟨h1, h2⟩ := hz; have q := q h1; simp [q] at h2; done) | (have q := (text_parse (s := s) (by assumption)).2.1; simp [q] at hz))
      · try simp only [decide_eq_true_eq, decide_eq_false_iff_not, Bool.and_eq_true, Bool.and_eq_false_iff, Bool.or_eq_true, Bool.or_eq_false_iff, Bool.not_eq_true', Bool.not_eq_false'] at hc3
        refine AMx.skip ?_
        refine AMx.seq ?_
        refine AMx.seq ?_
        refine AMx.region (ces := [(1, CE.call [] [] (AV.tup [tc (slP ((parseP s).1)), tc (i6 ((parseP s).2))]) [])]) (ks := [2, 15, 16]) (hs := []) (cs := [Spec Tryd.prog 21 [tc (st s)] (ofH []) (AV.tup [tc (slP ((parseP s).1)), tc (i6 ((parseP s).2))]) (ofH [])]) (s' := AS.lst 100 [(2, vc (st s)), (15, vc (slP ((parseP s).1))), (16, vc (i6 ((parseP s).2)))] []) (by kernel_rfl) ?_ ?_
        · exact (Parse_c s (by first | omega | (have q := (over_ok (l := l) (by omega)).1; omega) | (have q := (over_ok (l := k) (by omega)).1; omega)))
        refine AMx.seq ?_
        refine AMx.region (ces := []) (ks := [2, 15, 81]) (hs := []) (cs := []) (s' := AS.lst 100 [(2, vc (st s)), (15, vc (slP ((parseP s).1))), (81, vc (bo (decide ((parseP s).2 = 0))))] []) (by kernel_rfl) ?_ ?_
        · exact trivial
        refine AMx.cond (b := decide ((parseP s).2 = 0)) (by kernel_rfl) (fun hc4 => ?_) (fun hc4 => ?_)
        · try simp only [decide_eq_true_eq, decide_eq_false_iff_not] at hc4
          refine AMx.seq ?_
          refine AMx.region (ces := [(1, CE.call [] [] (AV.tup [tc (st ((textP ((parseP s).1)).1)), tc (i6 ((textP ((parseP s).1)).2))]) [])]) (ks := [2, 15, 17, 18]) (hs := []) (cs := [Spec Tryd.prog 19 [tc (slP ((parseP s).1))] (ofH []) (AV.tup [tc (st ((textP ((parseP s).1)).1)), tc (i6 ((textP ((parseP s).1)).2))]) (ofH [])]) (s' := AS.lst 100 [(2, vc (st s)), (15, vc (slP ((parseP s).1))), (17, vc (st ((textP ((parseP s).1)).1))), (18, vc (i6 ((textP ((parseP s).1)).2)))] []) (by kernel_rfl) ?_ ?_
          · exact (Text_c ((parseP s).1))
          rw [show (textP ((parseP s).1)).1 = s from by rw [(text_parse (by assumption)).1]]
          rw [show (textP ((parseP s).1)).2 = 0 from by rw [(text_parse (by assumption)).1]]
          refine AMx.seq ?_
          refine AMx.region (ces := [(9, CE.call [] [] (vc (i6 (checkP ((parseP s).1)))) [])]) (ks := [98]) (hs := []) (cs := [(false = false) → allP [], (false = false) → allP [], (false = false) → allP [false = false, false = false], false = false → allP [false = false], ((false || (!decide (s = s))) = false) → allP [], ((false || (!decide (s = s))) = false) → allP [(false || (!decide (s = s))) = false, Spec Tryd.prog 11 [tc (slP ((parseP s).1))] (ofH []) (vc (i6 (checkP ((parseP s).1)))) (ofH [])], ((false || (!decide (s = s))) = false) → allP [(false || (!decide (s = s))) = false], (false || (!decide (s = s))) = false → allP [(false || (!decide (s = s))) = false]]) (s' := AS.lst 100 [(98, vc (bo ((false || (!decide (s = s))) || (!decide (checkP ((parseP s).1) = 0)))))] []) (by kernel_rfl) ?_ ?_
          · exact ⟨(fun _ => trivial), (fun _ => trivial), (fun hp => ⟨hp, hp⟩), (fun hp2 => (by first | exact hp2 | exact ⟨hp, hp2⟩)), (fun _ => trivial), (fun hp => by have hq := hp; (try simp only [decide_eq_true_eq, decide_eq_false_iff_not, Bool.and_eq_true, Bool.or_eq_true, Bool.and_eq_false_iff, Bool.or_eq_false_iff, Bool.not_eq_true', Bool.not_eq_false', Bool.not_eq_true, Bool.not_eq_false] at hq); exact ⟨hp, (Check_c ((parseP s).1))⟩), (fun hp => hp), (fun hp2 => (by first | exact hp2 | exact ⟨hp, hp2⟩))⟩
          refine AMx.cond (b := ((false || (!decide (s = s))) || (!decide (checkP ((parseP s).1) = 0)))) (by kernel_rfl) (fun hc5 => ?_) (fun hc5 => ?_)
          · try simp only [decide_eq_true_eq, decide_eq_false_iff_not, Bool.or_eq_true, Bool.or_eq_false_iff, Bool.not_eq_true', Bool.not_eq_false'] at hc5
            refine AMx.seq ?_
            refine AMx.region (ces := []) (ks := [6]) (hs := []) (cs := []) (s' := AS.lst 100 [(6, vc (bo false))] []) (by kernel_rfl) ?_ ?_
            · exact trivial
            refine AMx.ret ?_
            exact RetP.mk (r := vc (bo false)) (by kernel_rfl) (by exfalso; have hz := hc5; first | (have q := fun h => text_injP (a := l) (b := k) hc2 h hn0 hk0; simp at hz; obtain ⟨h1, h2⟩ := hz; have q := q h1; simp [q] at h2; done) | (have q := (text_parse (s := s) (by assumption)).2.1; simp [q] at hz))
          · try simp only [decide_eq_true_eq, decide_eq_false_iff_not, Bool.or_eq_true, Bool.or_eq_false_iff, Bool.not_eq_true', Bool.not_eq_false'] at hc5
            refine AMx.skip ?_
            refine AMx.seq ?_
            refine AMx.region (ces := [(0, CE.call [] [] (vc (bo true)) [])]) (ks := [6]) (hs := []) (cs := [Spec Tryd.prog 9 [] (ofH []) (vc (bo true)) (ofH [])]) (s' := AS.lst 100 [(6, vc (bo true))] []) (by kernel_rfl) ?_ ?_
            · exact (awake_c)
            refine AMx.ret ?_
            exact RetP.mk (r := vc (bo true)) (by kernel_rfl) rfl
        · try simp only [decide_eq_true_eq, decide_eq_false_iff_not] at hc4
          refine AMx.skip ?_
          refine AMx.seq ?_
          refine AMx.region (ces := [(0, CE.call [] [] (vc (bo true)) [])]) (ks := [6]) (hs := []) (cs := [Spec Tryd.prog 9 [] (ofH []) (vc (bo true)) (ofH [])]) (s' := AS.lst 100 [(6, vc (bo true))] []) (by kernel_rfl) ?_ ?_
          · exact (awake_c)
          refine AMx.ret ?_
          exact RetP.mk (r := vc (bo true)) (by kernel_rfl) rfl
    · try simp only [decide_eq_true_eq, decide_eq_false_iff_not] at hc2
      refine AMx.skip ?_
      refine AMx.seq ?_
      refine AMx.seq ?_
      refine AMx.region (ces := [(1, CE.call [] [] (AV.tup [tc (slP ((parseP s).1)), tc (i6 ((parseP s).2))]) [])]) (ks := [2, 15, 16]) (hs := []) (cs := [Spec Tryd.prog 21 [tc (st s)] (ofH []) (AV.tup [tc (slP ((parseP s).1)), tc (i6 ((parseP s).2))]) (ofH [])]) (s' := AS.lst 100 [(2, vc (st s)), (15, vc (slP ((parseP s).1))), (16, vc (i6 ((parseP s).2)))] []) (by kernel_rfl) ?_ ?_
      · exact (Parse_c s (by first | omega | (have q := (over_ok (l := l) (by omega)).1; omega) | (have q := (over_ok (l := k) (by omega)).1; omega)))
      refine AMx.seq ?_
      refine AMx.region (ces := []) (ks := [2, 15, 81]) (hs := []) (cs := []) (s' := AS.lst 100 [(2, vc (st s)), (15, vc (slP ((parseP s).1))), (81, vc (bo (decide ((parseP s).2 = 0))))] []) (by kernel_rfl) ?_ ?_
      · exact trivial
      refine AMx.cond (b := decide ((parseP s).2 = 0)) (by kernel_rfl) (fun hc6 => ?_) (fun hc6 => ?_)
      · try simp only [decide_eq_true_eq, decide_eq_false_iff_not] at hc6
        refine AMx.seq ?_
        refine AMx.region (ces := [(1, CE.call [] [] (AV.tup [tc (st ((textP ((parseP s).1)).1)), tc (i6 ((textP ((parseP s).1)).2))]) [])]) (ks := [2, 15, 17, 18]) (hs := []) (cs := [Spec Tryd.prog 19 [tc (slP ((parseP s).1))] (ofH []) (AV.tup [tc (st ((textP ((parseP s).1)).1)), tc (i6 ((textP ((parseP s).1)).2))]) (ofH [])]) (s' := AS.lst 100 [(2, vc (st s)), (15, vc (slP ((parseP s).1))), (17, vc (st ((textP ((parseP s).1)).1))), (18, vc (i6 ((textP ((parseP s).1)).2)))] []) (by kernel_rfl) ?_ ?_
        · exact (Text_c ((parseP s).1))
        rw [show (textP ((parseP s).1)).1 = s from by rw [(text_parse (by assumption)).1]]
        rw [show (textP ((parseP s).1)).2 = 0 from by rw [(text_parse (by assumption)).1]]
        refine AMx.seq ?_
        refine AMx.region (ces := [(9, CE.call [] [] (vc (i6 (checkP ((parseP s).1)))) [])]) (ks := [98]) (hs := []) (cs := [(false = false) → allP [], (false = false) → allP [], (false = false) → allP [false = false, false = false], false = false → allP [false = false], ((false || (!decide (s = s))) = false) → allP [], ((false || (!decide (s = s))) = false) → allP [(false || (!decide (s = s))) = false, Spec Tryd.prog 11 [tc (slP ((parseP s).1))] (ofH []) (vc (i6 (checkP ((parseP s).1)))) (ofH [])], ((false || (!decide (s = s))) = false) → allP [(false || (!decide (s = s))) = false], (false || (!decide (s = s))) = false → allP [(false || (!decide (s = s))) = false]]) (s' := AS.lst 100 [(98, vc (bo ((false || (!decide (s = s))) || (!decide (checkP ((parseP s).1) = 0)))))] []) (by kernel_rfl) ?_ ?_
        · exact ⟨(fun _ => trivial), (fun _ => trivial), (fun hp => ⟨hp, hp⟩), (fun hp2 => (by first | exact hp2 | exact ⟨hp, hp2⟩)), (fun _ => trivial), (fun hp => by have hq := hp; (try simp only [decide_eq_true_eq, decide_eq_false_iff_not, Bool.and_eq_true, Bool.or_eq_true, Bool.and_eq_false_iff, Bool.or_eq_false_iff, Bool.not_eq_true', Bool.not_eq_false', Bool.not_eq_true, Bool.not_eq_false] at hq); exact ⟨hp, (Check_c ((parseP s).1))⟩), (fun hp => hp), (fun hp2 => (by first | exact hp2 | exact ⟨hp, hp2⟩))⟩
        refine AMx.cond (b := ((false || (!decide (s = s))) || (!decide (checkP ((parseP s).1) = 0)))) (by kernel_rfl) (fun hc7 => ?_) (fun hc7 => ?_)
        · try simp only [decide_eq_true_eq, decide_eq_false_iff_not, Bool.or_eq_true, Bool.or_eq_false_iff, Bool.not_eq_true', Bool.not_eq_false'] at hc7
          refine AMx.seq ?_
          refine AMx.region (ces := []) (ks := [6]) (hs := []) (cs := []) (s' := AS.lst 100 [(6, vc (bo false))] []) (by kernel_rfl) ?_ ?_
          · exact trivial
          refine AMx.ret ?_
          exact RetP.mk (r := vc (bo false)) (by kernel_rfl) (by exfalso; have hz := hc7; first | (have q := fun h => text_injP (a := l) (b := k) hc2 h hn0 hk0; simp at hz; obtain ⟨h1, h2⟩ := hz; have q := q h1; simp [q] at h2; done) | (have q := (text_parse (s := s) (by assumption)).2.1; simp [q] at hz))
        · try simp only [decide_eq_true_eq, decide_eq_false_iff_not, Bool.or_eq_true, Bool.or_eq_false_iff, Bool.not_eq_true', Bool.not_eq_false'] at hc7
          refine AMx.skip ?_
          refine AMx.seq ?_
          refine AMx.region (ces := [(0, CE.call [] [] (vc (bo true)) [])]) (ks := [6]) (hs := []) (cs := [Spec Tryd.prog 9 [] (ofH []) (vc (bo true)) (ofH [])]) (s' := AS.lst 100 [(6, vc (bo true))] []) (by kernel_rfl) ?_ ?_
          · exact (awake_c)
          refine AMx.ret ?_
          exact RetP.mk (r := vc (bo true)) (by kernel_rfl) rfl
      · try simp only [decide_eq_true_eq, decide_eq_false_iff_not] at hc6
        refine AMx.skip ?_
        refine AMx.seq ?_
        refine AMx.region (ces := [(0, CE.call [] [] (vc (bo true)) [])]) (ks := [6]) (hs := []) (cs := [Spec Tryd.prog 9 [] (ofH []) (vc (bo true)) (ofH [])]) (s' := AS.lst 100 [(6, vc (bo true))] []) (by kernel_rfl) ?_ ?_
        · exact (awake_c)
        refine AMx.ret ?_
        exact RetP.mk (r := vc (bo true)) (by kernel_rfl) rfl

end AL.Policy
