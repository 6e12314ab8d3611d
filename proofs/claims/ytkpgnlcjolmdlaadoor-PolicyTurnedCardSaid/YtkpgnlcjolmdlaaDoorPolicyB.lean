/- policy: the contracts of its functions, by their walks. No condition. -/
import Derived.Test.YtkpgnlcjolmdlaaDoorPolicyA
namespace AL.Policy
open Go Go.Proofs AL AL.Rune
set_option linter.unusedVariables false
set_option linter.unusedSimpArgs false

theorem f28_body : Tryd.f28.body = some (.seq (.region 0 (rg Tryd.f28 0) false) (.seq (.region 1 (rg Tryd.f28 1) false) (.seq (.seq (.region 2 (rg Tryd.f28 2) false) (.block 0 (.loop (.seq (.region 3 (rg Tryd.f28 3) false) (.seq (.cond (.tmp 12) (.skip) (.exit 0)) (.seq (.block 1 (.seq (.region 4 (rg Tryd.f28 4) false) (.region 5 (rg Tryd.f28 5) false))) (.region 6 (rg Tryd.f28 6) false))))))) (.seq (.region 7 (rg Tryd.f28 7) false) (.ret))))) := by kernel_rfl

set_option maxRecDepth 100000 in
set_option maxHeartbeats 8000000 in
theorem prefixes_c (l : List RuleV) (hl : l.length ≤ 100000) : Pure Tryd.prog 28 [tc (slP l)] (vc (AL.Fnv.slS (prefS l))) := by
  refine Pure.of_body Tryd.func28 f28_body (by kernel_rfl) Tryd.ntmps28 (by kernel_rfl) (by kernel_rfl) ?_
  refine AMx.seq ?_
  refine AMx.region (ces := []) (ks := [0]) (hs := []) (cs := []) (s' := AS.lst 23 [(0, vc (slP l))] []) (by kernel_rfl) ?_ ?_
  · exact trivial
  refine AMx.seq ?_
  refine AMx.region (ces := [(2, CE.obj (AObj.grow 9 1 Bytes [] AL.Fnv.rowS (List.replicate (List.length l) [])))]) (ks := [0, 3]) (hs := [8]) (cs := [0 ≤ (List.length l : Int), (List.length l : Int) ≤ (List.length l : Int), (16 : Int) * (List.length l : Int) ≤ 281474976710656, (List.length l : Int) ≤ 9223372036854775807, MakeC (List.length l) [.s (st [])] (AObj.grow 9 1 Bytes [] AL.Fnv.rowS (List.replicate (List.length l) []))]) (s' := AS.lst 23 [(0, vc (slP l)), (3, vo 8)] [(8, AObj.grow 9 1 Bytes [] AL.Fnv.rowS (List.replicate (List.length l) []))]) (by kernel_rfl) ?_ ?_
  · exact ⟨(show 0 ≤ (List.length l : Int) from (by first | omega | (simp only [List.length_append, List.length_replicate, pref_len, List.length_take]; omega))), (show (List.length l : Int) ≤ (List.length l : Int) from (by first | omega | (simp only [List.length_append, List.length_replicate, pref_len, List.length_take]; omega))), (show (16 : Int) * (List.length l : Int) ≤ 281474976710656 from (by first | omega | (simp only [List.length_append, List.length_replicate, pref_len, List.length_take]; omega))), (show (List.length l : Int) ≤ 9223372036854775807 from (by first | omega | (simp only [List.length_append, List.length_replicate, pref_len, List.length_take]; omega))), (⟨_, rfl, rfl⟩)⟩
  refine AMx.seq ?_
  refine AMx.seq ?_
  refine AMx.region (ces := []) (ks := [3, 9, 10, 11]) (hs := [8]) (cs := []) (s' := AS.lst 23 [(3, vo 8), (9, vc (slP l)), (10, vc (i6 (List.length l : Int))), (11, vc (i6 0))] [(8, AObj.grow 9 1 Bytes [] AL.Fnv.rowS (List.replicate (List.length l) []))]) (by kernel_rfl) ?_ ?_
  · exact trivial
  refine AMx.block ?_
  refine AMx.ent (s' := AS.lst 23 [(3, vo 8), (9, vc (slP l)), (10, vc (i6 (List.length l : Int))), (11, vc (i6 0))] [(8, AObj.grow 9 1 Bytes [] AL.Fnv.rowS (List.replicate (List.length l) []))]) (ent_proj [3, 9, 10, 11] [8]) ?_
  refine AMx.loop (fun mm ss => ∃ (k : Nat), (k ≤ l.length) ∧ mm = l.length - k ∧ ss = AS.lst 23 [(3, vo 8), (9, vc (slP l)), (10, vc (i6 (List.length l : Int))), (11, vc (i6 (k : Int)))] [(8, AObj.grow 9 1 Bytes [] AL.Fnv.rowS (prefS (List.take k l) ++ List.replicate (l.length - k) []))]) ⟨0, ?_, rfl, ?_⟩ ?_
  · omega
  · rfl
  rintro mm ss ⟨k, hI, rfl, rfl⟩
  refine AMx.seq ?_
  refine AMx.region (ces := []) (ks := [3, 9, 10, 11, 12]) (hs := [8]) (cs := []) (s' := AS.lst 23 [(3, vo 8), (9, vc (slP l)), (10, vc (i6 (List.length l : Int))), (11, vc (i6 (k : Int))), (12, vc (bo (decide ((k : Int) < (List.length l : Int)))))] [(8, AObj.grow 9 1 Bytes [] AL.Fnv.rowS (prefS (List.take k l) ++ List.replicate (l.length - k) []))]) (by kernel_rfl) ?_ ?_
  · exact trivial
  refine AMx.seq ?_
  refine AMx.cond (b := decide ((k : Int) < (List.length l : Int))) (by kernel_rfl) (fun hc1 => ?_) (fun hc1 => ?_)
  · try simp only [decide_eq_true_eq, decide_eq_false_iff_not] at hc1
    refine AMx.skip ?_
    refine AMx.seq ?_
    refine AMx.block ?_
    refine AMx.seq ?_
    refine AMx.region (ces := []) (ks := [3, 4, 5, 9, 10, 11]) (hs := [5, 8]) (cs := [(0 : Int) ≤ (k : Int), (k : Int) < List.length l]) (s' := AS.lst 23 [(3, vo 8), (4, vc (i6 (k : Int))), (5, vp 5 0), (9, vc (slP l)), (10, vc (i6 (List.length l : Int))), (11, vc (i6 (k : Int)))] [(5, AObj.row [.s (st ((List.getD l k ([], 0)).1)), .s (u8 ((List.getD l k ([], 0)).2))]), (8, AObj.grow 9 1 Bytes [] AL.Fnv.rowS (prefS (List.take k l) ++ List.replicate (l.length - k) []))]) (by kernel_rfl) ?_ ?_
    · exact ⟨(show (0 : Int) ≤ (k : Int) from (by first | omega | (simp only [List.length_append, List.length_replicate, pref_len, List.length_take]; omega))), (show (k : Int) < List.length l from (by first | omega | (simp only [List.length_append, List.length_replicate, pref_len, List.length_take]; omega)))⟩
    refine AMx.region (ces := [(5, CE.obj (AObj.grow 9 1 Bytes [] AL.Fnv.rowS (List.set (prefS (List.take k l) ++ List.replicate (l.length - k) []) k ((List.getD l k ([], 0)).1))))]) (ks := [3, 9, 10, 11]) (hs := [8]) (cs := [(0 : Int) ≤ (k : Int), (k : Int) < List.length (prefS (List.take k l) ++ List.replicate (l.length - k) [] : List Bytes), StoreC k 0 [.s (st ((List.getD l k ([], 0)).1))] (AObj.grow 9 1 Bytes [] AL.Fnv.rowS (prefS (List.take k l) ++ List.replicate (l.length - k) [])) (AObj.grow 9 1 Bytes [] AL.Fnv.rowS (List.set (prefS (List.take k l) ++ List.replicate (l.length - k) []) k ((List.getD l k ([], 0)).1)))]) (s' := AS.lst 23 [(3, vo 8), (9, vc (slP l)), (10, vc (i6 (List.length l : Int))), (11, vc (i6 (k : Int)))] [(8, AObj.grow 9 1 Bytes [] AL.Fnv.rowS (List.set (prefS (List.take k l) ++ List.replicate (l.length - k) []) k ((List.getD l k ([], 0)).1)))]) (by kernel_rfl) ?_ ?_
    · exact ⟨(show (0 : Int) ≤ (k : Int) from (by first | omega | (simp only [List.length_append, List.length_replicate, pref_len, List.length_take]; omega))), (show (k : Int) < List.length (prefS (List.take k l) ++ List.replicate (l.length - k) [] : List Bytes) from (by first | omega | (simp only [List.length_append, List.length_replicate, pref_len, List.length_take]; omega))), (⟨(List.getD l k ([], 0)).1, rfl, by first | omega | (simp only [List.length_append, List.length_replicate, pref_len, List.length_take]; omega), rfl⟩)⟩
    refine AMx.blk ?_
    refine AMx.region (ces := []) (ks := [3, 9, 10, 11]) (hs := [8]) (cs := [InR .i64 ((k : Int) + 1)]) (s' := AS.lst 23 [(3, vo 8), (9, vc (slP l)), (10, vc (i6 (List.length l : Int))), (11, vc (i6 ((k : Int) + 1)))] [(8, AObj.grow 9 1 Bytes [] AL.Fnv.rowS (List.set (prefS (List.take k l) ++ List.replicate (l.length - k) []) k ((List.getD l k ([], 0)).1)))]) (by kernel_rfl) ?_ ?_
    · exact (show InR .i64 ((k : Int) + 1) from (inR64 (by first | omega | (simp only [List.length_append, List.length_replicate, pref_len, List.length_take]; omega)) (by first | omega | (simp only [List.length_append, List.length_replicate, pref_len, List.length_take]; omega))))
    refine AMx.ent_inv (s' := AS.lst 23 [(3, vo 8), (9, vc (slP l)), (10, vc (i6 (List.length l : Int))), (11, vc (i6 ((k : Int) + 1)))] [(8, AObj.grow 9 1 Bytes [] AL.Fnv.rowS (List.set (prefS (List.take k l) ++ List.replicate (l.length - k) []) k ((List.getD l k ([], 0)).1)))]) (ent_proj [3, 9, 10, 11] [8]) ?_
    refine AMx.inv ⟨_, ?_, k + 1, ?_, rfl, ?_⟩
    rotate_left
    · omega
    · rw [pref_step l k (by omega)]; rfl
    · omega
  · try simp only [decide_eq_true_eq, decide_eq_false_iff_not] at hc1
    refine AMx.exit ?_
    refine AMx.code_exit ?_
    refine AMx.inv_exit ?_
    refine AMx.blk_exit ?_
    refine AMx.seq ?_
    refine AMx.region (ces := []) (ks := [2]) (hs := [8]) (cs := []) (s' := AS.lst 23 [(2, vo 8)] [(8, AObj.grow 9 1 Bytes [] AL.Fnv.rowS (prefS (List.take k l) ++ List.replicate (l.length - k) []))]) (by kernel_rfl) ?_ ?_
    · exact trivial
    refine AMx.ent (s' := AS.lst 23 [(2, vc (AL.Fnv.slS (prefS (List.take k l) ++ List.replicate (l.length - k) [])))] []) (ent_freeze (id := 8) (T := 9) (by kernel_rfl)) ?_
    refine AMx.ret ?_
    exact RetP.mk (r := vc (AL.Fnv.slS (prefS (List.take k l) ++ List.replicate (l.length - k) []))) (by kernel_rfl) (by rw [pref_end l k (by omega)])

theorem f13_body : Tryd.f13.body = some (.seq (.region 0 (rg Tryd.f13 0) false) (.seq (.region 1 (rg Tryd.f13 1) false) (.seq (.seq (.region 2 (rg Tryd.f13 2) false) (.cond (.tmp 11) (.seq (.region 3 (rg Tryd.f13 3) false) (.ret)) (.skip))) (.seq (.region 4 (rg Tryd.f13 4) false) (.ret))))) := by kernel_rfl

set_option maxRecDepth 100000 in
set_option maxHeartbeats 8000000 in
theorem Caps_c (l : List RuleV) (path : Bytes) (hl : l.length ≤ 100000) : Pure Tryd.prog 13 [tc (slP l), tc (st path)] (vc (u8 (capsP l path))) := by
  refine Pure.of_body Tryd.func13 f13_body (by kernel_rfl) Tryd.ntmps13 (by kernel_rfl) (by kernel_rfl) ?_
  have hr := longest_rng path l
  refine AMx.seq ?_
  refine AMx.region (ces := []) (ks := [0, 1]) (hs := []) (cs := []) (s' := AS.lst 17 [(0, vc (slP l)), (1, vc (st path))] []) (by kernel_rfl) ?_ ?_
  · exact trivial
  refine AMx.seq ?_
  refine AMx.region (ces := [(2, CE.call [] [] (vc (AL.Fnv.slS (prefS l))) []), (3, CE.call [] [] (vc (i6 (Under.longestS path (prefS l)))) [])]) (ks := [0, 5]) (hs := []) (cs := [Spec Tryd.prog 28 [tc (slP l)] (ofH []) (vc (AL.Fnv.slS (prefS l))) (ofH []), Spec Tryd.prog 27 [tc (st path), tc (AL.Fnv.slS (prefS l))] (ofH []) (vc (i6 (Under.longestS path (prefS l)))) (ofH [])]) (s' := AS.lst 17 [(0, vc (slP l)), (5, vc (i6 (Under.longestS path (prefS l))))] []) (by kernel_rfl) ?_ ?_
  · exact ⟨(prefixes_c l (by omega)), (Under.Longest_c path (prefS l))⟩
  refine AMx.seq ?_
  refine AMx.seq ?_
  refine AMx.region (ces := []) (ks := [0, 5, 11]) (hs := []) (cs := []) (s' := AS.lst 17 [(0, vc (slP l)), (5, vc (i6 (Under.longestS path (prefS l)))), (11, vc (bo (decide (Under.longestS path (prefS l) < 0))))] []) (by kernel_rfl) ?_ ?_
  · exact trivial
  refine AMx.cond (b := decide (Under.longestS path (prefS l) < 0)) (by kernel_rfl) (fun hc1 => ?_) (fun hc1 => ?_)
  · try simp only [decide_eq_true_eq, decide_eq_false_iff_not] at hc1
    refine AMx.seq ?_
    refine AMx.region (ces := []) (ks := [4]) (hs := []) (cs := []) (s' := AS.lst 17 [(4, vc (u8 0))] []) (by kernel_rfl) ?_ ?_
    · exact trivial
    refine AMx.ret ?_
    exact RetP.mk (r := vc (u8 0)) (by kernel_rfl) (by rw [show capsP l path = 0 from by unfold capsP; first | rw [if_pos (by omega)] | rw [if_neg (by omega)]])
  · try simp only [decide_eq_true_eq, decide_eq_false_iff_not] at hc1
    refine AMx.skip ?_
    refine AMx.seq ?_
    refine AMx.region (ces := []) (ks := [4]) (hs := []) (cs := [(0 : Int) ≤ Under.longestS path (prefS l), Under.longestS path (prefS l) < List.length l]) (s' := AS.lst 17 [(4, vc (u8 ((List.getD l (Under.longestS path (prefS l)).toNat ([], 0)).2)))] []) (by kernel_rfl) ?_ ?_
    · exact ⟨(show (0 : Int) ≤ Under.longestS path (prefS l) from (by omega)), (show Under.longestS path (prefS l) < List.length l from (by omega))⟩
    refine AMx.ret ?_
    exact RetP.mk (r := vc (u8 ((List.getD l (Under.longestS path (prefS l)).toNat ([], 0)).2))) (by kernel_rfl) (by rw [show capsP l path = (List.getD l (Under.longestS path (prefS l)).toNat ([], 0)).2 from by unfold capsP; first | rw [if_pos (by omega)] | rw [if_neg (by omega)]])

theorem f14_body : Tryd.f14.body = some (.seq (.region 0 (rg Tryd.f14 0) false) (.seq (.region 1 (rg Tryd.f14 1) false) (.seq (.seq (.region 2 (rg Tryd.f14 2) false) (.block 0 (.loop (.seq (.seq (.region 3 (rg Tryd.f14 3) false) (.cond (.tmp 10) (.skip) (.exit 0))) (.seq (.block 1 (.seq (.region 5 (rg Tryd.f14 5) true) (.cond (.tmp 38) (.region 6 (rg Tryd.f14 6) false) (.skip)))) (.region 4 (rg Tryd.f14 4) false)))))) (.seq (.seq (.region 7 (rg Tryd.f14 7) false) (.cond (.tmp 41) (.seq (.region 8 (rg Tryd.f14 8) false) (.ret)) (.skip))) (.seq (.region 9 (rg Tryd.f14 9) false) (.ret)))))) := by kernel_rfl

set_option maxRecDepth 100000 in
set_option maxHeartbeats 8000000 in
theorem RCaps_c (l : List RuleV) (path : Bytes) (hb : ∀ x ∈ l, x.1.length ≤ 100000) : Pure Tryd.prog 14 [tc (slP l), tc (st path)] (vc (u8 (capsP l path))) := by
  refine Pure.of_body Tryd.func14 f14_body (by kernel_rfl) Tryd.ntmps14 (by kernel_rfl) (by kernel_rfl) ?_
  refine AMx.sl 0 (l := l) rfl (fun hl => ?_)
  simp only [maxLen] at hl
  refine AMx.seq ?_
  refine AMx.region (ces := []) (ks := [0, 1]) (hs := []) (cs := []) (s' := AS.lst 47 [(0, vc (slP l)), (1, vc (st path))] []) (by kernel_rfl) ?_ ?_
  · exact trivial
  refine AMx.seq ?_
  refine AMx.region (ces := []) (ks := [0, 1, 5]) (hs := []) (cs := []) (s' := AS.lst 47 [(0, vc (slP l)), (1, vc (st path)), (5, vc (i6 (-1)))] []) (by kernel_rfl) ?_ ?_
  · exact trivial
  refine AMx.seq ?_
  refine AMx.seq ?_
  refine AMx.region (ces := []) (ks := [0, 1, 5, 6]) (hs := []) (cs := []) (s' := AS.lst 47 [(0, vc (slP l)), (1, vc (st path)), (5, vc (i6 (-1))), (6, vc (i6 0))] []) (by kernel_rfl) ?_ ?_
  · exact trivial
  refine AMx.block ?_
  refine AMx.ent (s' := AS.lst 47 [(0, vc (slP l)), (1, vc (st path)), (5, vc (i6 (-1))), (6, vc (i6 0))] []) (ent_proj [0, 1, 5, 6] []) ?_
  refine AMx.loop (fun mm ss => ∃ (i : Nat), (i ≤ l.length) ∧ mm = l.length - i ∧ ss = AS.lst 47 [(0, vc (slP l)), (1, vc (st path)), (5, vc (i6 (Under.longS path (prefS l) i))), (6, vc (i6 (i : Int)))] []) ⟨0, ?_, rfl, ?_⟩ ?_
  · omega
  · rfl
  rintro mm ss ⟨i, hI, rfl, rfl⟩
  refine AMx.seq ?_
  refine AMx.seq ?_
  refine AMx.region (ces := []) (ks := [0, 1, 5, 6, 10]) (hs := []) (cs := []) (s' := AS.lst 47 [(0, vc (slP l)), (1, vc (st path)), (5, vc (i6 (Under.longS path (prefS l) i))), (6, vc (i6 (i : Int))), (10, vc (bo (decide ((i : Int) < (List.length l : Int)))))] []) (by kernel_rfl) ?_ ?_
  · exact trivial
  refine AMx.cond (b := decide ((i : Int) < (List.length l : Int))) (by kernel_rfl) (fun hc1 => ?_) (fun hc1 => ?_)
  · try simp only [decide_eq_true_eq, decide_eq_false_iff_not] at hc1
    refine AMx.skip ?_
    refine AMx.seq ?_
    refine AMx.block ?_
    refine AMx.seq ?_
    refine AMx.region_draw (ces := [(6, CE.call [] [] (vc (bo (Under.withinS path ((List.getD l i ([], 0)).1)))) [])]) (ros := []) (ks := [0, 1, 5, 6, 38]) (hs := []) (cs := [(0 : Int) ≤ (i : Int), (i : Int) < List.length l, Spec Tryd.prog 29 [tc (st path), tc (st ((List.getD l i ([], 0)).1))] (ofH []) (vc (bo (Under.withinS path ((List.getD l i ([], 0)).1)))) (ofH []), ((Under.withinS path ((List.getD l i ([], 0)).1)) = true) → allP [], ((Under.withinS path ((List.getD l i ([], 0)).1)) = true) → allP [(Under.withinS path ((List.getD l i ([], 0)).1)) = true], ((Under.withinS path ((List.getD l i ([], 0)).1)) = true) → allP [(Under.withinS path ((List.getD l i ([], 0)).1)) = true], (((Under.withinS path ((List.getD l i ([], 0)).1)) = true) ∧ (decide (Under.longS path (prefS l) i < 0)) = false) → allP [], (((Under.withinS path ((List.getD l i ([], 0)).1)) = true) ∧ (decide (Under.longS path (prefS l) i < 0)) = false) → allP [], (((Under.withinS path ((List.getD l i ([], 0)).1)) = true) ∧ (decide (Under.longS path (prefS l) i < 0)) = false) → allP [((Under.withinS path ((List.getD l i ([], 0)).1)) = true) ∧ (decide (Under.longS path (prefS l) i < 0)) = false, ((Under.withinS path ((List.getD l i ([], 0)).1)) = true) ∧ (decide (Under.longS path (prefS l) i < 0)) = false, (0 : Int) ≤ (i : Int), (i : Int) < List.length l], (((Under.withinS path ((List.getD l i ([], 0)).1)) = true) ∧ (decide (Under.longS path (prefS l) i < 0)) = false) → allP [((Under.withinS path ((List.getD l i ([], 0)).1)) = true) ∧ (decide (Under.longS path (prefS l) i < 0)) = false], (((Under.withinS path ((List.getD l i ([], 0)).1)) = true) ∧ (decide (Under.longS path (prefS l) i < 0)) = false) → allP [((Under.withinS path ((List.getD l i ([], 0)).1)) = true) ∧ (decide (Under.longS path (prefS l) i < 0)) = false], (((Under.withinS path ((List.getD l i ([], 0)).1)) = true) ∧ (decide (Under.longS path (prefS l) i < 0)) = false) → allP [((Under.withinS path ((List.getD l i ([], 0)).1)) = true) ∧ (decide (Under.longS path (prefS l) i < 0)) = false], (((Under.withinS path ((List.getD l i ([], 0)).1)) = true) ∧ (decide (Under.longS path (prefS l) i < 0)) = false) → allP [], (((Under.withinS path ((List.getD l i ([], 0)).1)) = true) ∧ (decide (Under.longS path (prefS l) i < 0)) = false) → allP [], (((Under.withinS path ((List.getD l i ([], 0)).1)) = true) ∧ (decide (Under.longS path (prefS l) i < 0)) = false) → allP [((Under.withinS path ((List.getD l i ([], 0)).1)) = true) ∧ (decide (Under.longS path (prefS l) i < 0)) = false, ((Under.withinS path ((List.getD l i ([], 0)).1)) = true) ∧ (decide (Under.longS path (prefS l) i < 0)) = false, (0 : Int) ≤ Under.longS path (prefS l) i, Under.longS path (prefS l) i < List.length l], (((Under.withinS path ((List.getD l i ([], 0)).1)) = true) ∧ (decide (Under.longS path (prefS l) i < 0)) = false) → allP [((Under.withinS path ((List.getD l i ([], 0)).1)) = true) ∧ (decide (Under.longS path (prefS l) i < 0)) = false], (((Under.withinS path ((List.getD l i ([], 0)).1)) = true) ∧ (decide (Under.longS path (prefS l) i < 0)) = false) → allP [((Under.withinS path ((List.getD l i ([], 0)).1)) = true) ∧ (decide (Under.longS path (prefS l) i < 0)) = false], (((Under.withinS path ((List.getD l i ([], 0)).1)) = true) ∧ (decide (Under.longS path (prefS l) i < 0)) = false) → allP [((Under.withinS path ((List.getD l i ([], 0)).1)) = true) ∧ (decide (Under.longS path (prefS l) i < 0)) = false], (((Under.withinS path ((List.getD l i ([], 0)).1)) = true) ∧ (decide (Under.longS path (prefS l) i < 0)) = false) → allP [((Under.withinS path ((List.getD l i ([], 0)).1)) = true) ∧ (decide (Under.longS path (prefS l) i < 0)) = false, ((Under.withinS path ((List.getD l i ([], 0)).1)) = true) ∧ (decide (Under.longS path (prefS l) i < 0)) = false], ((Under.withinS path ((List.getD l i ([], 0)).1)) = true) → allP [(Under.withinS path ((List.getD l i ([], 0)).1)) = true, (decide (Under.longS path (prefS l) i < 0)) = false → allP [((Under.withinS path ((List.getD l i ([], 0)).1)) = true) ∧ (decide (Under.longS path (prefS l) i < 0)) = false]], (Under.withinS path ((List.getD l i ([], 0)).1)) = true → allP [(Under.withinS path ((List.getD l i ([], 0)).1)) = true]]) (s' := AS.lst 47 [(0, vc (slP l)), (1, vc (st path)), (5, vc (i6 (Under.longS path (prefS l) i))), (6, vc (i6 (i : Int))), (38, vc (bo ((Under.withinS path ((List.getD l i ([], 0)).1)) && ((decide (Under.longS path (prefS l) i < 0)) || (decide ((List.length ((List.getD l (Under.longS path (prefS l) i).toNat ([], 0)).1 : List UInt8) : Int) < (List.length ((List.getD l i ([], 0)).1 : List UInt8) : Int)))))))] []) mixed (by kernel_rfl) ?_ ?_
    · exact ⟨(show (0 : Int) ≤ (i : Int) from (by first | omega | exact hb _ (Lib.getD_mem ([], 0) l i (by omega)) | (have hz := Under.long_lt path (prefS l) i; omega))), (show (i : Int) < List.length l from (by first | omega | exact hb _ (Lib.getD_mem ([], 0) l i (by omega)) | (have hz := Under.long_lt path (prefS l) i; omega))), (Under.RWithin_c path ((List.getD l i ([], 0)).1) (by first | omega | exact hb _ (Lib.getD_mem ([], 0) l i (by omega)) | (have hz := Under.long_lt path (prefS l) i; omega))), (fun _ => trivial), (fun hp => hp), (fun hp => hp), (fun _ => trivial), (fun _ => trivial), (fun hp => by have hq := hp; (try simp only [decide_eq_true_eq, decide_eq_false_iff_not, Bool.and_eq_true, Bool.or_eq_true, Bool.and_eq_false_iff, Bool.or_eq_false_iff, Bool.not_eq_true', Bool.not_eq_false', Bool.not_eq_true, Bool.not_eq_false] at hq); exact ⟨hp, hp, (show (0 : Int) ≤ (i : Int) from (by first | omega | exact hb _ (Lib.getD_mem ([], 0) l i (by omega)) | (have hz := Under.long_lt path (prefS l) i; omega))), (show (i : Int) < List.length l from (by first | omega | exact hb _ (Lib.getD_mem ([], 0) l i (by omega)) | (have hz := Under.long_lt path (prefS l) i; omega)))⟩), (fun hp => hp), (fun hp => hp), (fun hp => hp), (fun _ => trivial), (fun _ => trivial), (fun hp => by have hq := hp; (try simp only [decide_eq_true_eq, decide_eq_false_iff_not, Bool.and_eq_true, Bool.or_eq_true, Bool.and_eq_false_iff, Bool.or_eq_false_iff, Bool.not_eq_true', Bool.not_eq_false', Bool.not_eq_true, Bool.not_eq_false] at hq); exact ⟨hp, hp, (show (0 : Int) ≤ Under.longS path (prefS l) i from (by first | omega | exact hb _ (Lib.getD_mem ([], 0) l i (by omega)) | (have hz := Under.long_lt path (prefS l) i; omega))), (show Under.longS path (prefS l) i < List.length l from (by first | omega | exact hb _ (Lib.getD_mem ([], 0) l i (by omega)) | (have hz := Under.long_lt path (prefS l) i; omega)))⟩), (fun hp => hp), (fun hp => hp), (fun hp => hp), (fun hp => ⟨hp, hp⟩), (fun hp => by have hq := hp; (try simp only [decide_eq_true_eq, decide_eq_false_iff_not, Bool.and_eq_true, Bool.or_eq_true, Bool.and_eq_false_iff, Bool.or_eq_false_iff, Bool.not_eq_true', Bool.not_eq_false', Bool.not_eq_true, Bool.not_eq_false] at hq); exact ⟨hp, (fun hp2 => (by first | exact hp2 | exact ⟨hp, hp2⟩))⟩), (fun hp2 => (by first | exact hp2 | exact ⟨hp, hp2⟩))⟩
    refine AMx.cond (b := ((Under.withinS path ((List.getD l i ([], 0)).1)) && ((decide (Under.longS path (prefS l) i < 0)) || (decide ((List.length ((List.getD l (Under.longS path (prefS l) i).toNat ([], 0)).1 : List UInt8) : Int) < (List.length ((List.getD l i ([], 0)).1 : List UInt8) : Int)))))) (by kernel_rfl) (fun hc2 => ?_) (fun hc2 => ?_)
    · try simp only [decide_eq_true_eq, decide_eq_false_iff_not, Bool.and_eq_true, Bool.and_eq_false_iff, Bool.or_eq_true, Bool.or_eq_false_iff] at hc2
      refine AMx.region (ces := []) (ks := [0, 1, 5, 6]) (hs := []) (cs := []) (s' := AS.lst 47 [(0, vc (slP l)), (1, vc (st path)), (5, vc (i6 (i : Int))), (6, vc (i6 (i : Int)))] []) (by kernel_rfl) ?_ ?_
      · exact trivial
      refine AMx.blk ?_
      refine AMx.region (ces := []) (ks := [0, 1, 5, 6]) (hs := []) (cs := [InR .i64 ((i : Int) + 1)]) (s' := AS.lst 47 [(0, vc (slP l)), (1, vc (st path)), (5, vc (i6 (i : Int))), (6, vc (i6 ((i : Int) + 1)))] []) (by kernel_rfl) ?_ ?_
      · exact (show InR .i64 ((i : Int) + 1) from (inR64 (by first | omega | exact hb _ (Lib.getD_mem ([], 0) l i (by omega)) | (have hz := Under.long_lt path (prefS l) i; omega)) (by first | omega | exact hb _ (Lib.getD_mem ([], 0) l i (by omega)) | (have hz := Under.long_lt path (prefS l) i; omega))))
      refine AMx.ent_inv (s' := AS.lst 47 [(0, vc (slP l)), (1, vc (st path)), (5, vc (i6 (i : Int))), (6, vc (i6 ((i : Int) + 1)))] []) (ent_proj [0, 1, 5, 6] []) ?_
      refine AMx.inv ⟨_, ?_, i + 1, ?_, rfl, ?_⟩
      rotate_left
      · omega
      · rw [longP_t hc2]; rfl
      · omega
    · try simp only [decide_eq_true_eq, decide_eq_false_iff_not, Bool.and_eq_true, Bool.and_eq_false_iff, Bool.or_eq_true, Bool.or_eq_false_iff] at hc2
      refine AMx.skip ?_
      refine AMx.blk ?_
      refine AMx.region (ces := []) (ks := [0, 1, 5, 6]) (hs := []) (cs := [InR .i64 ((i : Int) + 1)]) (s' := AS.lst 47 [(0, vc (slP l)), (1, vc (st path)), (5, vc (i6 (Under.longS path (prefS l) i))), (6, vc (i6 ((i : Int) + 1)))] []) (by kernel_rfl) ?_ ?_
      · exact (show InR .i64 ((i : Int) + 1) from (inR64 (by first | omega | exact hb _ (Lib.getD_mem ([], 0) l i (by omega)) | (have hz := Under.long_lt path (prefS l) i; omega)) (by first | omega | exact hb _ (Lib.getD_mem ([], 0) l i (by omega)) | (have hz := Under.long_lt path (prefS l) i; omega))))
      refine AMx.ent_inv (s' := AS.lst 47 [(0, vc (slP l)), (1, vc (st path)), (5, vc (i6 (Under.longS path (prefS l) i))), (6, vc (i6 ((i : Int) + 1)))] []) (ent_proj [0, 1, 5, 6] []) ?_
      refine AMx.inv ⟨_, ?_, i + 1, ?_, rfl, ?_⟩
      rotate_left
      · omega
      · rw [longP_f hc2]; rfl
      · omega
  · try simp only [decide_eq_true_eq, decide_eq_false_iff_not] at hc1
    refine AMx.exit ?_
    refine AMx.code_exit ?_
    refine AMx.inv_exit ?_
    refine AMx.blk_exit ?_
    refine AMx.seq ?_
    refine AMx.seq ?_
    refine AMx.region (ces := []) (ks := [0, 5, 41]) (hs := []) (cs := []) (s' := AS.lst 47 [(0, vc (slP l)), (5, vc (i6 (Under.longS path (prefS l) i))), (41, vc (bo (decide (Under.longS path (prefS l) i < 0))))] []) (by kernel_rfl) ?_ ?_
    · exact trivial
    refine AMx.cond (b := decide (Under.longS path (prefS l) i < 0)) (by kernel_rfl) (fun hc3 => ?_) (fun hc3 => ?_)
    · try simp only [decide_eq_true_eq, decide_eq_false_iff_not] at hc3
      refine AMx.seq ?_
      refine AMx.region (ces := []) (ks := [4]) (hs := []) (cs := []) (s' := AS.lst 47 [(4, vc (u8 0))] []) (by kernel_rfl) ?_ ?_
      · exact trivial
      refine AMx.ret ?_
      exact RetP.mk (r := vc (u8 0)) (by kernel_rfl) (by rw [show capsP l path = 0 from by rw [capsP_ref l path (i := i) (by omega) (by omega)]; first | rw [if_pos (by omega)] | rw [if_neg (by omega)]])
    · try simp only [decide_eq_true_eq, decide_eq_false_iff_not] at hc3
      refine AMx.skip ?_
      refine AMx.seq ?_
      refine AMx.region (ces := []) (ks := [4]) (hs := []) (cs := [(0 : Int) ≤ Under.longS path (prefS l) i, Under.longS path (prefS l) i < List.length l]) (s' := AS.lst 47 [(4, vc (u8 ((List.getD l (Under.longS path (prefS l) i).toNat ([], 0)).2)))] []) (by kernel_rfl) ?_ ?_
      · exact ⟨(show (0 : Int) ≤ Under.longS path (prefS l) i from (by first | omega | exact hb _ (Lib.getD_mem ([], 0) l i (by omega)) | (have hz := Under.long_lt path (prefS l) i; omega))), (show Under.longS path (prefS l) i < List.length l from (by first | omega | exact hb _ (Lib.getD_mem ([], 0) l i (by omega)) | (have hz := Under.long_lt path (prefS l) i; omega)))⟩
      refine AMx.ret ?_
      exact RetP.mk (r := vc (u8 ((List.getD l (Under.longS path (prefS l) i).toNat ([], 0)).2))) (by kernel_rfl) (by rw [show capsP l path = (List.getD l (Under.longS path (prefS l) i).toNat ([], 0)).2 from by rw [capsP_ref l path (i := i) (by omega) (by omega)]; first | rw [if_pos (by omega)] | rw [if_neg (by omega)]])

theorem f15_body : Tryd.f15.body = some (.seq (.region 0 (rg Tryd.f15 0) false) (.seq (.region 1 (rg Tryd.f15 1) false) (.ret))) := by kernel_rfl

set_option maxRecDepth 100000 in
set_option maxHeartbeats 8000000 in
theorem Allows_c (l : List RuleV) (path : Bytes) (caps : Int) (hl : l.length ≤ 100000) : Pure Tryd.prog 15 [tc (slP l), tc (st path), tc (u8 caps)] (vc (bo (allowsS l path caps))) := by
  refine Pure.of_body Tryd.func15 f15_body (by kernel_rfl) Tryd.ntmps15 (by kernel_rfl) (by kernel_rfl) ?_
  refine AMx.seq ?_
  refine AMx.region (ces := []) (ks := [0, 1, 2]) (hs := []) (cs := []) (s' := AS.lst 13 [(0, vc (slP l)), (1, vc (st path)), (2, vc (u8 caps))] []) (by kernel_rfl) ?_ ?_
  · exact trivial
  refine AMx.seq ?_
  refine AMx.region (ces := [(3, CE.call [] [] (vc (u8 (capsP l path))) [])]) (ks := [6]) (hs := []) (cs := [Spec Tryd.prog 13 [tc (slP l), tc (st path)] (ofH []) (vc (u8 (capsP l path))) (ofH [])]) (s' := AS.lst 13 [(6, vc (bo (decide (IntKind.wrap .u8 ((BitVec.ofInt 8 caps &&& ~~~(BitVec.ofInt 8 (capsP l path))).toNat) = 0))))] []) (by kernel_rfl) ?_ ?_
  · exact (Caps_c l path (by omega))
  refine AMx.ret ?_
  exact RetP.mk (r := vc (bo (decide (IntKind.wrap .u8 ((BitVec.ofInt 8 caps &&& ~~~(BitVec.ofInt 8 (capsP l path))).toNat) = 0)))) (by kernel_rfl) (by rw [show allowsS l path caps = decide (IntKind.wrap .u8 ((BitVec.ofInt 8 caps &&& ~~~(BitVec.ofInt 8 (capsP l path))).toNat) = 0) from (has_val _ _).symm])

theorem f30_body : Tryd.f30.body = some (.seq (.region 0 (rg Tryd.f30 0) false) (.seq (.seq (.region 1 (rg Tryd.f30 1) false) (.block 0 (.loop (.seq (.seq (.region 2 (rg Tryd.f30 2) false) (.cond (.tmp 7) (.skip) (.exit 0))) (.seq (.block 1 (.seq (.seq (.region 4 (rg Tryd.f30 4) false) (.cond (.tmp 17) (.seq (.region 5 (rg Tryd.f30 5) false) (.ret)) (.skip))) (.region 6 (rg Tryd.f30 6) false))) (.region 3 (rg Tryd.f30 3) false)))))) (.seq (.region 7 (rg Tryd.f30 7) false) (.ret)))) := by kernel_rfl

set_option maxRecDepth 100000 in
set_option maxHeartbeats 8000000 in
theorem has_c (a s : Int) : Pure Tryd.prog 30 [tc (u8 a), tc (u8 s)] (vc (bo (hasB a s))) := by
  refine Pure.of_body Tryd.func30 f30_body (by kernel_rfl) Tryd.ntmps30 (by kernel_rfl) (by kernel_rfl) ?_
  refine AMx.int 0 rfl (fun ha => ?_)
  rw [inR8_iff] at ha
  refine AMx.int 1 rfl (fun hs => ?_)
  rw [inR8_iff] at hs
  refine AMx.seq ?_
  refine AMx.region (ces := []) (ks := [0, 1]) (hs := []) (cs := []) (s' := AS.lst 22 [(0, vc (u8 a)), (1, vc (u8 s))] []) (by kernel_rfl) ?_ ?_
  · exact trivial
  refine AMx.seq ?_
  refine AMx.seq ?_
  refine AMx.region (ces := []) (ks := [0, 1, 5]) (hs := []) (cs := []) (s' := AS.lst 22 [(0, vc (u8 a)), (1, vc (u8 s)), (5, vc (i6 0))] []) (by kernel_rfl) ?_ ?_
  · exact trivial
  refine AMx.block ?_
  refine AMx.ent (s' := AS.lst 22 [(0, vc (u8 a)), (1, vc (u8 s)), (5, vc (i6 0))] []) (ent_proj [0, 1, 5] []) ?_
  refine AMx.loop (fun mm ss => ∃ (i : Nat), (i ≤ 8 ∧ BitsTo a s i) ∧ mm = 8 - i ∧ ss = AS.lst 22 [(0, vc (u8 (shrN a i))), (1, vc (u8 (shrN s i))), (5, vc (i6 (i : Int)))] []) ⟨0, ?_, rfl, ?_⟩ ?_
  · exact ⟨Nat.zero_le _, fun j hj => by omega⟩
  · rw [shr_0, shr_0]; rfl
  rintro mm ss ⟨i, ⟨hI, hN⟩, rfl, rfl⟩
  refine AMx.seq ?_
  refine AMx.seq ?_
  refine AMx.region (ces := []) (ks := [0, 1, 5, 7]) (hs := []) (cs := []) (s' := AS.lst 22 [(0, vc (u8 (shrN a i))), (1, vc (u8 (shrN s i))), (5, vc (i6 (i : Int))), (7, vc (bo (decide ((i : Int) < 8))))] []) (by kernel_rfl) ?_ ?_
  · exact trivial
  refine AMx.cond (b := decide ((i : Int) < 8)) (by kernel_rfl) (fun hc1 => ?_) (fun hc1 => ?_)
  · try simp only [decide_eq_true_eq, decide_eq_false_iff_not] at hc1
    refine AMx.skip ?_
    refine AMx.seq ?_
    refine AMx.block ?_
    refine AMx.seq ?_
    refine AMx.seq ?_
    refine AMx.region (ces := []) (ks := [0, 1, 5, 17]) (hs := []) (cs := [(2 : Int) ≠ 0, ((decide (Int.tmod (shrN s i) 2 = 1)) = true) → allP [], ((decide (Int.tmod (shrN s i) 2 = 1)) = true) → allP [(decide (Int.tmod (shrN s i) 2 = 1)) = true, (2 : Int) ≠ 0], ((decide (Int.tmod (shrN s i) 2 = 1)) = true) → allP [(decide (Int.tmod (shrN s i) 2 = 1)) = true], (decide (Int.tmod (shrN s i) 2 = 1)) = true → allP [(decide (Int.tmod (shrN s i) 2 = 1)) = true]]) (s' := AS.lst 22 [(0, vc (u8 (shrN a i))), (1, vc (u8 (shrN s i))), (5, vc (i6 (i : Int))), (17, vc (bo ((decide (Int.tmod (shrN s i) 2 = 1)) && (decide (Int.tmod (shrN a i) 2 = 0)))))] []) (by kernel_rfl) ?_ ?_
    · exact ⟨(show (2 : Int) ≠ 0 from (by omega)), (fun _ => trivial), (fun hp => by have hq := hp; (try simp only [decide_eq_true_eq, decide_eq_false_iff_not, Bool.and_eq_true, Bool.or_eq_true, Bool.and_eq_false_iff, Bool.or_eq_false_iff, Bool.not_eq_true', Bool.not_eq_false', Bool.not_eq_true, Bool.not_eq_false] at hq); exact ⟨hp, (show (2 : Int) ≠ 0 from (by omega))⟩), (fun hp => hp), (fun hp2 => (by first | exact hp2 | exact ⟨hp, hp2⟩))⟩
    refine AMx.cond (b := ((decide (Int.tmod (shrN s i) 2 = 1)) && (decide (Int.tmod (shrN a i) 2 = 0)))) (by kernel_rfl) (fun hc2 => ?_) (fun hc2 => ?_)
    · try simp only [decide_eq_true_eq, decide_eq_false_iff_not, Bool.and_eq_true, Bool.and_eq_false_iff] at hc2
      refine AMx.seq ?_
      refine AMx.region (ces := []) (ks := [4]) (hs := []) (cs := []) (s' := AS.lst 22 [(4, vc (bo false))] []) (by kernel_rfl) ?_ ?_
      · exact trivial
      refine AMx.ret ?_
      exact RetP.mk (r := vc (bo false)) (by kernel_rfl) (by rw [has_no (by omega) (by omega) (by omega) hc2])
    · try simp only [decide_eq_true_eq, decide_eq_false_iff_not, Bool.and_eq_true, Bool.and_eq_false_iff] at hc2
      refine AMx.skip ?_
      refine AMx.region (ces := []) (ks := [0, 1, 5]) (hs := []) (cs := [(2 : Int) ≠ 0, (2 : Int) ≠ 0]) (s' := AS.lst 22 [(0, vc (u8 (IntKind.wrap .u8 (Int.tdiv (shrN a i) 2)))), (1, vc (u8 (IntKind.wrap .u8 (Int.tdiv (shrN s i) 2)))), (5, vc (i6 (i : Int)))] []) (by kernel_rfl) ?_ ?_
      · exact ⟨(show (2 : Int) ≠ 0 from (by omega)), (show (2 : Int) ≠ 0 from (by omega))⟩
      refine AMx.blk ?_
      refine AMx.region (ces := []) (ks := [0, 1, 5]) (hs := []) (cs := [InR .i64 ((i : Int) + 1)]) (s' := AS.lst 22 [(0, vc (u8 (IntKind.wrap .u8 (Int.tdiv (shrN a i) 2)))), (1, vc (u8 (IntKind.wrap .u8 (Int.tdiv (shrN s i) 2)))), (5, vc (i6 ((i : Int) + 1)))] []) (by kernel_rfl) ?_ ?_
      · exact (show InR .i64 ((i : Int) + 1) from (inR64 (by omega) (by omega)))
      refine AMx.ent_inv (s' := AS.lst 22 [(0, vc (u8 (IntKind.wrap .u8 (Int.tdiv (shrN a i) 2)))), (1, vc (u8 (IntKind.wrap .u8 (Int.tdiv (shrN s i) 2)))), (5, vc (i6 ((i : Int) + 1)))] []) (ent_proj [0, 1, 5] []) ?_
      refine AMx.inv ⟨_, ?_, i + 1, ?_, rfl, ?_⟩
      rotate_left
      · exact ⟨by omega, bits_step (by omega) (by omega) hN hc2⟩
      · rw [← shr_step (n := s) (by omega) (by omega) i, ← shr_step (n := a) (by omega) (by omega) i]; rfl
      · omega
  · try simp only [decide_eq_true_eq, decide_eq_false_iff_not] at hc1
    refine AMx.exit ?_
    refine AMx.code_exit ?_
    refine AMx.inv_exit ?_
    refine AMx.blk_exit ?_
    refine AMx.seq ?_
    refine AMx.region (ces := []) (ks := [4]) (hs := []) (cs := []) (s' := AS.lst 22 [(4, vc (bo true))] []) (by kernel_rfl) ?_ ?_
    · exact trivial
    refine AMx.ret ?_
    exact RetP.mk (r := vc (bo true)) (by kernel_rfl) (by rw [has_yes (by omega) (by omega) (by omega) hN])

theorem f16_body : Tryd.f16.body = some (.seq (.region 0 (rg Tryd.f16 0) false) (.seq (.region 1 (rg Tryd.f16 1) false) (.ret))) := by kernel_rfl

set_option maxRecDepth 100000 in
set_option maxHeartbeats 8000000 in
theorem RAllows_c (l : List RuleV) (path : Bytes) (caps : Int) (hb : ∀ x ∈ l, x.1.length ≤ 100000) : Pure Tryd.prog 16 [tc (slP l), tc (st path), tc (u8 caps)] (vc (bo (allowsS l path caps))) := by
  refine Pure.of_body Tryd.func16 f16_body (by kernel_rfl) Tryd.ntmps16 (by kernel_rfl) (by kernel_rfl) ?_
  refine AMx.seq ?_
  refine AMx.region (ces := []) (ks := [0, 1, 2]) (hs := []) (cs := []) (s' := AS.lst 12 [(0, vc (slP l)), (1, vc (st path)), (2, vc (u8 caps))] []) (by kernel_rfl) ?_ ?_
  · exact trivial
  refine AMx.seq ?_
  refine AMx.region (ces := [(2, CE.call [] [] (vc (u8 (capsP l path))) []), (4, CE.call [] [] (vc (bo (hasB (capsP l path) caps))) [])]) (ks := [6]) (hs := []) (cs := [Spec Tryd.prog 14 [tc (slP l), tc (st path)] (ofH []) (vc (u8 (capsP l path))) (ofH []), Spec Tryd.prog 30 [tc (u8 (capsP l path)), tc (u8 caps)] (ofH []) (vc (bo (hasB (capsP l path) caps))) (ofH [])]) (s' := AS.lst 12 [(6, vc (bo (hasB (capsP l path) caps)))] []) (by kernel_rfl) ?_ ?_
  · exact ⟨(RCaps_c l path (by first | omega | assumption)), (has_c (capsP l path) caps)⟩
  refine AMx.ret ?_
  exact RetP.mk (r := vc (bo (hasB (capsP l path) caps))) (by kernel_rfl) rfl

theorem f31_body : Tryd.f31.body = some (.seq (.region 0 (rg Tryd.f31 0) false) (.seq (.seq (.region 1 (rg Tryd.f31 1) false) (.cond (.tmp 10) (.seq (.region 2 (rg Tryd.f31 2) false) (.ret)) (.skip))) (.seq (.seq (.region 3 (rg Tryd.f31 3) false) (.block 0 (.loop (.seq (.region 4 (rg Tryd.f31 4) false) (.seq (.cond (.tmp 14) (.skip) (.exit 0)) (.seq (.block 1 (.seq (.region 5 (rg Tryd.f31 5) false) (.seq (.region 6 (rg Tryd.f31 6) true) (.cond (.tmp 24) (.seq (.region 7 (rg Tryd.f31 7) false) (.ret)) (.skip))))) (.region 8 (rg Tryd.f31 8) false))))))) (.seq (.region 9 (rg Tryd.f31 9) false) (.ret))))) := by kernel_rfl

set_option maxRecDepth 100000 in
set_option maxHeartbeats 8000000 in
theorem Equal_c (a b : List RuleV) : Pure Tryd.prog 31 [tc (slP a), tc (slP b)] (vc (bo (decide (a = b)))) := by
  refine Pure.of_body Tryd.func31 f31_body (by kernel_rfl) Tryd.ntmps31 (by kernel_rfl) (by kernel_rfl) ?_
  refine AMx.sl 0 (l := a) rfl (fun hl => ?_)
  simp only [maxLen] at hl
  refine AMx.seq ?_
  refine AMx.region (ces := []) (ks := [0, 1]) (hs := []) (cs := []) (s' := AS.lst 26 [(0, vc (slP a)), (1, vc (slP b))] []) (by kernel_rfl) ?_ ?_
  · exact trivial
  refine AMx.seq ?_
  refine AMx.seq ?_
  refine AMx.region (ces := []) (ks := [0, 1, 10]) (hs := []) (cs := []) (s' := AS.lst 26 [(0, vc (slP a)), (1, vc (slP b)), (10, vc (bo (!decide ((List.length a : Int) = (List.length b : Int)))))] []) (by kernel_rfl) ?_ ?_
  · exact trivial
  refine AMx.cond (b := !decide ((List.length a : Int) = (List.length b : Int))) (by kernel_rfl) (fun hc1 => ?_) (fun hc1 => ?_)
  · try simp only [decide_eq_true_eq, decide_eq_false_iff_not, Bool.not_eq_true', Bool.not_eq_false'] at hc1
    refine AMx.seq ?_
    refine AMx.region (ces := []) (ks := [4]) (hs := []) (cs := []) (s' := AS.lst 26 [(4, vc (bo false))] []) (by kernel_rfl) ?_ ?_
    · exact trivial
    refine AMx.ret ?_
    exact RetP.mk (r := vc (bo false)) (by kernel_rfl) (by rw [decide_eq_false (fun h => by subst h; simp_all)])
  · try simp only [decide_eq_true_eq, decide_eq_false_iff_not, Bool.not_eq_true', Bool.not_eq_false'] at hc1
    refine AMx.skip ?_
    refine AMx.seq ?_
    refine AMx.seq ?_
    refine AMx.region (ces := []) (ks := [0, 1, 12, 13]) (hs := []) (cs := []) (s' := AS.lst 26 [(0, vc (slP a)), (1, vc (slP b)), (12, vc (i6 (List.length a : Int))), (13, vc (i6 0))] []) (by kernel_rfl) ?_ ?_
    · exact trivial
    refine AMx.block ?_
    refine AMx.ent (s' := AS.lst 26 [(0, vc (slP a)), (1, vc (slP b)), (12, vc (i6 (List.length a : Int))), (13, vc (i6 0))] []) (ent_proj [0, 1, 12, 13] []) ?_
    refine AMx.loop (fun mm ss => ∃ (i : Nat), (i ≤ a.length ∧ List.take i a = List.take i b) ∧ mm = a.length - i ∧ ss = AS.lst 26 [(0, vc (slP a)), (1, vc (slP b)), (12, vc (i6 (List.length a : Int))), (13, vc (i6 (i : Int)))] []) ⟨0, ?_, rfl, ?_⟩ ?_
    · exact ⟨by omega, rfl⟩
    · rfl
    rintro mm ss ⟨i, ⟨hI, hE⟩, rfl, rfl⟩
    refine AMx.seq ?_
    refine AMx.region (ces := []) (ks := [0, 1, 12, 13, 14]) (hs := []) (cs := []) (s' := AS.lst 26 [(0, vc (slP a)), (1, vc (slP b)), (12, vc (i6 (List.length a : Int))), (13, vc (i6 (i : Int))), (14, vc (bo (decide ((i : Int) < (List.length a : Int)))))] []) (by kernel_rfl) ?_ ?_
    · exact trivial
    refine AMx.seq ?_
    refine AMx.cond (b := decide ((i : Int) < (List.length a : Int))) (by kernel_rfl) (fun hc2 => ?_) (fun hc2 => ?_)
    · try simp only [decide_eq_true_eq, decide_eq_false_iff_not] at hc2
      refine AMx.skip ?_
      refine AMx.seq ?_
      refine AMx.block ?_
      refine AMx.seq ?_
      refine AMx.region (ces := []) (ks := [0, 1, 5, 12, 13]) (hs := []) (cs := []) (s' := AS.lst 26 [(0, vc (slP a)), (1, vc (slP b)), (5, vc (i6 (i : Int))), (12, vc (i6 (List.length a : Int))), (13, vc (i6 (i : Int)))] []) (by kernel_rfl) ?_ ?_
      · exact trivial
      refine AMx.seq ?_
      refine AMx.region_draw (ces := []) (ros := []) (ks := [0, 1, 12, 13, 24]) (hs := []) (cs := [(0 : Int) ≤ (i : Int), (i : Int) < List.length a, (0 : Int) ≤ (i : Int), (i : Int) < List.length b]) (s' := AS.lst 26 [(0, vc (slP a)), (1, vc (slP b)), (12, vc (i6 (List.length a : Int))), (13, vc (i6 (i : Int))), (24, vc (bo (!(decide ((List.getD a i ([], 0)).1 = (List.getD b i ([], 0)).1) && (decide ((List.getD a i ([], 0)).2 = (List.getD b i ([], 0)).2) && true)))))] []) mixed (by kernel_rfl) ?_ ?_
      · exact ⟨(show (0 : Int) ≤ (i : Int) from (by omega)), (show (i : Int) < List.length a from (by omega)), (show (0 : Int) ≤ (i : Int) from (by omega)), (show (i : Int) < List.length b from (by omega))⟩
      refine AMx.cond (b := !(decide ((List.getD a i ([], 0)).1 = (List.getD b i ([], 0)).1) && (decide ((List.getD a i ([], 0)).2 = (List.getD b i ([], 0)).2) && true))) (by kernel_rfl) (fun hc3 => ?_) (fun hc3 => ?_)
      · try simp only [decide_eq_true_eq, decide_eq_false_iff_not, Bool.and_eq_true, Bool.and_eq_false_iff, Bool.not_eq_true', Bool.not_eq_false'] at hc3
        refine AMx.seq ?_
        refine AMx.region (ces := []) (ks := [4]) (hs := []) (cs := []) (s' := AS.lst 26 [(4, vc (bo false))] []) (by kernel_rfl) ?_ ?_
        · exact trivial
        refine AMx.ret ?_
        exact RetP.mk (r := vc (bo false)) (by kernel_rfl) (by rw [decide_eq_false (fun h => by subst h; simp_all)])
      · try simp only [decide_eq_true_eq, decide_eq_false_iff_not, Bool.and_eq_true, Bool.and_eq_false_iff, Bool.not_eq_true', Bool.not_eq_false'] at hc3
        refine AMx.skip ?_
        refine AMx.blk ?_
        refine AMx.region (ces := []) (ks := [0, 1, 12, 13]) (hs := []) (cs := [InR .i64 ((i : Int) + 1)]) (s' := AS.lst 26 [(0, vc (slP a)), (1, vc (slP b)), (12, vc (i6 (List.length a : Int))), (13, vc (i6 ((i : Int) + 1)))] []) (by kernel_rfl) ?_ ?_
        · exact (show InR .i64 ((i : Int) + 1) from (inR64 (by omega) (by omega)))
        refine AMx.ent_inv (s' := AS.lst 26 [(0, vc (slP a)), (1, vc (slP b)), (12, vc (i6 (List.length a : Int))), (13, vc (i6 ((i : Int) + 1)))] []) (ent_proj [0, 1, 12, 13] []) ?_
        refine AMx.inv ⟨_, ?_, i + 1, ?_, rfl, ?_⟩
        rotate_left
        · exact ⟨by omega, Lib.same_step ([], 0) a b i (by omega) (by omega) hE (by grind)⟩
        · rfl
        · omega
    · try simp only [decide_eq_true_eq, decide_eq_false_iff_not] at hc2
      refine AMx.exit ?_
      refine AMx.code_exit ?_
      refine AMx.inv_exit ?_
      refine AMx.blk_exit ?_
      refine AMx.seq ?_
      refine AMx.region (ces := []) (ks := [4]) (hs := []) (cs := []) (s' := AS.lst 26 [(4, vc (bo true))] []) (by kernel_rfl) ?_ ?_
      · exact trivial
      refine AMx.ret ?_
      exact RetP.mk (r := vc (bo true)) (by kernel_rfl) (by rw [decide_eq_true (Lib.same_end a b i (by omega) (by omega) hE)])

theorem f17_body : Tryd.f17.body = some (.seq (.region 0 (rg Tryd.f17 0) false) (.seq (.region 1 (rg Tryd.f17 1) false) (.ret))) := by kernel_rfl

set_option maxRecDepth 100000 in
set_option maxHeartbeats 8000000 in
theorem Same_c (a b : List RuleV) : Pure Tryd.prog 17 [tc (slP a), tc (slP b)] (vc (bo (decide (a = b)))) := by
  refine Pure.of_body Tryd.func17 f17_body (by kernel_rfl) Tryd.ntmps17 (by kernel_rfl) (by kernel_rfl) ?_
  refine AMx.seq ?_
  refine AMx.region (ces := []) (ks := [0, 1]) (hs := []) (cs := []) (s' := AS.lst 8 [(0, vc (slP a)), (1, vc (slP b))] []) (by kernel_rfl) ?_ ?_
  · exact trivial
  refine AMx.seq ?_
  refine AMx.region (ces := [(2, CE.call [] [] (vc (bo (decide (a = b)))) [])]) (ks := [4]) (hs := []) (cs := [Spec Tryd.prog 31 [tc (slP a), tc (slP b)] (ofH []) (vc (bo (decide (a = b)))) (ofH [])]) (s' := AS.lst 8 [(4, vc (bo (decide (a = b))))] []) (by kernel_rfl) ?_ ?_
  · exact (Equal_c a b)
  refine AMx.ret ?_
  exact RetP.mk (r := vc (bo (decide (a = b)))) (by kernel_rfl) rfl

theorem f18_body : Tryd.f18.body = some (.seq (.region 0 (rg Tryd.f18 0) false) (.seq (.seq (.region 1 (rg Tryd.f18 1) false) (.cond (.tmp 10) (.seq (.region 2 (rg Tryd.f18 2) false) (.ret)) (.skip))) (.seq (.seq (.region 3 (rg Tryd.f18 3) false) (.block 0 (.loop (.seq (.seq (.region 4 (rg Tryd.f18 4) false) (.cond (.tmp 14) (.skip) (.exit 0))) (.seq (.block 1 (.seq (.region 6 (rg Tryd.f18 6) true) (.cond (.tmp 25) (.seq (.region 7 (rg Tryd.f18 7) false) (.ret)) (.skip)))) (.region 5 (rg Tryd.f18 5) false)))))) (.seq (.region 8 (rg Tryd.f18 8) false) (.ret))))) := by kernel_rfl

set_option maxRecDepth 100000 in
set_option maxHeartbeats 8000000 in
theorem RSame_c (a b : List RuleV) : Pure Tryd.prog 18 [tc (slP a), tc (slP b)] (vc (bo (decide (a = b)))) := by
  refine Pure.of_body Tryd.func18 f18_body (by kernel_rfl) Tryd.ntmps18 (by kernel_rfl) (by kernel_rfl) ?_
  refine AMx.sl 0 (l := a) rfl (fun hl => ?_)
  simp only [maxLen] at hl
  refine AMx.seq ?_
  refine AMx.region (ces := []) (ks := [0, 1]) (hs := []) (cs := []) (s' := AS.lst 26 [(0, vc (slP a)), (1, vc (slP b))] []) (by kernel_rfl) ?_ ?_
  · exact trivial
  refine AMx.seq ?_
  refine AMx.seq ?_
  refine AMx.region (ces := []) (ks := [0, 1, 10]) (hs := []) (cs := []) (s' := AS.lst 26 [(0, vc (slP a)), (1, vc (slP b)), (10, vc (bo (!decide ((List.length a : Int) = (List.length b : Int)))))] []) (by kernel_rfl) ?_ ?_
  · exact trivial
  refine AMx.cond (b := !decide ((List.length a : Int) = (List.length b : Int))) (by kernel_rfl) (fun hc1 => ?_) (fun hc1 => ?_)
  · try simp only [decide_eq_true_eq, decide_eq_false_iff_not, Bool.not_eq_true', Bool.not_eq_false'] at hc1
    refine AMx.seq ?_
    refine AMx.region (ces := []) (ks := [4]) (hs := []) (cs := []) (s' := AS.lst 26 [(4, vc (bo false))] []) (by kernel_rfl) ?_ ?_
    · exact trivial
    refine AMx.ret ?_
    exact RetP.mk (r := vc (bo false)) (by kernel_rfl) (by rw [decide_eq_false (fun h => by subst h; simp_all)])
  · try simp only [decide_eq_true_eq, decide_eq_false_iff_not, Bool.not_eq_true', Bool.not_eq_false'] at hc1
    refine AMx.skip ?_
    refine AMx.seq ?_
    refine AMx.seq ?_
    refine AMx.region (ces := []) (ks := [0, 1, 5]) (hs := []) (cs := []) (s' := AS.lst 26 [(0, vc (slP a)), (1, vc (slP b)), (5, vc (i6 0))] []) (by kernel_rfl) ?_ ?_
    · exact trivial
    refine AMx.block ?_
    refine AMx.ent (s' := AS.lst 26 [(0, vc (slP a)), (1, vc (slP b)), (5, vc (i6 0))] []) (ent_proj [0, 1, 5] []) ?_
    refine AMx.loop (fun mm ss => ∃ (i : Nat), (i ≤ a.length ∧ List.take i a = List.take i b) ∧ mm = a.length - i ∧ ss = AS.lst 26 [(0, vc (slP a)), (1, vc (slP b)), (5, vc (i6 (i : Int)))] []) ⟨0, ?_, rfl, ?_⟩ ?_
    · exact ⟨by omega, rfl⟩
    · rfl
    rintro mm ss ⟨i, ⟨hI, hE⟩, rfl, rfl⟩
    refine AMx.seq ?_
    refine AMx.seq ?_
    refine AMx.region (ces := []) (ks := [0, 1, 5, 14]) (hs := []) (cs := []) (s' := AS.lst 26 [(0, vc (slP a)), (1, vc (slP b)), (5, vc (i6 (i : Int))), (14, vc (bo (decide ((i : Int) < (List.length a : Int)))))] []) (by kernel_rfl) ?_ ?_
    · exact trivial
    refine AMx.cond (b := decide ((i : Int) < (List.length a : Int))) (by kernel_rfl) (fun hc2 => ?_) (fun hc2 => ?_)
    · try simp only [decide_eq_true_eq, decide_eq_false_iff_not] at hc2
      refine AMx.skip ?_
      refine AMx.seq ?_
      refine AMx.block ?_
      refine AMx.seq ?_
      refine AMx.region_draw (ces := []) (ros := []) (ks := [0, 1, 5, 25]) (hs := []) (cs := [(0 : Int) ≤ (i : Int), (i : Int) < List.length a, (0 : Int) ≤ (i : Int), (i : Int) < List.length b]) (s' := AS.lst 26 [(0, vc (slP a)), (1, vc (slP b)), (5, vc (i6 (i : Int))), (25, vc (bo (!(decide ((List.getD a i ([], 0)).1 = (List.getD b i ([], 0)).1) && (decide ((List.getD a i ([], 0)).2 = (List.getD b i ([], 0)).2) && true)))))] []) mixed (by kernel_rfl) ?_ ?_
      · exact ⟨(show (0 : Int) ≤ (i : Int) from (by omega)), (show (i : Int) < List.length a from (by omega)), (show (0 : Int) ≤ (i : Int) from (by omega)), (show (i : Int) < List.length b from (by omega))⟩
      refine AMx.cond (b := !(decide ((List.getD a i ([], 0)).1 = (List.getD b i ([], 0)).1) && (decide ((List.getD a i ([], 0)).2 = (List.getD b i ([], 0)).2) && true))) (by kernel_rfl) (fun hc3 => ?_) (fun hc3 => ?_)
      · try simp only [decide_eq_true_eq, decide_eq_false_iff_not, Bool.and_eq_true, Bool.and_eq_false_iff, Bool.not_eq_true', Bool.not_eq_false'] at hc3
        refine AMx.seq ?_
        refine AMx.region (ces := []) (ks := [4]) (hs := []) (cs := []) (s' := AS.lst 26 [(4, vc (bo false))] []) (by kernel_rfl) ?_ ?_
        · exact trivial
        refine AMx.ret ?_
        exact RetP.mk (r := vc (bo false)) (by kernel_rfl) (by rw [decide_eq_false (fun h => by subst h; simp_all)])
      · try simp only [decide_eq_true_eq, decide_eq_false_iff_not, Bool.and_eq_true, Bool.and_eq_false_iff, Bool.not_eq_true', Bool.not_eq_false'] at hc3
        refine AMx.skip ?_
        refine AMx.blk ?_
        refine AMx.region (ces := []) (ks := [0, 1, 5]) (hs := []) (cs := [InR .i64 ((i : Int) + 1)]) (s' := AS.lst 26 [(0, vc (slP a)), (1, vc (slP b)), (5, vc (i6 ((i : Int) + 1)))] []) (by kernel_rfl) ?_ ?_
        · exact (show InR .i64 ((i : Int) + 1) from (inR64 (by omega) (by omega)))
        refine AMx.ent_inv (s' := AS.lst 26 [(0, vc (slP a)), (1, vc (slP b)), (5, vc (i6 ((i : Int) + 1)))] []) (ent_proj [0, 1, 5] []) ?_
        refine AMx.inv ⟨_, ?_, i + 1, ?_, rfl, ?_⟩
        rotate_left
        · exact ⟨by omega, Lib.same_step ([], 0) a b i (by omega) (by omega) hE (by grind)⟩
        · rfl
        · omega
    · try simp only [decide_eq_true_eq, decide_eq_false_iff_not] at hc2
      refine AMx.exit ?_
      refine AMx.code_exit ?_
      refine AMx.inv_exit ?_
      refine AMx.blk_exit ?_
      refine AMx.seq ?_
      refine AMx.region (ces := []) (ks := [4]) (hs := []) (cs := []) (s' := AS.lst 26 [(4, vc (bo true))] []) (by kernel_rfl) ?_ ?_
      · exact trivial
      refine AMx.ret ?_
      exact RetP.mk (r := vc (bo true)) (by kernel_rfl) (by rw [decide_eq_true (Lib.same_end a b i (by omega) (by omega) hE)])

end AL.Policy
