/- route: the contracts of its functions, by their walks. No condition. -/
import Derived.Test.YtkpgnlcjolmdlaaDoorRouteB
import Derived.Test.YtkpgnlcjolmdlaaDoorRouteE
namespace AL.Route
open Go Go.Proofs AL AL.Rune
set_option linter.unusedVariables false
set_option linter.unusedSimpArgs false

theorem f42_body : Tryd.f42.body = some (.seq (.region 0 (rg Tryd.f42 0) false) (.seq (.region 1 (rg Tryd.f42 1) false) (.seq (.region 2 (rg Tryd.f42 2) false) (.seq (.seq (.region 3 (rg Tryd.f42 3) false) (.block 0 (.loop (.seq (.seq (.region 4 (rg Tryd.f42 4) false) (.cond (.tmp 9) (.skip) (.exit 0))) (.seq (.block 1 (.seq (.region 6 (rg Tryd.f42 6) false) (.cond (.tmp 21) (.seq (.region 7 (rg Tryd.f42 7) false) (.region 8 (rg Tryd.f42 8) false)) (.skip)))) (.region 5 (rg Tryd.f42 5) false)))))) (.seq (.region 9 (rg Tryd.f42 9) false) (.ret)))))) := by kernel_rfl

set_option maxRecDepth 100000 in
set_option maxHeartbeats 8000000 in
theorem Pieces_c (s : Bytes) (hb : s.length ≤ 100000) : Pure Tryd.prog 42 [tc (st s)] (vc (AL.Fnv.slS (piecesS s))) := by
  refine Pure.of_body Tryd.func42 f42_body (by kernel_rfl) Tryd.ntmps42 (by kernel_rfl) (by kernel_rfl) ?_
  refine AMx.seq ?_
  refine AMx.region (ces := []) (ks := [0]) (hs := []) (cs := []) (s' := AS.lst 32 [(0, vc (st s))] []) (by kernel_rfl) ?_ ?_
  · exact trivial
  refine AMx.seq ?_
  refine AMx.region (ces := []) (ks := [0, 3]) (hs := []) (cs := []) (s' := AS.lst 32 [(0, vc (st s)), (3, vc (SC.nilsl))] []) (by kernel_rfl) ?_ ?_
  · exact trivial
  refine AMx.seq ?_
  refine AMx.region (ces := []) (ks := [0, 3, 4]) (hs := []) (cs := []) (s' := AS.lst 32 [(0, vc (st s)), (3, vc (SC.nilsl)), (4, vc (i6 0))] []) (by kernel_rfl) ?_ ?_
  · exact trivial
  refine AMx.seq ?_
  refine AMx.seq ?_
  refine AMx.region (ces := []) (ks := [0, 3, 4, 5]) (hs := []) (cs := []) (s' := AS.lst 32 [(0, vc (st s)), (3, vc (SC.nilsl)), (4, vc (i6 0)), (5, vc (i6 0))] []) (by kernel_rfl) ?_ ?_
  · exact trivial
  refine AMx.block ?_
  refine AMx.ent (s' := AS.lst 32 [(0, vc (st s)), (3, vo 3), (4, vc (i6 0)), (5, vc (i6 0))] [(3, AObj.grow 9 1 Bytes [] AL.Fnv.rowS [])]) (ent_adopt (t := 3) (d := 3) 9 1 Bytes [] AL.Fnv.rowS (by kernel_rfl) (by kernel_rfl) (by kernel_rfl) (by kernel_rfl)) ?_
  refine AMx.ent (s' := AS.lst 32 [(0, vc (st s)), (3, vo 3), (4, vc (i6 0)), (5, vc (i6 0))] [(3, AObj.grow 9 1 Bytes [] AL.Fnv.rowS [])]) (ent_proj [0, 3, 4, 5] [3]) ?_
  refine AMx.loop (fun mm ss => ∃ (i : Nat) (f : Nat) (o : List Bytes), (PInv s i f o) ∧ mm = s.length + 1 - i ∧ ss = AS.lst 32 [(0, vc (st s)), (3, vo 3), (4, vc (i6 (f : Int))), (5, vc (i6 (i : Int)))] [(3, AObj.grow 9 1 Bytes [] AL.Fnv.rowS o)]) ⟨0, 0, [], ?_, rfl, ?_⟩ ?_
  · exact pinv_0 s
  · rfl
  rintro mm ss ⟨i, f, o, hP, rfl, rfl⟩
  refine AMx.seq ?_
  refine AMx.seq ?_
  refine AMx.region (ces := []) (ks := [0, 3, 4, 5, 9]) (hs := [3]) (cs := []) (s' := AS.lst 32 [(0, vc (st s)), (3, vo 3), (4, vc (i6 (f : Int))), (5, vc (i6 (i : Int))), (9, vc (bo (decide ((i : Int) ≤ (List.length s : Int)))))] [(3, AObj.grow 9 1 Bytes [] AL.Fnv.rowS o)]) (by kernel_rfl) ?_ ?_
  · exact trivial
  refine AMx.cond (b := decide ((i : Int) ≤ (List.length s : Int))) (by kernel_rfl) (fun hc1 => ?_) (fun hc1 => ?_)
  · try simp only [decide_eq_true_eq, decide_eq_false_iff_not] at hc1
    refine AMx.skip ?_
    refine AMx.seq ?_
    refine AMx.block ?_
    refine AMx.seq ?_
    refine AMx.region (ces := []) (ks := [0, 3, 4, 5, 21]) (hs := [3]) (cs := [((decide ((i : Int) = (List.length s : Int))) = false) → allP [], ((decide ((i : Int) = (List.length s : Int))) = false) → allP [], ((decide ((i : Int) = (List.length s : Int))) = false) → allP [(decide ((i : Int) = (List.length s : Int))) = false, (decide ((i : Int) = (List.length s : Int))) = false, (0 : Int) ≤ (i : Int), (i : Int) < List.length s], ((decide ((i : Int) = (List.length s : Int))) = false) → allP [(decide ((i : Int) = (List.length s : Int))) = false], (decide ((i : Int) = (List.length s : Int))) = false → allP [(decide ((i : Int) = (List.length s : Int))) = false]]) (s' := AS.lst 32 [(0, vc (st s)), (3, vo 3), (4, vc (i6 (f : Int))), (5, vc (i6 (i : Int))), (21, vc (bo ((decide ((i : Int) = (List.length s : Int))) || (decide (((List.getD s i 0).toNat : Int) = 47)))))] [(3, AObj.grow 9 1 Bytes [] AL.Fnv.rowS o)]) (by kernel_rfl) ?_ ?_
    · exact ⟨(fun _ => trivial), (fun _ => trivial), (fun hp => by have hq := hp; (try simp only [decide_eq_true_eq, decide_eq_false_iff_not, Bool.and_eq_true, Bool.or_eq_true, Bool.and_eq_false_iff, Bool.or_eq_false_iff, Bool.not_eq_true', Bool.not_eq_false', Bool.not_eq_true, Bool.not_eq_false] at hq); exact ⟨hp, hp, (show (0 : Int) ≤ (i : Int) from (by first | omega | (have hz := pinv_len hP; omega))), (show (i : Int) < List.length s from (by first | omega | (have hz := pinv_len hP; omega)))⟩), (fun hp => hp), (fun hp2 => (by first | exact hp2 | exact ⟨hp, hp2⟩))⟩
    refine AMx.cond (b := ((decide ((i : Int) = (List.length s : Int))) || (decide (((List.getD s i 0).toNat : Int) = 47)))) (by kernel_rfl) (fun hc2 => ?_) (fun hc2 => ?_)
    · try simp only [decide_eq_true_eq, decide_eq_false_iff_not, Bool.or_eq_true, Bool.or_eq_false_iff] at hc2
      refine AMx.seq ?_
      refine AMx.region (ces := [(5, CE.obj (AObj.grow 9 1 Bytes [] AL.Fnv.rowS [List.drop f (List.take i s)])), (6, CE.obj (AObj.grow 9 1 Bytes [] AL.Fnv.rowS (o ++ [List.drop f (List.take i s)])))]) (ks := [0, 3, 5]) (hs := [28]) (cs := [0 ≤ (i : Int), (i : Int) ≤ List.length s, 0 ≤ (f : Int), (f : Int) ≤ (i : Int), flat 1 AL.Fnv.rowS [List.drop f (List.take i s)] = [.s (st (List.drop f (List.take i s)))], List.length ([List.drop f (List.take i s)] : List Bytes) = 1, AppC (flat 1 AL.Fnv.rowS [List.drop f (List.take i s)]) (List.length ([List.drop f (List.take i s)] : List Bytes)) 16 (AObj.grow 9 1 Bytes [] AL.Fnv.rowS o) (AObj.grow 9 1 Bytes [] AL.Fnv.rowS (o ++ [List.drop f (List.take i s)]))]) (s' := AS.lst 32 [(0, vc (st s)), (3, vo 28), (5, vc (i6 (i : Int)))] [(28, AObj.grow 9 1 Bytes [] AL.Fnv.rowS (o ++ [List.drop f (List.take i s)]))]) (by kernel_rfl) ?_ ?_
      · exact ⟨(show 0 ≤ (i : Int) from (by first | omega | (have hz := pinv_len hP; omega))), (show (i : Int) ≤ List.length s from (by first | omega | (have hz := pinv_len hP; omega))), (show 0 ≤ (f : Int) from (by first | omega | (have hz := pinv_len hP; omega))), (show (f : Int) ≤ (i : Int) from (by first | omega | (have hz := pinv_len hP; omega))), rfl, rfl, (⟨_, rfl, rfl, rfl, by have hz := pinv_len hP; simp only [List.length_cons, List.length_nil]; omega, by have hz := pinv_len hP; simp only [maxLen, List.length_cons, List.length_nil]; omega⟩)⟩
      refine AMx.region (ces := []) (ks := [0, 3, 4, 5]) (hs := [28]) (cs := [InR .i64 ((i : Int) + 1)]) (s' := AS.lst 32 [(0, vc (st s)), (3, vo 28), (4, vc (i6 ((i : Int) + 1))), (5, vc (i6 (i : Int)))] [(28, AObj.grow 9 1 Bytes [] AL.Fnv.rowS (o ++ [List.drop f (List.take i s)]))]) (by kernel_rfl) ?_ ?_
      · exact (show InR .i64 ((i : Int) + 1) from (inR64 (by first | omega | (have hz := pinv_len hP; omega)) (by first | omega | (have hz := pinv_len hP; omega))))
      refine AMx.blk ?_
      refine AMx.region (ces := []) (ks := [0, 3, 4, 5]) (hs := [28]) (cs := [InR .i64 ((i : Int) + 1)]) (s' := AS.lst 32 [(0, vc (st s)), (3, vo 28), (4, vc (i6 ((i : Int) + 1))), (5, vc (i6 ((i : Int) + 1)))] [(28, AObj.grow 9 1 Bytes [] AL.Fnv.rowS (o ++ [List.drop f (List.take i s)]))]) (by kernel_rfl) ?_ ?_
      · exact (show InR .i64 ((i : Int) + 1) from (inR64 (by first | omega | (have hz := pinv_len hP; omega)) (by first | omega | (have hz := pinv_len hP; omega))))
      refine AMx.ent_inv (s' := AS.lst 32 [(0, vc (st s)), (3, vo 3), (4, vc (i6 ((i : Int) + 1))), (5, vc (i6 ((i : Int) + 1)))] [(3, AObj.grow 9 1 Bytes [] AL.Fnv.rowS (o ++ [List.drop f (List.take i s)]))]) (ent_swap 28 3 (by kernel_rfl) (by kernel_rfl)) ?_
      refine AMx.ent_inv (s' := AS.lst 32 [(0, vc (st s)), (3, vo 3), (4, vc (i6 ((i : Int) + 1))), (5, vc (i6 ((i : Int) + 1)))] [(3, AObj.grow 9 1 Bytes [] AL.Fnv.rowS (o ++ [List.drop f (List.take i s)]))]) (ent_proj [0, 3, 4, 5] [3]) ?_
      refine AMx.inv ⟨_, ?_, i + 1, i + 1, o ++ [List.drop f (List.take i s)], ?_, rfl, ?_⟩
      rotate_left
      · exact pinv_hit hP (by omega) (by omega)
      · rfl
      · omega
    · try simp only [decide_eq_true_eq, decide_eq_false_iff_not, Bool.or_eq_true, Bool.or_eq_false_iff] at hc2
      refine AMx.skip ?_
      refine AMx.blk ?_
      refine AMx.region (ces := []) (ks := [0, 3, 4, 5]) (hs := [3]) (cs := [InR .i64 ((i : Int) + 1)]) (s' := AS.lst 32 [(0, vc (st s)), (3, vo 3), (4, vc (i6 (f : Int))), (5, vc (i6 ((i : Int) + 1)))] [(3, AObj.grow 9 1 Bytes [] AL.Fnv.rowS o)]) (by kernel_rfl) ?_ ?_
      · exact (show InR .i64 ((i : Int) + 1) from (inR64 (by first | omega | (have hz := pinv_len hP; omega)) (by first | omega | (have hz := pinv_len hP; omega))))
      refine AMx.ent_inv (s' := AS.lst 32 [(0, vc (st s)), (3, vo 3), (4, vc (i6 (f : Int))), (5, vc (i6 ((i : Int) + 1)))] [(3, AObj.grow 9 1 Bytes [] AL.Fnv.rowS o)]) (ent_proj [0, 3, 4, 5] [3]) ?_
      refine AMx.inv ⟨_, ?_, i + 1, f, o, ?_, rfl, ?_⟩
      rotate_left
      · exact pinv_not hP (by omega) (by omega)
      · rfl
      · omega
  · try simp only [decide_eq_true_eq, decide_eq_false_iff_not] at hc1
    refine AMx.exit ?_
    refine AMx.code_exit ?_
    refine AMx.inv_exit ?_
    refine AMx.blk_exit ?_
    refine AMx.seq ?_
    refine AMx.region (ces := []) (ks := [2]) (hs := [3]) (cs := []) (s' := AS.lst 32 [(2, vo 3)] [(3, AObj.grow 9 1 Bytes [] AL.Fnv.rowS o)]) (by kernel_rfl) ?_ ?_
    · exact trivial
    refine AMx.ent (s' := AS.lst 32 [(2, vc (AL.Fnv.slS o))] []) (ent_freeze (id := 3) (T := 9) (by kernel_rfl)) ?_
    refine AMx.ret ?_
    exact RetP.mk (r := vc (AL.Fnv.slS o)) (by kernel_rfl) (by rw [pinv_end hP (by omega)])

theorem f50_body : Tryd.f50.body = some (.seq (.region 0 (rg Tryd.f50 0) false) (.seq (.seq (.region 1 (rg Tryd.f50 1) false) (.cond (.tmp 13) (.seq (.region 2 (rg Tryd.f50 2) false) (.ret)) (.skip))) (.seq (.seq (.region 3 (rg Tryd.f50 3) false) (.cond (.tmp 15) (.seq (.region 4 (rg Tryd.f50 4) false) (.ret)) (.skip))) (.seq (.seq (.region 5 (rg Tryd.f50 5) false) (.cond (.tmp 20) (.region 6 (rg Tryd.f50 6) false) (.skip))) (.seq (.region 7 (rg Tryd.f50 7) false) (.seq (.region 8 (rg Tryd.f50 8) false) (.seq (.region 9 (rg Tryd.f50 9) false) (.seq (.region 10 (rg Tryd.f50 10) false) (.seq (.block 0 (.loop (.seq (.seq (.region 11 (rg Tryd.f50 11) false) (.cond (.tmp 36) (.skip) (.exit 0))) (.block 1 (.seq (.region 12 (rg Tryd.f50 12) false) (.seq (.seq (.region 13 (rg Tryd.f50 13) false) (.cond (.tmp 41) (.exit 0) (.skip))) (.seq (.region 14 (rg Tryd.f50 14) false) (.seq (.region 15 (rg Tryd.f50 15) false) (.region 16 (rg Tryd.f50 16) false))))))))) (.seq (.region 17 (rg Tryd.f50 17) false) (.seq (.region 18 (rg Tryd.f50 18) false) (.ret)))))))))))) := by kernel_rfl

set_option maxRecDepth 100000 in
set_option maxHeartbeats 8000000 in
theorem genSplit_c (s : Bytes) (hb : s.length ≤ 100000) : Pure Tryd.prog 50 [tc (st s), tc (st [47]), tc (i6 0), tc (i6 (-1))] (vc (AL.Fnv.slS (piecesS s))) := by
  refine Pure.of_body Tryd.func50 f50_body (by kernel_rfl) Tryd.ntmps50 (by kernel_rfl) (by kernel_rfl) ?_
  have hn := split_n s
  have hcn : List.count (47 : UInt8) s ≤ s.length := List.count_le_length
  refine AMx.seq ?_
  refine AMx.region (ces := []) (ks := [0, 1, 2, 3]) (hs := []) (cs := []) (s' := AS.lst 66 [(0, vc (st s)), (1, vc (st [47])), (2, vc (i6 0)), (3, vc (i6 (-1)))] []) (by kernel_rfl) ?_ ?_
  · exact trivial
  refine AMx.seq ?_
  refine AMx.seq ?_
  refine AMx.region (ces := []) (ks := [0, 1, 2, 3, 13]) (hs := []) (cs := []) (s' := AS.lst 66 [(0, vc (st s)), (1, vc (st [47])), (2, vc (i6 0)), (3, vc (i6 (-1))), (13, vc (bo false))] []) (by kernel_rfl) ?_ ?_
  · exact trivial
  refine AMx.cond (b := false) (by kernel_rfl) (fun hc1 => ?_) (fun hc1 => ?_)
  · skip
    cases hc1
  · skip
    refine AMx.skip ?_
    refine AMx.seq ?_
    refine AMx.seq ?_
    refine AMx.region (ces := []) (ks := [0, 1, 2, 3, 15]) (hs := []) (cs := []) (s' := AS.lst 66 [(0, vc (st s)), (1, vc (st [47])), (2, vc (i6 0)), (3, vc (i6 (-1))), (15, vc (bo false))] []) (by kernel_rfl) ?_ ?_
    · exact trivial
    refine AMx.cond (b := false) (by kernel_rfl) (fun hc2 => ?_) (fun hc2 => ?_)
    · skip
      cases hc2
    · skip
      refine AMx.skip ?_
      refine AMx.seq ?_
      refine AMx.seq ?_
      refine AMx.region (ces := []) (ks := [0, 1, 2, 3, 20]) (hs := []) (cs := []) (s' := AS.lst 66 [(0, vc (st s)), (1, vc (st [47])), (2, vc (i6 0)), (3, vc (i6 (-1))), (20, vc (bo true))] []) (by kernel_rfl) ?_ ?_
      · exact trivial
      refine AMx.cond (b := true) (by kernel_rfl) (fun hc3 => ?_) (fun hc3 => ?_)
      · skip
        refine AMx.region (ces := [(2, CE.call [] [] (vc (i6 ((List.count (47 : UInt8) s : Nat) : Int))) [])]) (ks := [0, 1, 2, 3]) (hs := []) (cs := [Spec Tryd.prog 61 [tc (st s), tc (st [47])] (ofH []) (vc (i6 ((List.count (47 : UInt8) s : Nat) : Int))) (ofH []), InR .i64 (((List.count (47 : UInt8) s : Nat) : Int) + 1)]) (s' := AS.lst 66 [(0, vc (st s)), (1, vc (st [47])), (2, vc (i6 0)), (3, vc (i6 (((List.count (47 : UInt8) s : Nat) : Int) + 1)))] []) (by kernel_rfl) ?_ ?_
        · exact ⟨(Count_c s), (show InR .i64 (((List.count (47 : UInt8) s : Nat) : Int) + 1) from (inR64 (by first | omega | (have hx := index_rng c; first | omega | (simp only [List.length_cons, List.length_nil]; omega) | (have hz := split_le hP; first | omega | (simp only [List.length_append, List.length_replicate, List.length_set]; omega)))) (by first | omega | (have hx := index_rng c; first | omega | (simp only [List.length_cons, List.length_nil]; omega) | (have hz := split_le hP; first | omega | (simp only [List.length_append, List.length_replicate, List.length_set]; omega))))))⟩
        refine AMx.seq ?_
        refine AMx.region (ces := []) (ks := [0, 1, 2, 3]) (hs := []) (cs := [InR .i64 ((List.length s : Int) + 1)]) (s' := AS.lst 66 [(0, vc (st s)), (1, vc (st [47])), (2, vc (i6 0)), (3, vc (i6 (min (((List.count (47 : UInt8) s : Nat) : Int) + 1) ((List.length s : Int) + 1))))] []) (by kernel_rfl) ?_ ?_
        · exact (show InR .i64 ((List.length s : Int) + 1) from (inR64 (by first | omega | (have hx := index_rng c; first | omega | (simp only [List.length_cons, List.length_nil]; omega) | (have hz := split_le hP; first | omega | (simp only [List.length_append, List.length_replicate, List.length_set]; omega)))) (by first | omega | (have hx := index_rng c; first | omega | (simp only [List.length_cons, List.length_nil]; omega) | (have hz := split_le hP; first | omega | (simp only [List.length_append, List.length_replicate, List.length_set]; omega))))))
        refine AMx.seq ?_
        refine AMx.region (ces := [(1, CE.obj (AObj.grow 9 1 Bytes [] AL.Fnv.rowS (List.replicate (min (((List.count (47 : UInt8) s : Nat) : Int) + 1) ((List.length s : Int) + 1)).toNat [])))]) (ks := [0, 1, 2, 3, 9]) (hs := [31]) (cs := [0 ≤ min (((List.count (47 : UInt8) s : Nat) : Int) + 1) ((List.length s : Int) + 1), min (((List.count (47 : UInt8) s : Nat) : Int) + 1) ((List.length s : Int) + 1) ≤ min (((List.count (47 : UInt8) s : Nat) : Int) + 1) ((List.length s : Int) + 1), (16 : Int) * (min (((List.count (47 : UInt8) s : Nat) : Int) + 1) ((List.length s : Int) + 1)) ≤ 281474976710656, min (((List.count (47 : UInt8) s : Nat) : Int) + 1) ((List.length s : Int) + 1) ≤ 9223372036854775807, MakeC (min (((List.count (47 : UInt8) s : Nat) : Int) + 1) ((List.length s : Int) + 1)).toNat [.s (st [])] (AObj.grow 9 1 Bytes [] AL.Fnv.rowS (List.replicate (min (((List.count (47 : UInt8) s : Nat) : Int) + 1) ((List.length s : Int) + 1)).toNat []))]) (s' := AS.lst 66 [(0, vc (st s)), (1, vc (st [47])), (2, vc (i6 0)), (3, vc (i6 (min (((List.count (47 : UInt8) s : Nat) : Int) + 1) ((List.length s : Int) + 1)))), (9, vo 31)] [(31, AObj.grow 9 1 Bytes [] AL.Fnv.rowS (List.replicate (min (((List.count (47 : UInt8) s : Nat) : Int) + 1) ((List.length s : Int) + 1)).toNat []))]) (by kernel_rfl) ?_ ?_
        · exact ⟨(show 0 ≤ min (((List.count (47 : UInt8) s : Nat) : Int) + 1) ((List.length s : Int) + 1) from (by first | omega | (have hx := index_rng c; first | omega | (simp only [List.length_cons, List.length_nil]; omega) | (have hz := split_le hP; first | omega | (simp only [List.length_append, List.length_replicate, List.length_set]; omega))))), (show min (((List.count (47 : UInt8) s : Nat) : Int) + 1) ((List.length s : Int) + 1) ≤ min (((List.count (47 : UInt8) s : Nat) : Int) + 1) ((List.length s : Int) + 1) from (by first | omega | (have hx := index_rng c; first | omega | (simp only [List.length_cons, List.length_nil]; omega) | (have hz := split_le hP; first | omega | (simp only [List.length_append, List.length_replicate, List.length_set]; omega))))), (show (16 : Int) * (min (((List.count (47 : UInt8) s : Nat) : Int) + 1) ((List.length s : Int) + 1)) ≤ 281474976710656 from (by first | omega | (have hx := index_rng c; first | omega | (simp only [List.length_cons, List.length_nil]; omega) | (have hz := split_le hP; first | omega | (simp only [List.length_append, List.length_replicate, List.length_set]; omega))))), (show min (((List.count (47 : UInt8) s : Nat) : Int) + 1) ((List.length s : Int) + 1) ≤ 9223372036854775807 from (by first | omega | (have hx := index_rng c; first | omega | (simp only [List.length_cons, List.length_nil]; omega) | (have hz := split_le hP; first | omega | (simp only [List.length_append, List.length_replicate, List.length_set]; omega))))), (⟨_, rfl, rfl⟩)⟩
        refine AMx.seq ?_
        refine AMx.region (ces := []) (ks := [0, 1, 2, 3, 9]) (hs := [31]) (cs := [InR .i64 ((min (((List.count (47 : UInt8) s : Nat) : Int) + 1) ((List.length s : Int) + 1)) - 1)]) (s' := AS.lst 66 [(0, vc (st s)), (1, vc (st [47])), (2, vc (i6 0)), (3, vc (i6 ((min (((List.count (47 : UInt8) s : Nat) : Int) + 1) ((List.length s : Int) + 1)) - 1))), (9, vo 31)] [(31, AObj.grow 9 1 Bytes [] AL.Fnv.rowS (List.replicate (min (((List.count (47 : UInt8) s : Nat) : Int) + 1) ((List.length s : Int) + 1)).toNat []))]) (by kernel_rfl) ?_ ?_
        · exact (show InR .i64 ((min (((List.count (47 : UInt8) s : Nat) : Int) + 1) ((List.length s : Int) + 1)) - 1) from (inR64 (by first | omega | (have hx := index_rng c; first | omega | (simp only [List.length_cons, List.length_nil]; omega) | (have hz := split_le hP; first | omega | (simp only [List.length_append, List.length_replicate, List.length_set]; omega)))) (by first | omega | (have hx := index_rng c; first | omega | (simp only [List.length_cons, List.length_nil]; omega) | (have hz := split_le hP; first | omega | (simp only [List.length_append, List.length_replicate, List.length_set]; omega))))))
        refine AMx.seq ?_
        refine AMx.region (ces := []) (ks := [0, 1, 2, 3, 9, 10]) (hs := [31]) (cs := []) (s' := AS.lst 66 [(0, vc (st s)), (1, vc (st [47])), (2, vc (i6 0)), (3, vc (i6 ((min (((List.count (47 : UInt8) s : Nat) : Int) + 1) ((List.length s : Int) + 1)) - 1))), (9, vo 31), (10, vc (i6 0))] [(31, AObj.grow 9 1 Bytes [] AL.Fnv.rowS (List.replicate (min (((List.count (47 : UInt8) s : Nat) : Int) + 1) ((List.length s : Int) + 1)).toNat []))]) (by kernel_rfl) ?_ ?_
        · exact trivial
        refine AMx.seq ?_
        refine AMx.block ?_
        refine AMx.ent (s' := AS.lst 66 [(0, vc (st s)), (1, vc (st [47])), (2, vc (i6 0)), (3, vc (i6 ((min (((List.count (47 : UInt8) s : Nat) : Int) + 1) ((List.length s : Int) + 1)) - 1))), (9, vo 31), (10, vc (i6 0))] [(31, AObj.grow 9 1 Bytes [] AL.Fnv.rowS (List.replicate (min (((List.count (47 : UInt8) s : Nat) : Int) + 1) ((List.length s : Int) + 1)).toNat []))]) (ent_proj [0, 1, 2, 3, 9, 10] [31]) ?_
        refine AMx.loop (fun mm ss => ∃ (o : List Bytes) (c : Bytes), (piecesS s = o ++ piecesS c ∧ c.length ≤ s.length) ∧ mm = c.length ∧ ss = AS.lst 66 [(0, vc (st c)), (1, vc (st [47])), (2, vc (i6 0)), (3, vc (i6 ((min (((List.count (47 : UInt8) s : Nat) : Int) + 1) ((List.length s : Int) + 1)) - 1))), (9, vo 31), (10, vc (i6 (List.length o : Int)))] [(31, AObj.grow 9 1 Bytes [] AL.Fnv.rowS (o ++ List.replicate (piecesS c).length []))]) ⟨[], s, ?_, rfl, ?_⟩ ?_
        · exact ⟨rfl, Nat.le_refl _⟩
        · rw [hn]; rfl
        rintro mm ss ⟨o, c, ⟨hP, hL⟩, rfl, rfl⟩
        refine AMx.seq ?_
        refine AMx.seq ?_
        refine AMx.region (ces := []) (ks := [0, 1, 2, 3, 9, 10, 36]) (hs := [31]) (cs := []) (s' := AS.lst 66 [(0, vc (st c)), (1, vc (st [47])), (2, vc (i6 0)), (3, vc (i6 ((min (((List.count (47 : UInt8) s : Nat) : Int) + 1) ((List.length s : Int) + 1)) - 1))), (9, vo 31), (10, vc (i6 (List.length o : Int))), (36, vc (bo (decide ((List.length o : Int) < (min (((List.count (47 : UInt8) s : Nat) : Int) + 1) ((List.length s : Int) + 1)) - 1))))] [(31, AObj.grow 9 1 Bytes [] AL.Fnv.rowS (o ++ List.replicate (piecesS c).length []))]) (by kernel_rfl) ?_ ?_
        · exact trivial
        refine AMx.cond (b := decide ((List.length o : Int) < (min (((List.count (47 : UInt8) s : Nat) : Int) + 1) ((List.length s : Int) + 1)) - 1)) (by kernel_rfl) (fun hc4 => ?_) (fun hc4 => ?_)
        · try simp only [decide_eq_true_eq, decide_eq_false_iff_not] at hc4
          refine AMx.skip ?_
          refine AMx.block ?_
          refine AMx.seq ?_
          refine AMx.region (ces := [(2, CE.call [] [] (vc (i6 (Go.Lib.indexByte c 47))) [])]) (ks := [0, 1, 2, 3, 9, 10, 11]) (hs := [31]) (cs := [Spec Tryd.prog 62 [tc (st c), tc (st [47])] (ofH []) (vc (i6 (Go.Lib.indexByte c 47))) (ofH [])]) (s' := AS.lst 66 [(0, vc (st c)), (1, vc (st [47])), (2, vc (i6 0)), (3, vc (i6 ((min (((List.count (47 : UInt8) s : Nat) : Int) + 1) ((List.length s : Int) + 1)) - 1))), (9, vo 31), (10, vc (i6 (List.length o : Int))), (11, vc (i6 (Go.Lib.indexByte c 47)))] [(31, AObj.grow 9 1 Bytes [] AL.Fnv.rowS (o ++ List.replicate (piecesS c).length []))]) (by kernel_rfl) ?_ ?_
          · exact (Index_c c)
          refine AMx.seq ?_
          refine AMx.seq ?_
          refine AMx.region (ces := []) (ks := [0, 1, 2, 3, 9, 10, 11, 41]) (hs := [31]) (cs := []) (s' := AS.lst 66 [(0, vc (st c)), (1, vc (st [47])), (2, vc (i6 0)), (3, vc (i6 ((min (((List.count (47 : UInt8) s : Nat) : Int) + 1) ((List.length s : Int) + 1)) - 1))), (9, vo 31), (10, vc (i6 (List.length o : Int))), (11, vc (i6 (Go.Lib.indexByte c 47))), (41, vc (bo (decide (Go.Lib.indexByte c 47 < 0))))] [(31, AObj.grow 9 1 Bytes [] AL.Fnv.rowS (o ++ List.replicate (piecesS c).length []))]) (by kernel_rfl) ?_ ?_
          · exact trivial
          refine AMx.cond (b := decide (Go.Lib.indexByte c 47 < 0)) (by kernel_rfl) (fun hc5 => ?_) (fun hc5 => ?_)
          · try simp only [decide_eq_true_eq, decide_eq_false_iff_not] at hc5
            refine AMx.exit ?_
            refine AMx.code_exit ?_
            refine AMx.blk_pass rfl ?_
            refine AMx.inv_exit ?_
            refine AMx.blk_exit ?_
            refine AMx.seq ?_
            refine AMx.region (ces := [(4, CE.obj (AObj.grow 9 1 Bytes [] AL.Fnv.rowS (List.set (o ++ List.replicate (piecesS c).length []) (List.length o) c)))]) (ks := [9, 10]) (hs := [31]) (cs := [(0 : Int) ≤ (List.length o : Int), (List.length o : Int) < List.length (o ++ List.replicate (piecesS c).length [] : List Bytes), StoreC (List.length o) 0 [.s (st c)] (AObj.grow 9 1 Bytes [] AL.Fnv.rowS (o ++ List.replicate (piecesS c).length [])) (AObj.grow 9 1 Bytes [] AL.Fnv.rowS (List.set (o ++ List.replicate (piecesS c).length []) (List.length o) c))]) (s' := AS.lst 66 [(9, vo 31), (10, vc (i6 (List.length o : Int)))] [(31, AObj.grow 9 1 Bytes [] AL.Fnv.rowS (List.set (o ++ List.replicate (piecesS c).length []) (List.length o) c))]) (by kernel_rfl) ?_ ?_
            · exact ⟨(show (0 : Int) ≤ (List.length o : Int) from (by first | omega | (have hx := index_rng c; first | omega | (simp only [List.length_cons, List.length_nil]; omega) | (have hz := split_le hP; first | omega | (simp only [List.length_append, List.length_replicate, List.length_set]; omega))))), (show (List.length o : Int) < List.length (o ++ List.replicate (piecesS c).length [] : List Bytes) from (by first | omega | (have hx := index_rng c; first | omega | (simp only [List.length_cons, List.length_nil]; omega) | (have hz := split_le hP; first | omega | (simp only [List.length_append, List.length_replicate, List.length_set]; omega))))), (⟨c, rfl, by first | omega | (have hx := index_rng c; first | omega | (simp only [List.length_cons, List.length_nil]; omega) | (have hz := split_le hP; first | omega | (simp only [List.length_append, List.length_replicate, List.length_set]; omega))), rfl⟩)⟩
            refine AMx.seq ?_
            refine AMx.region (ces := []) (ks := [8]) (hs := [65]) (cs := [InR .i64 ((List.length o : Int) + 1), 0 ≤ (List.length o : Int) + 1, (List.length o : Int) + 1 ≤ (List.length (List.set (o ++ List.replicate (piecesS c).length []) (List.length o) c : List Bytes) : Int)]) (s' := AS.lst 66 [(8, vo 65)] [(65, AObj.grow 9 1 Bytes [] AL.Fnv.rowS (List.take ((List.length o) + 1) (List.set (o ++ List.replicate (piecesS c).length []) (List.length o) c)))]) (by kernel_rfl) ?_ ?_
            · exact ⟨(show InR .i64 ((List.length o : Int) + 1) from (inR64 (by first | omega | (have hx := index_rng c; first | omega | (simp only [List.length_cons, List.length_nil]; omega) | (have hz := split_le hP; first | omega | (simp only [List.length_append, List.length_replicate, List.length_set]; omega)))) (by first | omega | (have hx := index_rng c; first | omega | (simp only [List.length_cons, List.length_nil]; omega) | (have hz := split_le hP; first | omega | (simp only [List.length_append, List.length_replicate, List.length_set]; omega)))))), (show 0 ≤ (List.length o : Int) + 1 from (by first | omega | (have hx := index_rng c; first | omega | (simp only [List.length_cons, List.length_nil]; omega) | (have hz := split_le hP; first | omega | (simp only [List.length_append, List.length_replicate, List.length_set]; omega))))), (show (List.length o : Int) + 1 ≤ (List.length (List.set (o ++ List.replicate (piecesS c).length []) (List.length o) c : List Bytes) : Int) from (by first | omega | (have hx := index_rng c; first | omega | (simp only [List.length_cons, List.length_nil]; omega) | (have hz := split_le hP; first | omega | (simp only [List.length_append, List.length_replicate, List.length_set]; omega)))))⟩
            refine AMx.ent (s' := AS.lst 66 [(8, vc (AL.Fnv.slS (List.take ((List.length o) + 1) (List.set (o ++ List.replicate (piecesS c).length []) (List.length o) c))))] []) (ent_freeze (id := 65) (T := 9) (by kernel_rfl)) ?_
            refine AMx.ret ?_
            exact RetP.mk (r := vc (AL.Fnv.slS (List.take ((List.length o) + 1) (List.set (o ++ List.replicate (piecesS c).length []) (List.length o) c)))) (by kernel_rfl) (by rw [split_end hP (by first | exact index_none (by omega) | exact split_last hP (by omega))])
          · try simp only [decide_eq_true_eq, decide_eq_false_iff_not] at hc5
            refine AMx.skip ?_
            refine AMx.seq ?_
            refine AMx.region (ces := [(8, CE.obj (AObj.grow 9 1 Bytes [] AL.Fnv.rowS (List.set (o ++ List.replicate (piecesS c).length []) (List.length o) (List.take ((Go.Lib.indexByte c 47) + 0).toNat c))))]) (ks := [0, 1, 2, 3, 9, 10, 11]) (hs := [31]) (cs := [InR .i64 ((Go.Lib.indexByte c 47) + 0), 0 ≤ (Go.Lib.indexByte c 47) + 0, (Go.Lib.indexByte c 47) + 0 ≤ List.length c, (0 : Int) ≤ (List.length o : Int), (List.length o : Int) < List.length (o ++ List.replicate (piecesS c).length [] : List Bytes), StoreC (List.length o) 0 [.s (st (List.take ((Go.Lib.indexByte c 47) + 0).toNat c))] (AObj.grow 9 1 Bytes [] AL.Fnv.rowS (o ++ List.replicate (piecesS c).length [])) (AObj.grow 9 1 Bytes [] AL.Fnv.rowS (List.set (o ++ List.replicate (piecesS c).length []) (List.length o) (List.take ((Go.Lib.indexByte c 47) + 0).toNat c)))]) (s' := AS.lst 66 [(0, vc (st c)), (1, vc (st [47])), (2, vc (i6 0)), (3, vc (i6 ((min (((List.count (47 : UInt8) s : Nat) : Int) + 1) ((List.length s : Int) + 1)) - 1))), (9, vo 31), (10, vc (i6 (List.length o : Int))), (11, vc (i6 (Go.Lib.indexByte c 47)))] [(31, AObj.grow 9 1 Bytes [] AL.Fnv.rowS (List.set (o ++ List.replicate (piecesS c).length []) (List.length o) (List.take ((Go.Lib.indexByte c 47) + 0).toNat c)))]) (by kernel_rfl) ?_ ?_
            · exact ⟨(show InR .i64 ((Go.Lib.indexByte c 47) + 0) from (inR64 (by first | omega | (have hx := index_rng c; first | omega | (simp only [List.length_cons, List.length_nil]; omega) | (have hz := split_le hP; first | omega | (simp only [List.length_append, List.length_replicate, List.length_set]; omega)))) (by first | omega | (have hx := index_rng c; first | omega | (simp only [List.length_cons, List.length_nil]; omega) | (have hz := split_le hP; first | omega | (simp only [List.length_append, List.length_replicate, List.length_set]; omega)))))), (show 0 ≤ (Go.Lib.indexByte c 47) + 0 from (by first | omega | (have hx := index_rng c; first | omega | (simp only [List.length_cons, List.length_nil]; omega) | (have hz := split_le hP; first | omega | (simp only [List.length_append, List.length_replicate, List.length_set]; omega))))), (show (Go.Lib.indexByte c 47) + 0 ≤ List.length c from (by first | omega | (have hx := index_rng c; first | omega | (simp only [List.length_cons, List.length_nil]; omega) | (have hz := split_le hP; first | omega | (simp only [List.length_append, List.length_replicate, List.length_set]; omega))))), (show (0 : Int) ≤ (List.length o : Int) from (by first | omega | (have hx := index_rng c; first | omega | (simp only [List.length_cons, List.length_nil]; omega) | (have hz := split_le hP; first | omega | (simp only [List.length_append, List.length_replicate, List.length_set]; omega))))), (show (List.length o : Int) < List.length (o ++ List.replicate (piecesS c).length [] : List Bytes) from (by first | omega | (have hx := index_rng c; first | omega | (simp only [List.length_cons, List.length_nil]; omega) | (have hz := split_le hP; first | omega | (simp only [List.length_append, List.length_replicate, List.length_set]; omega))))), (⟨List.take ((Go.Lib.indexByte c 47) + 0).toNat c, rfl, by first | omega | (have hx := index_rng c; first | omega | (simp only [List.length_cons, List.length_nil]; omega) | (have hz := split_le hP; first | omega | (simp only [List.length_append, List.length_replicate, List.length_set]; omega))), rfl⟩)⟩
            refine AMx.seq ?_
            refine AMx.region (ces := []) (ks := [0, 1, 2, 3, 9, 10]) (hs := [31]) (cs := [InR .i64 ((Go.Lib.indexByte c 47) + (List.length ([47] : List UInt8) : Int)), 0 ≤ (Go.Lib.indexByte c 47) + (List.length ([47] : List UInt8) : Int), (Go.Lib.indexByte c 47) + (List.length ([47] : List UInt8) : Int) ≤ List.length c]) (s' := AS.lst 66 [(0, vc (st (List.drop ((Go.Lib.indexByte c 47) + (List.length ([47] : List UInt8) : Int)).toNat c))), (1, vc (st [47])), (2, vc (i6 0)), (3, vc (i6 ((min (((List.count (47 : UInt8) s : Nat) : Int) + 1) ((List.length s : Int) + 1)) - 1))), (9, vo 31), (10, vc (i6 (List.length o : Int)))] [(31, AObj.grow 9 1 Bytes [] AL.Fnv.rowS (List.set (o ++ List.replicate (piecesS c).length []) (List.length o) (List.take ((Go.Lib.indexByte c 47) + 0).toNat c)))]) (by kernel_rfl) ?_ ?_
            · exact ⟨(show InR .i64 ((Go.Lib.indexByte c 47) + (List.length ([47] : List UInt8) : Int)) from (inR64 (by first | omega | (have hx := index_rng c; first | omega | (simp only [List.length_cons, List.length_nil]; omega) | (have hz := split_le hP; first | omega | (simp only [List.length_append, List.length_replicate, List.length_set]; omega)))) (by first | omega | (have hx := index_rng c; first | omega | (simp only [List.length_cons, List.length_nil]; omega) | (have hz := split_le hP; first | omega | (simp only [List.length_append, List.length_replicate, List.length_set]; omega)))))), (show 0 ≤ (Go.Lib.indexByte c 47) + (List.length ([47] : List UInt8) : Int) from (by first | omega | (have hx := index_rng c; first | omega | (simp only [List.length_cons, List.length_nil]; omega) | (have hz := split_le hP; first | omega | (simp only [List.length_append, List.length_replicate, List.length_set]; omega))))), (show (Go.Lib.indexByte c 47) + (List.length ([47] : List UInt8) : Int) ≤ List.length c from (by first | omega | (have hx := index_rng c; first | omega | (simp only [List.length_cons, List.length_nil]; omega) | (have hz := split_le hP; first | omega | (simp only [List.length_append, List.length_replicate, List.length_set]; omega)))))⟩
            refine AMx.region (ces := []) (ks := [0, 1, 2, 3, 9, 10]) (hs := [31]) (cs := [InR .i64 ((List.length o : Int) + 1)]) (s' := AS.lst 66 [(0, vc (st (List.drop ((Go.Lib.indexByte c 47) + (List.length ([47] : List UInt8) : Int)).toNat c))), (1, vc (st [47])), (2, vc (i6 0)), (3, vc (i6 ((min (((List.count (47 : UInt8) s : Nat) : Int) + 1) ((List.length s : Int) + 1)) - 1))), (9, vo 31), (10, vc (i6 ((List.length o : Int) + 1)))] [(31, AObj.grow 9 1 Bytes [] AL.Fnv.rowS (List.set (o ++ List.replicate (piecesS c).length []) (List.length o) (List.take ((Go.Lib.indexByte c 47) + 0).toNat c)))]) (by kernel_rfl) ?_ ?_
            · exact (show InR .i64 ((List.length o : Int) + 1) from (inR64 (by first | omega | (have hx := index_rng c; first | omega | (simp only [List.length_cons, List.length_nil]; omega) | (have hz := split_le hP; first | omega | (simp only [List.length_append, List.length_replicate, List.length_set]; omega)))) (by first | omega | (have hx := index_rng c; first | omega | (simp only [List.length_cons, List.length_nil]; omega) | (have hz := split_le hP; first | omega | (simp only [List.length_append, List.length_replicate, List.length_set]; omega))))))
            refine AMx.blk ?_
            refine AMx.ent_inv (s' := AS.lst 66 [(0, vc (st (List.drop ((Go.Lib.indexByte c 47) + (List.length ([47] : List UInt8) : Int)).toNat c))), (1, vc (st [47])), (2, vc (i6 0)), (3, vc (i6 ((min (((List.count (47 : UInt8) s : Nat) : Int) + 1) ((List.length s : Int) + 1)) - 1))), (9, vo 31), (10, vc (i6 ((List.length o : Int) + 1)))] [(31, AObj.grow 9 1 Bytes [] AL.Fnv.rowS (List.set (o ++ List.replicate (piecesS c).length []) (List.length o) (List.take ((Go.Lib.indexByte c 47) + 0).toNat c)))]) (ent_proj [0, 1, 2, 3, 9, 10] [31]) ?_
            refine AMx.inv ⟨_, ?_, o ++ [List.take (Go.Lib.indexByte c 47).toNat c], List.drop ((Go.Lib.indexByte c 47).toNat + 1) c, ?_, rfl, ?_⟩
            rotate_left
            · exact ⟨split_inv hP (by omega), by rw [List.length_drop]; omega⟩
            · rw [show (Go.Lib.indexByte c 47 + (0 : Int)).toNat = (Go.Lib.indexByte c 47).toNat by omega, show (Go.Lib.indexByte c 47 + (List.length ([47] : List UInt8) : Int)).toNat = (Go.Lib.indexByte c 47).toNat + 1 by simp only [List.length_cons, List.length_nil]; omega, split_step (by omega), List.length_append]; rfl
            · have hx := index_some (s := c) (by omega); rw [List.length_drop]; omega
        · try simp only [decide_eq_true_eq, decide_eq_false_iff_not] at hc4
          refine AMx.exit ?_
          refine AMx.code_exit ?_
          refine AMx.inv_exit ?_
          refine AMx.blk_exit ?_
          refine AMx.seq ?_
          refine AMx.region (ces := [(4, CE.obj (AObj.grow 9 1 Bytes [] AL.Fnv.rowS (List.set (o ++ List.replicate (piecesS c).length []) (List.length o) c)))]) (ks := [9, 10]) (hs := [31]) (cs := [(0 : Int) ≤ (List.length o : Int), (List.length o : Int) < List.length (o ++ List.replicate (piecesS c).length [] : List Bytes), StoreC (List.length o) 0 [.s (st c)] (AObj.grow 9 1 Bytes [] AL.Fnv.rowS (o ++ List.replicate (piecesS c).length [])) (AObj.grow 9 1 Bytes [] AL.Fnv.rowS (List.set (o ++ List.replicate (piecesS c).length []) (List.length o) c))]) (s' := AS.lst 66 [(9, vo 31), (10, vc (i6 (List.length o : Int)))] [(31, AObj.grow 9 1 Bytes [] AL.Fnv.rowS (List.set (o ++ List.replicate (piecesS c).length []) (List.length o) c))]) (by kernel_rfl) ?_ ?_
          · exact ⟨(show (0 : Int) ≤ (List.length o : Int) from (by first | omega | (have hx := index_rng c; first | omega | (simp only [List.length_cons, List.length_nil]; omega) | (have hz := split_le hP; first | omega | (simp only [List.length_append, List.length_replicate, List.length_set]; omega))))), (show (List.length o : Int) < List.length (o ++ List.replicate (piecesS c).length [] : List Bytes) from (by first | omega | (have hx := index_rng c; first | omega | (simp only [List.length_cons, List.length_nil]; omega) | (have hz := split_le hP; first | omega | (simp only [List.length_append, List.length_replicate, List.length_set]; omega))))), (⟨c, rfl, by first | omega | (have hx := index_rng c; first | omega | (simp only [List.length_cons, List.length_nil]; omega) | (have hz := split_le hP; first | omega | (simp only [List.length_append, List.length_replicate, List.length_set]; omega))), rfl⟩)⟩
          refine AMx.seq ?_
          refine AMx.region (ces := []) (ks := [8]) (hs := [65]) (cs := [InR .i64 ((List.length o : Int) + 1), 0 ≤ (List.length o : Int) + 1, (List.length o : Int) + 1 ≤ (List.length (List.set (o ++ List.replicate (piecesS c).length []) (List.length o) c : List Bytes) : Int)]) (s' := AS.lst 66 [(8, vo 65)] [(65, AObj.grow 9 1 Bytes [] AL.Fnv.rowS (List.take ((List.length o) + 1) (List.set (o ++ List.replicate (piecesS c).length []) (List.length o) c)))]) (by kernel_rfl) ?_ ?_
          · exact ⟨(show InR .i64 ((List.length o : Int) + 1) from (inR64 (by first | omega | (have hx := index_rng c; first | omega | (simp only [List.length_cons, List.length_nil]; omega) | (have hz := split_le hP; first | omega | (simp only [List.length_append, List.length_replicate, List.length_set]; omega)))) (by first | omega | (have hx := index_rng c; first | omega | (simp only [List.length_cons, List.length_nil]; omega) | (have hz := split_le hP; first | omega | (simp only [List.length_append, List.length_replicate, List.length_set]; omega)))))), (show 0 ≤ (List.length o : Int) + 1 from (by first | omega | (have hx := index_rng c; first | omega | (simp only [List.length_cons, List.length_nil]; omega) | (have hz := split_le hP; first | omega | (simp only [List.length_append, List.length_replicate, List.length_set]; omega))))), (show (List.length o : Int) + 1 ≤ (List.length (List.set (o ++ List.replicate (piecesS c).length []) (List.length o) c : List Bytes) : Int) from (by first | omega | (have hx := index_rng c; first | omega | (simp only [List.length_cons, List.length_nil]; omega) | (have hz := split_le hP; first | omega | (simp only [List.length_append, List.length_replicate, List.length_set]; omega)))))⟩
          refine AMx.ent (s' := AS.lst 66 [(8, vc (AL.Fnv.slS (List.take ((List.length o) + 1) (List.set (o ++ List.replicate (piecesS c).length []) (List.length o) c))))] []) (ent_freeze (id := 65) (T := 9) (by kernel_rfl)) ?_
          refine AMx.ret ?_
          exact RetP.mk (r := vc (AL.Fnv.slS (List.take ((List.length o) + 1) (List.set (o ++ List.replicate (piecesS c).length []) (List.length o) c)))) (by kernel_rfl) (by rw [split_end hP (by first | exact index_none (by omega) | exact split_last hP (by omega))])
      · skip
        cases hc3

end AL.Route
