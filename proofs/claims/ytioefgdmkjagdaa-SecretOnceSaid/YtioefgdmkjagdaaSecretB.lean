/- secret: the contracts of its functions, by their walks. No condition. -/
import Derived.Test.YtioefgdmkjagdaaSecretA
namespace AL.Secret
open Go Go.Proofs AL AL.Fnv
set_option linter.unusedVariables false
set_option linter.unusedSimpArgs false

theorem f107_body : Try.f107.body = some (.seq (.region 0 (rg Try.f107 0) false) (.seq (.seq (.region 1 (rg Try.f107 1) false) (.cond (.tmp 4) (.seq (.region 2 (rg Try.f107 2) false) (.ret)) (.skip))) (.seq (.region 3 (rg Try.f107 3) false) (.ret)))) := by kernel_rfl

set_option maxRecDepth 100000 in
set_option maxHeartbeats 8000000 in
theorem Clone_c (l : List RowV) (hb : l.length ≤ 100000) : ∀ d, Spec Try.prog 107 [tc (slR l)] H0 (vo d) (ofH [(d, AObj.grow 96 3 RowV (0, false, false) rowR l)]) := by
  refine Own.of_body Try.func107 f107_body (by kernel_rfl) Try.ntmps107 (by kernel_rfl) rfl ?_
  refine AMx.isnil 0 rfl (fun hnil0 => ?_) ?_
  · skip
    refine AMx.seq ?_
    refine AMx.region (ces := []) (ks := [0]) (hs := []) (cs := []) (s' := AS.lst 8 [(0, vc (SC.nilsl))] []) (by kernel_rfl) ?_ ?_
    · exact trivial
    refine AMx.seq ?_
    refine AMx.seq ?_
    refine AMx.region (ces := []) (ks := [0, 4]) (hs := []) (cs := []) (s' := AS.lst 8 [(0, vc (SC.nilsl)), (4, vc (bo true))] []) (by kernel_rfl) ?_ ?_
    · exact trivial
    refine AMx.cond (b := true) (by kernel_rfl) (fun hc1 => ?_) (fun hc1 => ?_)
    · skip
      refine AMx.seq ?_
      refine AMx.region (ces := []) (ks := [2]) (hs := []) (cs := []) (s' := AS.lst 8 [(2, vc (SC.nilsl))] []) (by kernel_rfl) ?_ ?_
      · exact trivial
      refine AMx.ent (s' := AS.lst 8 [(2, vo 2)] [(2, AObj.grow 96 3 RowV (0, false, false) rowR [])]) (ent_adopt (t := 2) (d := 2) 96 3 RowV (0, false, false) rowR (by kernel_rfl) (by kernel_rfl) (by kernel_rfl) (by kernel_rfl)) ?_
      refine AMx.ret ?_
      exact ⟨.inl rfl, 2, AObj.grow 96 3 RowV (0, false, false) rowR [], by kernel_rfl, by kernel_rfl, by first | rfl | (rw [hnil0])⟩
    · skip
      cases hc1
  · skip
    refine AMx.seq ?_
    refine AMx.region (ces := []) (ks := [0]) (hs := []) (cs := []) (s' := AS.lst 8 [(0, vc (SC.nn (slR l)))] []) (by kernel_rfl) ?_ ?_
    · exact trivial
    refine AMx.seq ?_
    refine AMx.seq ?_
    refine AMx.region (ces := []) (ks := [0, 4]) (hs := []) (cs := []) (s' := AS.lst 8 [(0, vc (SC.nn (slR l))), (4, vc (bo false))] []) (by kernel_rfl) ?_ ?_
    · exact trivial
    refine AMx.cond (b := false) (by kernel_rfl) (fun hc2 => ?_) (fun hc2 => ?_)
    · skip
      cases hc2
    · skip
      refine AMx.skip ?_
      refine AMx.seq ?_
      refine AMx.ent (ent_weak 0 (v' := vc (slR l)) (by kernel_rfl) (AV.le_t (TV.le_c AC.le_nn))) ?_
      refine AMx.region (ces := [(0, CE.obj (AObj.grow 96 3 RowV (0, false, false) rowR [])), (2, CE.obj (AObj.grow 96 3 RowV (0, false, false) rowR ([] ++ l)))]) (ks := [2]) (hs := [7]) (cs := [flat 3 rowR [] = [], List.length ([] : List RowV) = 0, AppC (flat 3 rowR l) (List.length l) 16 (AObj.grow 96 3 RowV (0, false, false) rowR []) (AObj.grow 96 3 RowV (0, false, false) rowR ([] ++ l))]) (s' := AS.lst 8 [(2, vo 7)] [(7, AObj.grow 96 3 RowV (0, false, false) rowR ([] ++ l))]) (by kernel_rfl) ?_ ?_
      · exact ⟨rfl, rfl, (⟨_, rfl, rfl, rfl, by simp only [List.length_nil]; omega, by simp only [maxLen, List.length_nil]; omega⟩)⟩
      refine AMx.ret ?_
      exact ⟨.inl rfl, 7, AObj.grow 96 3 RowV (0, false, false) rowR ([] ++ l), by kernel_rfl, by kernel_rfl, by first | rfl | (rw [hnil0])⟩

theorem f108_body : Try.f108.body = some (.seq (.region 0 (rg Try.f108 0) false) (.seq (.region 1 (rg Try.f108 1) true) (.seq (.region 2 (rg Try.f108 2) false) (.seq (.seq (.region 3 (rg Try.f108 3) false) (.block 0 (.loop (.seq (.region 4 (rg Try.f108 4) false) (.seq (.cond (.tmp 24) (.skip) (.exit 0)) (.seq (.block 1 (.seq (.region 5 (rg Try.f108 5) false) (.region 6 (rg Try.f108 6) false))) (.region 7 (rg Try.f108 7) false))))))) (.seq (.region 8 (rg Try.f108 8) false) (.seq (.region 9 (rg Try.f108 9) false) (.ret))))))) := by kernel_rfl

set_option maxRecDepth 100000 in
set_option maxHeartbeats 8000000 in
theorem fewer_c (s : Sec) (r : Rul) (hk : 0 ≤ keepS s r ∧ keepS s r ≤ 1000) (hb : s.2.2.2.length ≤ 1001) : Pure Try.prog 108 [TV.agg [.s (i6 s.1), .s (bo s.2.1), .s (i6 s.2.2.1), .s (slR s.2.2.2)], TV.agg [.s (i6 r.1), .s (bo r.2)]] (AV.tup [TV.agg [.s (i6 (((fewerS s r).1).1)), .s (bo (((fewerS s r).1).2.1)), .s (i6 (((fewerS s r).1).2.2.1)), .s (slR (((fewerS s r).1).2.2.2))], tc (slI ((fewerS s r).2))]) := by
  refine Pure.of_body Try.func108 f108_body (by kernel_rfl) Try.ntmps108 (by kernel_rfl) (by kernel_rfl) ?_
  refine AMx.seq ?_
  refine AMx.region (ces := []) (ks := [2, 3, 4]) (hs := [2, 3, 4]) (cs := []) (s' := AS.lst 41 [(2, vp 2 0), (3, vp 3 0), (4, vp 4 0)] [(2, AObj.row [.s (i6 s.1), .s (bo s.2.1), .s (i6 s.2.2.1), .s (slR s.2.2.2)]), (3, AObj.row [.s (i6 r.1), .s (bo r.2)]), (4, AObj.row [.s (i6 0), .s (bo false), .s (i6 0), .s (SC.nilsl)])]) (by kernel_rfl) ?_ ?_
  · exact trivial
  refine AMx.seq ?_
  refine AMx.region_draw (ces := [(5, CE.call [] [] (vc (i6 (keepS s r))) [])]) (ros := [(1, [2]), (3, [2]), (4, [3])]) (ks := [2, 4, 6]) (hs := [2, 4]) (cs := [Spec Try.prog 103 [TV.agg [.s (i6 s.1), .s (bo s.2.1), .s (i6 s.2.2.1), .s (slR s.2.2.2)], TV.agg [.s (i6 r.1), .s (bo r.2)]] (ofH []) (vc (i6 (keepS s r))) (ofH []), InR .i64 ((List.length s.2.2.2 : Int) - (keepS s r))]) (s' := AS.lst 41 [(2, vp 2 0), (4, vp 4 0), (6, vc (i6 (max 0 ((List.length s.2.2.2 : Int) - (keepS s r)))))] [(2, AObj.row [.s (i6 s.1), .s (bo s.2.1), .s (i6 s.2.2.1), .s (slR s.2.2.2)]), (4, AObj.row [.s (i6 0), .s (bo false), .s (i6 0), .s (SC.nilsl)])]) mixed (by kernel_rfl) ?_ ?_
  · exact ⟨(keeps_c s r), (show InR .i64 ((List.length s.2.2.2 : Int) - (keepS s r)) from (inR64 (by first | omega | (simp only [List.length_take, List.length_drop] at *; omega)) (by first | omega | (simp only [List.length_take, List.length_drop] at *; omega))))⟩
  refine AMx.seq ?_
  refine AMx.region (ces := []) (ks := [2, 4, 6, 7]) (hs := [2, 4]) (cs := []) (s' := AS.lst 41 [(2, vp 2 0), (4, vp 4 0), (6, vc (i6 (max 0 ((List.length s.2.2.2 : Int) - (keepS s r))))), (7, vc (SC.nilsl))] [(2, AObj.row [.s (i6 s.1), .s (bo s.2.1), .s (i6 s.2.2.1), .s (slR s.2.2.2)]), (4, AObj.row [.s (i6 0), .s (bo false), .s (i6 0), .s (SC.nilsl)])]) (by kernel_rfl) ?_ ?_
  · exact trivial
  refine AMx.seq ?_
  refine AMx.seq ?_
  refine AMx.region (ces := []) (ks := [2, 4, 6, 7, 21, 22, 23]) (hs := [2, 4]) (cs := [0 ≤ max 0 ((List.length s.2.2.2 : Int) - (keepS s r)), max 0 ((List.length s.2.2.2 : Int) - (keepS s r)) ≤ List.length s.2.2.2]) (s' := AS.lst 41 [(2, vp 2 0), (4, vp 4 0), (6, vc (i6 (max 0 ((List.length s.2.2.2 : Int) - (keepS s r))))), (7, vc (SC.nilsl)), (21, vc (slR (List.take (max 0 ((List.length s.2.2.2 : Int) - (keepS s r))).toNat s.2.2.2))), (22, vc (i6 (List.length (List.take (max 0 ((List.length s.2.2.2 : Int) - (keepS s r))).toNat s.2.2.2 : List RowV) : Int))), (23, vc (i6 0))] [(2, AObj.row [.s (i6 s.1), .s (bo s.2.1), .s (i6 s.2.2.1), .s (slR s.2.2.2)]), (4, AObj.row [.s (i6 0), .s (bo false), .s (i6 0), .s (SC.nilsl)])]) (by kernel_rfl) ?_ ?_
  · exact ⟨(show 0 ≤ max 0 ((List.length s.2.2.2 : Int) - (keepS s r)) from (by first | omega | (simp only [List.length_take, List.length_drop] at *; omega))), (show max 0 ((List.length s.2.2.2 : Int) - (keepS s r)) ≤ List.length s.2.2.2 from (by first | omega | (simp only [List.length_take, List.length_drop] at *; omega)))⟩
  refine AMx.block ?_
  refine AMx.ent (s' := AS.lst 41 [(2, vp 2 0), (4, vp 4 0), (6, vc (i6 (max 0 ((List.length s.2.2.2 : Int) - (keepS s r))))), (7, vo 7), (21, vc (slR (List.take (max 0 ((List.length s.2.2.2 : Int) - (keepS s r))).toNat s.2.2.2))), (22, vc (i6 (List.length (List.take (max 0 ((List.length s.2.2.2 : Int) - (keepS s r))).toNat s.2.2.2 : List RowV) : Int))), (23, vc (i6 0))] [(7, AObj.grow 3 1 Int 0 rowI []), (2, AObj.row [.s (i6 s.1), .s (bo s.2.1), .s (i6 s.2.2.1), .s (slR s.2.2.2)]), (4, AObj.row [.s (i6 0), .s (bo false), .s (i6 0), .s (SC.nilsl)])]) (ent_adopt (t := 7) (d := 7) 3 1 Int 0 rowI (by kernel_rfl) (by kernel_rfl) (by kernel_rfl) (by kernel_rfl)) ?_
  refine AMx.ent (s' := AS.lst 41 [(2, vp 2 0), (4, vp 4 0), (6, vc (i6 (max 0 ((List.length s.2.2.2 : Int) - (keepS s r))))), (7, vo 7), (21, vc (slR (List.take (max 0 ((List.length s.2.2.2 : Int) - (keepS s r))).toNat s.2.2.2))), (22, vc (i6 (List.length (List.take (max 0 ((List.length s.2.2.2 : Int) - (keepS s r))).toNat s.2.2.2 : List RowV) : Int))), (23, vc (i6 0))] [(2, AObj.row [.s (i6 s.1), .s (bo s.2.1), .s (i6 s.2.2.1), .s (slR s.2.2.2)]), (4, AObj.row [.s (i6 0), .s (bo false), .s (i6 0), .s (SC.nilsl)]), (7, AObj.grow 3 1 Int 0 rowI [])]) (ent_proj [2, 4, 6, 7, 21, 22, 23] [2, 4, 7]) ?_
  refine AMx.loop (fun mm ss => ∃ (k : Nat), (k ≤ (List.take (fewN s r) s.2.2.2).length) ∧ mm = (List.take (fewN s r) s.2.2.2).length - k ∧ ss = AS.lst 41 [(2, vp 2 0), (4, vp 4 0), (6, vc (i6 (max 0 ((List.length s.2.2.2 : Int) - (keepS s r))))), (7, vo 7), (21, vc (slR (List.take (max 0 ((List.length s.2.2.2 : Int) - (keepS s r))).toNat s.2.2.2))), (22, vc (i6 (List.length (List.take (max 0 ((List.length s.2.2.2 : Int) - (keepS s r))).toNat s.2.2.2 : List RowV) : Int))), (23, vc (i6 (k : Int)))] [(2, AObj.row [.s (i6 s.1), .s (bo s.2.1), .s (i6 s.2.2.1), .s (slR s.2.2.2)]), (4, AObj.row [.s (i6 0), .s (bo false), .s (i6 0), .s (SC.nilsl)]), (7, AObj.grow 3 1 Int 0 rowI (namesR (List.take k (List.take (fewN s r) s.2.2.2))))]) ⟨0, ?_, rfl, ?_⟩ ?_
  · omega
  · rfl
  rintro mm ss ⟨k, hI, rfl, rfl⟩
  have hfn : (max 0 ((List.length s.2.2.2 : Int) - keepS s r)).toNat = fewN s r := rfl
  refine AMx.seq ?_
  refine AMx.region (ces := []) (ks := [2, 4, 6, 7, 21, 22, 23, 24]) (hs := [2, 4, 7]) (cs := []) (s' := AS.lst 41 [(2, vp 2 0), (4, vp 4 0), (6, vc (i6 (max 0 ((List.length s.2.2.2 : Int) - (keepS s r))))), (7, vo 7), (21, vc (slR (List.take (max 0 ((List.length s.2.2.2 : Int) - (keepS s r))).toNat s.2.2.2))), (22, vc (i6 (List.length (List.take (max 0 ((List.length s.2.2.2 : Int) - (keepS s r))).toNat s.2.2.2 : List RowV) : Int))), (23, vc (i6 (k : Int))), (24, vc (bo (decide ((k : Int) < (List.length (List.take (max 0 ((List.length s.2.2.2 : Int) - (keepS s r))).toNat s.2.2.2 : List RowV) : Int)))))] [(2, AObj.row [.s (i6 s.1), .s (bo s.2.1), .s (i6 s.2.2.1), .s (slR s.2.2.2)]), (4, AObj.row [.s (i6 0), .s (bo false), .s (i6 0), .s (SC.nilsl)]), (7, AObj.grow 3 1 Int 0 rowI (namesR (List.take k (List.take (fewN s r) s.2.2.2))))]) (by kernel_rfl) ?_ ?_
  · exact trivial
  refine AMx.seq ?_
  refine AMx.cond (b := decide ((k : Int) < (List.length (List.take (max 0 ((List.length s.2.2.2 : Int) - (keepS s r))).toNat s.2.2.2 : List RowV) : Int))) (by kernel_rfl) (fun hc1 => ?_) (fun hc1 => ?_)
  · try simp only [decide_eq_true_eq, decide_eq_false_iff_not] at hc1
    refine AMx.skip ?_
    refine AMx.seq ?_
    refine AMx.block ?_
    refine AMx.seq ?_
    refine AMx.region (ces := []) (ks := [2, 4, 6, 7, 9, 21, 22, 23]) (hs := [2, 4, 7, 9]) (cs := [(0 : Int) ≤ (k : Int), (k : Int) < List.length (List.take (max 0 ((List.length s.2.2.2 : Int) - (keepS s r))).toNat s.2.2.2 : List RowV)]) (s' := AS.lst 41 [(2, vp 2 0), (4, vp 4 0), (6, vc (i6 (max 0 ((List.length s.2.2.2 : Int) - (keepS s r))))), (7, vo 7), (9, vp 9 0), (21, vc (slR (List.take (max 0 ((List.length s.2.2.2 : Int) - (keepS s r))).toNat s.2.2.2))), (22, vc (i6 (List.length (List.take (max 0 ((List.length s.2.2.2 : Int) - (keepS s r))).toNat s.2.2.2 : List RowV) : Int))), (23, vc (i6 (k : Int)))] [(2, AObj.row [.s (i6 s.1), .s (bo s.2.1), .s (i6 s.2.2.1), .s (slR s.2.2.2)]), (4, AObj.row [.s (i6 0), .s (bo false), .s (i6 0), .s (SC.nilsl)]), (7, AObj.grow 3 1 Int 0 rowI (namesR (List.take k (List.take (fewN s r) s.2.2.2)))), (9, AObj.row [.s (i6 ((List.getD (List.take (max 0 ((List.length s.2.2.2 : Int) - (keepS s r))).toNat s.2.2.2) k (0, false, false)).1)), .s (bo ((List.getD (List.take (max 0 ((List.length s.2.2.2 : Int) - (keepS s r))).toNat s.2.2.2) k (0, false, false)).2.1)), .s (bo ((List.getD (List.take (max 0 ((List.length s.2.2.2 : Int) - (keepS s r))).toNat s.2.2.2) k (0, false, false)).2.2))])]) (by kernel_rfl) ?_ ?_
    · exact ⟨(show (0 : Int) ≤ (k : Int) from (by first | omega | (simp only [List.length_take, List.length_drop] at *; omega))), (show (k : Int) < List.length (List.take (max 0 ((List.length s.2.2.2 : Int) - (keepS s r))).toNat s.2.2.2 : List RowV) from (by first | omega | (simp only [List.length_take, List.length_drop] at *; omega)))⟩
    refine AMx.region (ces := [(3, CE.obj (AObj.grow 3 1 Int 0 rowI [(List.getD (List.take (max 0 ((List.length s.2.2.2 : Int) - (keepS s r))).toNat s.2.2.2) k (0, false, false)).1])), (4, CE.obj (AObj.grow 3 1 Int 0 rowI ((namesR (List.take k (List.take (fewN s r) s.2.2.2))) ++ [(List.getD (List.take (max 0 ((List.length s.2.2.2 : Int) - (keepS s r))).toNat s.2.2.2) k (0, false, false)).1])))]) (ks := [2, 4, 6, 7, 21, 22, 23]) (hs := [2, 4, 31]) (cs := [flat 1 rowI [(List.getD (List.take (max 0 ((List.length s.2.2.2 : Int) - (keepS s r))).toNat s.2.2.2) k (0, false, false)).1] = [.s (i6 ((List.getD (List.take (max 0 ((List.length s.2.2.2 : Int) - (keepS s r))).toNat s.2.2.2) k (0, false, false)).1))], List.length ([(List.getD (List.take (max 0 ((List.length s.2.2.2 : Int) - (keepS s r))).toNat s.2.2.2) k (0, false, false)).1] : List Int) = 1, AppC (flat 1 rowI [(List.getD (List.take (max 0 ((List.length s.2.2.2 : Int) - (keepS s r))).toNat s.2.2.2) k (0, false, false)).1]) (List.length ([(List.getD (List.take (max 0 ((List.length s.2.2.2 : Int) - (keepS s r))).toNat s.2.2.2) k (0, false, false)).1] : List Int)) 8 (AObj.grow 3 1 Int 0 rowI (namesR (List.take k (List.take (fewN s r) s.2.2.2)))) (AObj.grow 3 1 Int 0 rowI ((namesR (List.take k (List.take (fewN s r) s.2.2.2))) ++ [(List.getD (List.take (max 0 ((List.length s.2.2.2 : Int) - (keepS s r))).toNat s.2.2.2) k (0, false, false)).1]))]) (s' := AS.lst 41 [(2, vp 2 0), (4, vp 4 0), (6, vc (i6 (max 0 ((List.length s.2.2.2 : Int) - (keepS s r))))), (7, vo 31), (21, vc (slR (List.take (max 0 ((List.length s.2.2.2 : Int) - (keepS s r))).toNat s.2.2.2))), (22, vc (i6 (List.length (List.take (max 0 ((List.length s.2.2.2 : Int) - (keepS s r))).toNat s.2.2.2 : List RowV) : Int))), (23, vc (i6 (k : Int)))] [(2, AObj.row [.s (i6 s.1), .s (bo s.2.1), .s (i6 s.2.2.1), .s (slR s.2.2.2)]), (4, AObj.row [.s (i6 0), .s (bo false), .s (i6 0), .s (SC.nilsl)]), (31, AObj.grow 3 1 Int 0 rowI ((namesR (List.take k (List.take (fewN s r) s.2.2.2))) ++ [(List.getD (List.take (max 0 ((List.length s.2.2.2 : Int) - (keepS s r))).toNat s.2.2.2) k (0, false, false)).1]))]) (by kernel_rfl) ?_ ?_
    · exact ⟨rfl, rfl, (⟨_, rfl, rfl, rfl, by simp only [namesR_len, List.length_take, List.length_cons, List.length_nil]; omega, by simp only [maxLen, namesR_len, List.length_take, List.length_cons, List.length_nil]; omega⟩)⟩
    refine AMx.blk ?_
    refine AMx.region (ces := []) (ks := [2, 4, 6, 7, 21, 22, 23]) (hs := [2, 4, 31]) (cs := [InR .i64 ((k : Int) + 1)]) (s' := AS.lst 41 [(2, vp 2 0), (4, vp 4 0), (6, vc (i6 (max 0 ((List.length s.2.2.2 : Int) - (keepS s r))))), (7, vo 31), (21, vc (slR (List.take (max 0 ((List.length s.2.2.2 : Int) - (keepS s r))).toNat s.2.2.2))), (22, vc (i6 (List.length (List.take (max 0 ((List.length s.2.2.2 : Int) - (keepS s r))).toNat s.2.2.2 : List RowV) : Int))), (23, vc (i6 ((k : Int) + 1)))] [(2, AObj.row [.s (i6 s.1), .s (bo s.2.1), .s (i6 s.2.2.1), .s (slR s.2.2.2)]), (4, AObj.row [.s (i6 0), .s (bo false), .s (i6 0), .s (SC.nilsl)]), (31, AObj.grow 3 1 Int 0 rowI ((namesR (List.take k (List.take (fewN s r) s.2.2.2))) ++ [(List.getD (List.take (max 0 ((List.length s.2.2.2 : Int) - (keepS s r))).toNat s.2.2.2) k (0, false, false)).1]))]) (by kernel_rfl) ?_ ?_
    · exact (show InR .i64 ((k : Int) + 1) from (inR64 (by first | omega | (simp only [List.length_take, List.length_drop] at *; omega)) (by first | omega | (simp only [List.length_take, List.length_drop] at *; omega))))
    refine AMx.ent_inv (s' := AS.lst 41 [(2, vp 2 0), (4, vp 4 0), (6, vc (i6 (max 0 ((List.length s.2.2.2 : Int) - (keepS s r))))), (7, vo 7), (21, vc (slR (List.take (max 0 ((List.length s.2.2.2 : Int) - (keepS s r))).toNat s.2.2.2))), (22, vc (i6 (List.length (List.take (max 0 ((List.length s.2.2.2 : Int) - (keepS s r))).toNat s.2.2.2 : List RowV) : Int))), (23, vc (i6 ((k : Int) + 1)))] [(2, AObj.row [.s (i6 s.1), .s (bo s.2.1), .s (i6 s.2.2.1), .s (slR s.2.2.2)]), (4, AObj.row [.s (i6 0), .s (bo false), .s (i6 0), .s (SC.nilsl)]), (7, AObj.grow 3 1 Int 0 rowI ((namesR (List.take k (List.take (fewN s r) s.2.2.2))) ++ [(List.getD (List.take (max 0 ((List.length s.2.2.2 : Int) - (keepS s r))).toNat s.2.2.2) k (0, false, false)).1]))]) (ent_swap 31 7 (by kernel_rfl) (by kernel_rfl)) ?_
    refine AMx.ent_inv (s' := AS.lst 41 [(2, vp 2 0), (4, vp 4 0), (6, vc (i6 (max 0 ((List.length s.2.2.2 : Int) - (keepS s r))))), (7, vo 7), (21, vc (slR (List.take (max 0 ((List.length s.2.2.2 : Int) - (keepS s r))).toNat s.2.2.2))), (22, vc (i6 (List.length (List.take (max 0 ((List.length s.2.2.2 : Int) - (keepS s r))).toNat s.2.2.2 : List RowV) : Int))), (23, vc (i6 ((k : Int) + 1)))] [(2, AObj.row [.s (i6 s.1), .s (bo s.2.1), .s (i6 s.2.2.1), .s (slR s.2.2.2)]), (4, AObj.row [.s (i6 0), .s (bo false), .s (i6 0), .s (SC.nilsl)]), (7, AObj.grow 3 1 Int 0 rowI ((namesR (List.take k (List.take (fewN s r) s.2.2.2))) ++ [(List.getD (List.take (max 0 ((List.length s.2.2.2 : Int) - (keepS s r))).toNat s.2.2.2) k (0, false, false)).1]))]) (ent_proj [2, 4, 6, 7, 21, 22, 23] [2, 4, 7]) ?_
    refine AMx.inv ⟨_, ?_, k + 1, ?_, rfl, ?_⟩
    rotate_left
    · simp only [List.length_take] at *; omega
    · rw [← namesR_step _ k (by simp only [List.length_take] at *; omega)]; rfl
    · simp only [List.length_take] at *; omega
  · try simp only [decide_eq_true_eq, decide_eq_false_iff_not] at hc1
    refine AMx.exit ?_
    refine AMx.code_exit ?_
    refine AMx.inv_exit ?_
    refine AMx.blk_exit ?_
    refine AMx.seq ?_
    refine AMx.region (ces := [(4, CE.call [] [] (vo 37) [(37, AObj.grow 96 3 RowV (0, false, false) rowR (List.drop (max 0 ((List.length s.2.2.2 : Int) - (keepS s r))).toNat s.2.2.2))])]) (ks := [2, 4, 7]) (hs := [2, 4, 7, 37]) (cs := [0 ≤ max 0 ((List.length s.2.2.2 : Int) - (keepS s r)), max 0 ((List.length s.2.2.2 : Int) - (keepS s r)) ≤ List.length s.2.2.2, Spec Try.prog 107 [tc (slR (List.drop (max 0 ((List.length s.2.2.2 : Int) - (keepS s r))).toNat s.2.2.2))] (ofH []) (vo 37) (ofH [(37, AObj.grow 96 3 RowV (0, false, false) rowR (List.drop (max 0 ((List.length s.2.2.2 : Int) - (keepS s r))).toNat s.2.2.2))])]) (s' := AS.lst 41 [(2, vp 2 0), (4, vp 4 0), (7, vo 7)] [(2, AObj.row [.s (i6 s.1), .s (bo s.2.1), .s (i6 s.2.2.1), .own 37]), (4, AObj.row [.s (i6 0), .s (bo false), .s (i6 0), .s (SC.nilsl)]), (7, AObj.grow 3 1 Int 0 rowI (namesR (List.take k (List.take (fewN s r) s.2.2.2)))), (37, AObj.grow 96 3 RowV (0, false, false) rowR (List.drop (max 0 ((List.length s.2.2.2 : Int) - (keepS s r))).toNat s.2.2.2))]) (by kernel_rfl) ?_ ?_
    · exact ⟨(show 0 ≤ max 0 ((List.length s.2.2.2 : Int) - (keepS s r)) from (by first | omega | (simp only [List.length_take, List.length_drop] at *; omega))), (show max 0 ((List.length s.2.2.2 : Int) - (keepS s r)) ≤ List.length s.2.2.2 from (by first | omega | (simp only [List.length_take, List.length_drop] at *; omega))), (Clone_c (List.drop (max 0 ((List.length s.2.2.2 : Int) - (keepS s r))).toNat s.2.2.2) (by first | omega | (simp only [List.length_drop, List.length_take, List.length_append, List.length_cons, List.length_nil]; omega) | (first | omega | (simp only [List.length_take, List.length_drop] at *; omega))) 37)⟩
    refine AMx.seq ?_
    refine AMx.region (ces := []) (ks := [4, 5]) (hs := [4, 7, 37]) (cs := []) (s' := AS.lst 41 [(4, vp 4 0), (5, vo 7)] [(4, AObj.row [.s (i6 s.1), .s (bo s.2.1), .s (i6 s.2.2.1), .own 37]), (7, AObj.grow 3 1 Int 0 rowI (namesR (List.take k (List.take (fewN s r) s.2.2.2)))), (37, AObj.grow 96 3 RowV (0, false, false) rowR (List.drop (max 0 ((List.length s.2.2.2 : Int) - (keepS s r))).toNat s.2.2.2))]) (by kernel_rfl) ?_ ?_
    · exact trivial
    refine AMx.ent (s' := AS.lst 41 [(4, vp 4 0), (5, vo 7)] [(4, AObj.row [.s (i6 s.1), .s (bo s.2.1), .s (i6 s.2.2.1), .s (slR (List.drop (max 0 ((List.length s.2.2.2 : Int) - (keepS s r))).toNat s.2.2.2))]), (7, AObj.grow 3 1 Int 0 rowI (namesR (List.take k (List.take (fewN s r) s.2.2.2))))]) (ent_freeze (id := 37) (T := 96) (by kernel_rfl)) ?_
    refine AMx.ent (s' := AS.lst 41 [(4, vp 4 0), (5, vc (slI (namesR (List.take k (List.take (fewN s r) s.2.2.2)))))] [(4, AObj.row [.s (i6 s.1), .s (bo s.2.1), .s (i6 s.2.2.1), .s (slR (List.drop (max 0 ((List.length s.2.2.2 : Int) - (keepS s r))).toNat s.2.2.2))])]) (ent_freeze (id := 7) (T := 3) (by kernel_rfl)) ?_
    refine AMx.ret ?_
    exact RetP.mk (r := AV.tup [TV.agg [.s (i6 s.1), .s (bo s.2.1), .s (i6 s.2.2.1), .s (slR (List.drop (max 0 ((List.length s.2.2.2 : Int) - (keepS s r))).toNat s.2.2.2))], tc (slI (namesR (List.take k (List.take (fewN s r) s.2.2.2))))]) (by kernel_rfl) (by rw [List.take_of_length_le (i := k) (by simp only [List.length_take] at *; omega)]; rfl)

theorem f109_body : Try.f109.body = some (.seq (.region 0 (rg Try.f109 0) false) (.seq (.region 1 (rg Try.f109 1) false) (.seq (.block 0 (.loop (.seq (.seq (.region 2 (rg Try.f109 2) true) (.cond (.tmp 13) (.skip) (.exit 0))) (.block 1 (.seq (.region 3 (rg Try.f109 3) false) (.region 4 (rg Try.f109 4) false)))))) (.seq (.region 5 (rg Try.f109 5) false) (.ret))))) := by kernel_rfl

set_option maxRecDepth 100000 in
set_option maxHeartbeats 8000000 in
theorem RFewer_c (s : Sec) (r : Rul) (hk : 0 ≤ keepS s r ∧ keepS s r ≤ 1000) (hb : s.2.2.2.length ≤ 1001) : Pure Try.prog 109 [TV.agg [.s (i6 s.1), .s (bo s.2.1), .s (i6 s.2.2.1), .s (slR s.2.2.2)], TV.agg [.s (i6 r.1), .s (bo r.2)]] (AV.tup [TV.agg [.s (i6 (((fewerS s r).1).1)), .s (bo (((fewerS s r).1).2.1)), .s (i6 (((fewerS s r).1).2.2.1)), .s (slR (((fewerS s r).1).2.2.2))], tc (slI ((fewerS s r).2))]) := by
  refine Pure.of_body Try.func109 f109_body (by kernel_rfl) Try.ntmps109 (by kernel_rfl) (by kernel_rfl) ?_
  refine AMx.seq ?_
  refine AMx.region (ces := []) (ks := [2, 3, 4]) (hs := [2, 3, 4]) (cs := []) (s' := AS.lst 30 [(2, vp 2 0), (3, vp 3 0), (4, vp 4 0)] [(2, AObj.row [.s (i6 s.1), .s (bo s.2.1), .s (i6 s.2.2.1), .s (slR s.2.2.2)]), (3, AObj.row [.s (i6 r.1), .s (bo r.2)]), (4, AObj.row [.s (i6 0), .s (bo false), .s (i6 0), .s (SC.nilsl)])]) (by kernel_rfl) ?_ ?_
  · exact trivial
  refine AMx.seq ?_
  refine AMx.region (ces := []) (ks := [2, 3, 4, 6]) (hs := [2, 3, 4]) (cs := []) (s' := AS.lst 30 [(2, vp 2 0), (3, vp 3 0), (4, vp 4 0), (6, vc (SC.nilsl))] [(2, AObj.row [.s (i6 s.1), .s (bo s.2.1), .s (i6 s.2.2.1), .s (slR s.2.2.2)]), (3, AObj.row [.s (i6 r.1), .s (bo r.2)]), (4, AObj.row [.s (i6 0), .s (bo false), .s (i6 0), .s (SC.nilsl)])]) (by kernel_rfl) ?_ ?_
  · exact trivial
  refine AMx.seq ?_
  refine AMx.block ?_
  refine AMx.ent (s' := AS.lst 30 [(2, vp 2 0), (3, vp 3 0), (4, vp 4 0), (6, vo 6)] [(6, AObj.grow 3 1 Int 0 rowI []), (2, AObj.row [.s (i6 s.1), .s (bo s.2.1), .s (i6 s.2.2.1), .s (slR s.2.2.2)]), (3, AObj.row [.s (i6 r.1), .s (bo r.2)]), (4, AObj.row [.s (i6 0), .s (bo false), .s (i6 0), .s (SC.nilsl)])]) (ent_adopt (t := 6) (d := 6) 3 1 Int 0 rowI (by kernel_rfl) (by kernel_rfl) (by kernel_rfl) (by kernel_rfl)) ?_
  refine AMx.ent (s' := AS.lst 30 [(2, vp 2 0), (3, vp 3 0), (4, vp 4 0), (6, vo 6)] [(2, AObj.row [.s (i6 s.1), .s (bo s.2.1), .s (i6 s.2.2.1), .s (slR s.2.2.2)]), (3, AObj.row [.s (i6 r.1), .s (bo r.2)]), (4, AObj.row [.s (i6 0), .s (bo false), .s (i6 0), .s (SC.nilsl)]), (6, AObj.grow 3 1 Int 0 rowI [])]) (ent_proj [2, 3, 4, 6] [2, 3, 4, 6]) ?_
  refine AMx.loop (fun mm ss => ∃ (m : Nat), (m ≤ fewN s r) ∧ mm = s.2.2.2.length - m ∧ ss = AS.lst 30 [(2, vp 2 0), (3, vp 3 0), (4, vp 4 0), (6, vo 6)] [(2, AObj.row [.s (i6 s.1), .s (bo s.2.1), .s (i6 s.2.2.1), .s (slR (List.drop m s.2.2.2))]), (3, AObj.row [.s (i6 r.1), .s (bo r.2)]), (4, AObj.row [.s (i6 0), .s (bo false), .s (i6 0), .s (SC.nilsl)]), (6, AObj.grow 3 1 Int 0 rowI (namesR (List.take m s.2.2.2)))]) ⟨0, ?_, rfl, ?_⟩ ?_
  · omega
  · rfl
  rintro mm ss ⟨m, hI, rfl, rfl⟩
  have hfn : fewN s r = (max 0 ((List.length s.2.2.2 : Int) - keepS s r)).toNat := rfl
  have hke : keepS ((s.1, s.2.1, s.2.2.1, List.drop m s.2.2.2) : Sec) r = keepS s r := rfl
  have hld := List.length_drop (i := m) (l := s.2.2.2)
  refine AMx.seq ?_
  refine AMx.seq ?_
  refine AMx.region_draw (ces := [(5, CE.call [] [] (vc (i6 (keepS ((s.1, s.2.1, s.2.2.1, List.drop m s.2.2.2) : Sec) r))) [])]) (ros := [(1, [2]), (3, [2]), (4, [3])]) (ks := [2, 3, 4, 6, 13]) (hs := [2, 3, 4, 6]) (cs := [Spec Try.prog 101 [TV.agg [.s (i6 s.1), .s (bo s.2.1), .s (i6 s.2.2.1), .s (slR (List.drop m s.2.2.2))], TV.agg [.s (i6 r.1), .s (bo r.2)]] (ofH []) (vc (i6 (keepS ((s.1, s.2.1, s.2.2.1, List.drop m s.2.2.2) : Sec) r))) (ofH [])]) (s' := AS.lst 30 [(2, vp 2 0), (3, vp 3 0), (4, vp 4 0), (6, vo 6), (13, vc (bo (decide (keepS ((s.1, s.2.1, s.2.2.1, List.drop m s.2.2.2) : Sec) r < (List.length (List.drop m s.2.2.2 : List RowV) : Int)))))] [(2, AObj.row [.s (i6 s.1), .s (bo s.2.1), .s (i6 s.2.2.1), .s (slR (List.drop m s.2.2.2))]), (3, AObj.row [.s (i6 r.1), .s (bo r.2)]), (4, AObj.row [.s (i6 0), .s (bo false), .s (i6 0), .s (SC.nilsl)]), (6, AObj.grow 3 1 Int 0 rowI (namesR (List.take m s.2.2.2)))]) mixed (by kernel_rfl) ?_ ?_
  · exact (RKeeps_c ((s.1, s.2.1, s.2.2.1, List.drop m s.2.2.2) : Sec) r)
  refine AMx.cond (b := decide (keepS ((s.1, s.2.1, s.2.2.1, List.drop m s.2.2.2) : Sec) r < (List.length (List.drop m s.2.2.2 : List RowV) : Int))) (by kernel_rfl) (fun hc1 => ?_) (fun hc1 => ?_)
  · try simp only [decide_eq_true_eq, decide_eq_false_iff_not] at hc1
    refine AMx.skip ?_
    refine AMx.block ?_
    refine AMx.seq ?_
    refine AMx.region (ces := [(6, CE.obj (AObj.grow 3 1 Int 0 rowI [(List.getD (List.drop m s.2.2.2) 0 (0, false, false)).1])), (7, CE.obj (AObj.grow 3 1 Int 0 rowI ((namesR (List.take m s.2.2.2)) ++ [(List.getD (List.drop m s.2.2.2) 0 (0, false, false)).1])))]) (ks := [2, 3, 4, 6]) (hs := [2, 3, 4, 21]) (cs := [(0 : Int) ≤ 0, (0 : Int) < List.length (List.drop m s.2.2.2 : List RowV), flat 1 rowI [(List.getD (List.drop m s.2.2.2) 0 (0, false, false)).1] = [.s (i6 ((List.getD (List.drop m s.2.2.2) 0 (0, false, false)).1))], List.length ([(List.getD (List.drop m s.2.2.2) 0 (0, false, false)).1] : List Int) = 1, AppC (flat 1 rowI [(List.getD (List.drop m s.2.2.2) 0 (0, false, false)).1]) (List.length ([(List.getD (List.drop m s.2.2.2) 0 (0, false, false)).1] : List Int)) 8 (AObj.grow 3 1 Int 0 rowI (namesR (List.take m s.2.2.2))) (AObj.grow 3 1 Int 0 rowI ((namesR (List.take m s.2.2.2)) ++ [(List.getD (List.drop m s.2.2.2) 0 (0, false, false)).1]))]) (s' := AS.lst 30 [(2, vp 2 0), (3, vp 3 0), (4, vp 4 0), (6, vo 21)] [(2, AObj.row [.s (i6 s.1), .s (bo s.2.1), .s (i6 s.2.2.1), .s (slR (List.drop m s.2.2.2))]), (3, AObj.row [.s (i6 r.1), .s (bo r.2)]), (4, AObj.row [.s (i6 0), .s (bo false), .s (i6 0), .s (SC.nilsl)]), (21, AObj.grow 3 1 Int 0 rowI ((namesR (List.take m s.2.2.2)) ++ [(List.getD (List.drop m s.2.2.2) 0 (0, false, false)).1]))]) (by kernel_rfl) ?_ ?_
    · exact ⟨(show (0 : Int) ≤ 0 from (by first | omega | (simp only [List.length_drop] at *; omega))), (show (0 : Int) < List.length (List.drop m s.2.2.2 : List RowV) from (by first | omega | (simp only [List.length_drop] at *; omega))), rfl, rfl, (⟨_, rfl, rfl, rfl, by simp only [namesR_len, List.length_take, List.length_cons, List.length_nil]; omega, by simp only [maxLen, namesR_len, List.length_take, List.length_cons, List.length_nil]; omega⟩)⟩
    refine AMx.region (ces := [(0, CE.obj (AObj.grow 99 3 RowV (0, false, false) rowR [])), (4, CE.obj (AObj.grow 99 3 RowV (0, false, false) rowR ([] ++ (List.drop 1 (List.drop m s.2.2.2)))))]) (ks := [2, 3, 4, 6]) (hs := [2, 3, 4, 21, 26]) (cs := [flat 3 rowR [] = [], List.length ([] : List RowV) = 0, 0 ≤ (1 : Int), (1 : Int) ≤ List.length (List.drop m s.2.2.2 : List RowV), AppC (flat 3 rowR (List.drop 1 (List.drop m s.2.2.2))) (List.length (List.drop 1 (List.drop m s.2.2.2) : List RowV)) 16 (AObj.grow 99 3 RowV (0, false, false) rowR []) (AObj.grow 99 3 RowV (0, false, false) rowR ([] ++ (List.drop 1 (List.drop m s.2.2.2))))]) (s' := AS.lst 30 [(2, vp 2 0), (3, vp 3 0), (4, vp 4 0), (6, vo 21)] [(2, AObj.row [.s (i6 s.1), .s (bo s.2.1), .s (i6 s.2.2.1), .own 26]), (3, AObj.row [.s (i6 r.1), .s (bo r.2)]), (4, AObj.row [.s (i6 0), .s (bo false), .s (i6 0), .s (SC.nilsl)]), (21, AObj.grow 3 1 Int 0 rowI ((namesR (List.take m s.2.2.2)) ++ [(List.getD (List.drop m s.2.2.2) 0 (0, false, false)).1])), (26, AObj.grow 99 3 RowV (0, false, false) rowR ([] ++ (List.drop 1 (List.drop m s.2.2.2))))]) (by kernel_rfl) ?_ ?_
    · exact ⟨rfl, rfl, (show 0 ≤ (1 : Int) from (by first | omega | (simp only [List.length_drop] at *; omega))), (show (1 : Int) ≤ List.length (List.drop m s.2.2.2 : List RowV) from (by first | omega | (simp only [List.length_drop] at *; omega))), (⟨_, rfl, rfl, rfl, by simp only [List.length_drop, List.length_nil]; omega, by simp only [maxLen, List.length_drop, List.length_nil]; omega⟩)⟩
    refine AMx.blk ?_
    refine AMx.ent_inv (s' := AS.lst 30 [(2, vp 2 0), (3, vp 3 0), (4, vp 4 0), (6, vo 21)] [(2, AObj.row [.s (i6 s.1), .s (bo s.2.1), .s (i6 s.2.2.1), .s (slR ([] ++ (List.drop 1 (List.drop m s.2.2.2))))]), (3, AObj.row [.s (i6 r.1), .s (bo r.2)]), (4, AObj.row [.s (i6 0), .s (bo false), .s (i6 0), .s (SC.nilsl)]), (21, AObj.grow 3 1 Int 0 rowI ((namesR (List.take m s.2.2.2)) ++ [(List.getD (List.drop m s.2.2.2) 0 (0, false, false)).1]))]) (ent_freeze (id := 26) (T := 99) (by kernel_rfl)) ?_
    refine AMx.ent_inv (s' := AS.lst 30 [(2, vp 2 0), (3, vp 3 0), (4, vp 4 0), (6, vo 6)] [(2, AObj.row [.s (i6 s.1), .s (bo s.2.1), .s (i6 s.2.2.1), .s (slR ([] ++ (List.drop 1 (List.drop m s.2.2.2))))]), (3, AObj.row [.s (i6 r.1), .s (bo r.2)]), (4, AObj.row [.s (i6 0), .s (bo false), .s (i6 0), .s (SC.nilsl)]), (6, AObj.grow 3 1 Int 0 rowI ((namesR (List.take m s.2.2.2)) ++ [(List.getD (List.drop m s.2.2.2) 0 (0, false, false)).1]))]) (ent_swap 21 6 (by kernel_rfl) (by kernel_rfl)) ?_
    refine AMx.ent_inv (s' := AS.lst 30 [(2, vp 2 0), (3, vp 3 0), (4, vp 4 0), (6, vo 6)] [(2, AObj.row [.s (i6 s.1), .s (bo s.2.1), .s (i6 s.2.2.1), .s (slR ([] ++ (List.drop 1 (List.drop m s.2.2.2))))]), (3, AObj.row [.s (i6 r.1), .s (bo r.2)]), (4, AObj.row [.s (i6 0), .s (bo false), .s (i6 0), .s (SC.nilsl)]), (6, AObj.grow 3 1 Int 0 rowI ((namesR (List.take m s.2.2.2)) ++ [(List.getD (List.drop m s.2.2.2) 0 (0, false, false)).1]))]) (ent_proj [2, 3, 4, 6] [2, 3, 4, 6]) ?_
    refine AMx.inv ⟨_, ?_, m + 1, ?_, rfl, ?_⟩
    rotate_left
    · omega
    · rw [← few_step (by omega), drop_step] <;> rfl
    · omega
  · try simp only [decide_eq_true_eq, decide_eq_false_iff_not] at hc1
    refine AMx.exit ?_
    refine AMx.code_exit ?_
    refine AMx.inv_exit ?_
    refine AMx.blk_exit ?_
    refine AMx.seq ?_
    refine AMx.region (ces := []) (ks := [4, 5]) (hs := [4, 6]) (cs := []) (s' := AS.lst 30 [(4, vp 4 0), (5, vo 6)] [(4, AObj.row [.s (i6 s.1), .s (bo s.2.1), .s (i6 s.2.2.1), .s (slR (List.drop m s.2.2.2))]), (6, AObj.grow 3 1 Int 0 rowI (namesR (List.take m s.2.2.2)))]) (by kernel_rfl) ?_ ?_
    · exact trivial
    refine AMx.ent (s' := AS.lst 30 [(4, vp 4 0), (5, vc (slI (namesR (List.take m s.2.2.2))))] [(4, AObj.row [.s (i6 s.1), .s (bo s.2.1), .s (i6 s.2.2.1), .s (slR (List.drop m s.2.2.2))])]) (ent_freeze (id := 6) (T := 3) (by kernel_rfl)) ?_
    refine AMx.ret ?_
    exact RetP.mk (r := AV.tup [TV.agg [.s (i6 s.1), .s (bo s.2.1), .s (i6 s.2.2.1), .s (slR (List.drop m s.2.2.2))], tc (slI (namesR (List.take m s.2.2.2)))]) (by kernel_rfl) (by rw [show m = fewN s r by omega]; rfl)

theorem f106_body : Try.f106.body = some (.seq (.region 0 (rg Try.f106 0) false) (.seq (.block 0 (.seq (.region 1 (rg Try.f106 1) false) (.cond (.tmp 9) (.seq (.region 2 (rg Try.f106 2) false) (.ret)) (.seq (.region 3 (rg Try.f106 3) false) (.cond (.tmp 22) (.seq (.region 4 (rg Try.f106 4) false) (.ret)) (.seq (.region 5 (rg Try.f106 5) false) (.cond (.tmp 25) (.seq (.region 6 (rg Try.f106 6) false) (.ret)) (.seq (.region 7 (rg Try.f106 7) false) (.cond (.tmp 36) (.seq (.region 8 (rg Try.f106 8) false) (.ret)) (.seq (.region 9 (rg Try.f106 9) false) (.cond (.tmp 45) (.seq (.region 10 (rg Try.f106 10) false) (.ret)) (.skip)))))))))))) (.seq (.region 11 (rg Try.f106 11) false) (.ret)))) := by kernel_rfl

set_option maxRecDepth 100000 in
set_option maxHeartbeats 8000000 in
theorem refuses_c (s : Sec) (r : Rul) (cas size : Int) : Pure Try.prog 106 [TV.agg [.s (i6 s.1), .s (bo s.2.1), .s (i6 s.2.2.1), .s (slR s.2.2.2)], TV.agg [.s (i6 r.1), .s (bo r.2)], tc (i6 cas), tc (i6 size)] (vc (i6 (refuseS s r cas size))) := by
  refine Pure.of_body Try.func106 f106_body (by kernel_rfl) Try.ntmps106 (by kernel_rfl) (by kernel_rfl) ?_
  refine AMx.seq ?_
  refine AMx.region (ces := []) (ks := [2, 3, 4, 5]) (hs := [4, 5]) (cs := []) (s' := AS.lst 49 [(2, vc (i6 cas)), (3, vc (i6 size)), (4, vp 4 0), (5, vp 5 0)] [(4, AObj.row [.s (i6 s.1), .s (bo s.2.1), .s (i6 s.2.2.1), .s (slR s.2.2.2)]), (5, AObj.row [.s (i6 r.1), .s (bo r.2)])]) (by kernel_rfl) ?_ ?_
  · exact trivial
  refine AMx.seq ?_
  refine AMx.block ?_
  refine AMx.seq ?_
  refine AMx.region (ces := [(2, CE.call [] [] (vc (i6 (checkS s r))) [])]) (ks := [2, 3, 4, 5, 9]) (hs := [4, 5]) (cs := [Spec Try.prog 53 [TV.agg [.s (i6 s.1), .s (bo s.2.1), .s (i6 s.2.2.1), .s (slR s.2.2.2)], TV.agg [.s (i6 r.1), .s (bo r.2)]] (ofH []) (vc (i6 (checkS s r))) (ofH []), ((!decide (checkS s r = 0)) = false) → allP [], ((!decide (checkS s r = 0)) = false) → allP [(!decide (checkS s r = 0)) = false], (!decide (checkS s r = 0)) = false → allP [(!decide (checkS s r = 0)) = false], (((!decide (checkS s r = 0)) || (decide (cas < (-1)))) = false) → allP [], (((!decide (checkS s r = 0)) || (decide (cas < (-1)))) = false) → allP [((!decide (checkS s r = 0)) || (decide (cas < (-1)))) = false], ((!decide (checkS s r = 0)) || (decide (cas < (-1)))) = false → allP [((!decide (checkS s r = 0)) || (decide (cas < (-1)))) = false]]) (s' := AS.lst 49 [(2, vc (i6 cas)), (3, vc (i6 size)), (4, vp 4 0), (5, vp 5 0), (9, vc (bo (((!decide (checkS s r = 0)) || (decide (cas < (-1)))) || (decide (size < 0)))))] [(4, AObj.row [.s (i6 s.1), .s (bo s.2.1), .s (i6 s.2.2.1), .s (slR s.2.2.2)]), (5, AObj.row [.s (i6 r.1), .s (bo r.2)])]) (by kernel_rfl) ?_ ?_
  · exact ⟨(Check_c s r), (fun _ => trivial), (fun hp => hp), (fun hp2 => (by first | exact hp2 | exact ⟨hp, hp2⟩)), (fun _ => trivial), (fun hp => hp), (fun hp2 => (by first | exact hp2 | exact ⟨hp, hp2⟩))⟩
  refine AMx.cond (b := (((!decide (checkS s r = 0)) || (decide (cas < (-1)))) || (decide (size < 0)))) (by kernel_rfl) (fun hc1 => ?_) (fun hc1 => ?_)
  · try simp only [decide_eq_true_eq, decide_eq_false_iff_not, Bool.or_eq_true, Bool.or_eq_false_iff, Bool.not_eq_true', Bool.not_eq_false'] at hc1
    refine AMx.seq ?_
    refine AMx.region (ces := []) (ks := [8]) (hs := []) (cs := []) (s' := AS.lst 49 [(8, vc (i6 2))] []) (by kernel_rfl) ?_ ?_
    · exact trivial
    refine AMx.ret ?_
    exact RetP.mk (r := vc (i6 2)) (by kernel_rfl) (by rw [show refuseS s r cas size = 2 from by unfold refuseS; grind])
  · try simp only [decide_eq_true_eq, decide_eq_false_iff_not, Bool.or_eq_true, Bool.or_eq_false_iff, Bool.not_eq_true', Bool.not_eq_false'] at hc1
    refine AMx.seq ?_
    refine AMx.region (ces := []) (ks := [2, 4, 5, 22]) (hs := [4, 5]) (cs := []) (s' := AS.lst 49 [(2, vc (i6 cas)), (4, vp 4 0), (5, vp 5 0), (22, vc (bo (decide (96 < size))))] [(4, AObj.row [.s (i6 s.1), .s (bo s.2.1), .s (i6 s.2.2.1), .s (slR s.2.2.2)]), (5, AObj.row [.s (i6 r.1), .s (bo r.2)])]) (by kernel_rfl) ?_ ?_
    · exact trivial
    refine AMx.cond (b := decide (96 < size)) (by kernel_rfl) (fun hc2 => ?_) (fun hc2 => ?_)
    · try simp only [decide_eq_true_eq, decide_eq_false_iff_not] at hc2
      refine AMx.seq ?_
      refine AMx.region (ces := []) (ks := [8]) (hs := []) (cs := []) (s' := AS.lst 49 [(8, vc (i6 18))] []) (by kernel_rfl) ?_ ?_
      · exact trivial
      refine AMx.ret ?_
      exact RetP.mk (r := vc (i6 18)) (by kernel_rfl) (by rw [show refuseS s r cas size = 18 from by unfold refuseS; grind])
    · try simp only [decide_eq_true_eq, decide_eq_false_iff_not] at hc2
      refine AMx.seq ?_
      refine AMx.region (ces := []) (ks := [2, 4, 25]) (hs := [4]) (cs := [((decide (cas = (-1))) = true) → allP [], ((decide (cas = (-1))) = true) → allP [(decide (cas = (-1))) = true], ((decide (cas = (-1))) = true) → allP [(decide (cas = (-1))) = true], (((decide (cas = (-1))) = true) ∧ s.2.1 = false) → allP [], (((decide (cas = (-1))) = true) ∧ s.2.1 = false) → allP [((decide (cas = (-1))) = true) ∧ s.2.1 = false], ((decide (cas = (-1))) = true) → allP [(decide (cas = (-1))) = true, s.2.1 = false → allP [((decide (cas = (-1))) = true) ∧ s.2.1 = false]], (decide (cas = (-1))) = true → allP [(decide (cas = (-1))) = true]]) (s' := AS.lst 49 [(2, vc (i6 cas)), (4, vp 4 0), (25, vc (bo ((decide (cas = (-1))) && (s.2.1 || r.2))))] [(4, AObj.row [.s (i6 s.1), .s (bo s.2.1), .s (i6 s.2.2.1), .s (slR s.2.2.2)])]) (by kernel_rfl) ?_ ?_
      · exact ⟨(fun _ => trivial), (fun hp => hp), (fun hp => hp), (fun _ => trivial), (fun hp => hp), (fun hp => by have hq := hp; (try simp only [decide_eq_true_eq, decide_eq_false_iff_not, Bool.and_eq_true, Bool.or_eq_true, Bool.and_eq_false_iff, Bool.or_eq_false_iff, Bool.not_eq_true', Bool.not_eq_false', Bool.not_eq_true, Bool.not_eq_false] at hq); exact ⟨hp, (fun hp2 => (by first | exact hp2 | exact ⟨hp, hp2⟩))⟩), (fun hp2 => (by first | exact hp2 | exact ⟨hp, hp2⟩))⟩
      refine AMx.cond (b := ((decide (cas = (-1))) && (s.2.1 || r.2))) (by kernel_rfl) (fun hc3 => ?_) (fun hc3 => ?_)
      · try simp only [decide_eq_true_eq, decide_eq_false_iff_not, Bool.and_eq_true, Bool.and_eq_false_iff, Bool.or_eq_true, Bool.or_eq_false_iff] at hc3
        refine AMx.seq ?_
        refine AMx.region (ces := []) (ks := [8]) (hs := []) (cs := []) (s' := AS.lst 49 [(8, vc (i6 17))] []) (by kernel_rfl) ?_ ?_
        · exact trivial
        refine AMx.ret ?_
        exact RetP.mk (r := vc (i6 17)) (by kernel_rfl) (by rw [show refuseS s r cas size = 17 from by unfold refuseS; grind])
      · try simp only [decide_eq_true_eq, decide_eq_false_iff_not, Bool.and_eq_true, Bool.and_eq_false_iff, Bool.or_eq_true, Bool.or_eq_false_iff] at hc3
        refine AMx.seq ?_
        refine AMx.region (ces := []) (ks := [4, 36]) (hs := [4]) (cs := [((!decide (cas = (-1))) = true) → allP [], ((!decide (cas = (-1))) = true) → allP [], ((!decide (cas = (-1))) = true) → allP [(!decide (cas = (-1))) = true], ((!decide (cas = (-1))) = true) → allP [(!decide (cas = (-1))) = true, (!decide (cas = (-1))) = true], (!decide (cas = (-1))) = true → allP [(!decide (cas = (-1))) = true]]) (s' := AS.lst 49 [(4, vp 4 0), (36, vc (bo ((!decide (cas = (-1))) && (!decide (cas = s.2.2.1)))))] [(4, AObj.row [.s (i6 s.1), .s (bo s.2.1), .s (i6 s.2.2.1), .s (slR s.2.2.2)])]) (by kernel_rfl) ?_ ?_
        · exact ⟨(fun _ => trivial), (fun _ => trivial), (fun hp => hp), (fun hp => ⟨hp, hp⟩), (fun hp2 => (by first | exact hp2 | exact ⟨hp, hp2⟩))⟩
        refine AMx.cond (b := ((!decide (cas = (-1))) && (!decide (cas = s.2.2.1)))) (by kernel_rfl) (fun hc4 => ?_) (fun hc4 => ?_)
        · try simp only [decide_eq_true_eq, decide_eq_false_iff_not, Bool.and_eq_true, Bool.and_eq_false_iff, Bool.not_eq_true', Bool.not_eq_false'] at hc4
          refine AMx.seq ?_
          refine AMx.region (ces := []) (ks := [8]) (hs := []) (cs := []) (s' := AS.lst 49 [(8, vc (i6 16))] []) (by kernel_rfl) ?_ ?_
          · exact trivial
          refine AMx.ret ?_
          exact RetP.mk (r := vc (i6 16)) (by kernel_rfl) (by rw [show refuseS s r cas size = 16 from by unfold refuseS; grind])
        · try simp only [decide_eq_true_eq, decide_eq_false_iff_not, Bool.and_eq_true, Bool.and_eq_false_iff, Bool.not_eq_true', Bool.not_eq_false'] at hc4
          refine AMx.seq ?_
          refine AMx.region (ces := []) (ks := [45]) (hs := []) (cs := []) (s' := AS.lst 49 [(45, vc (bo (decide (s.2.2.1 = 30))))] []) (by kernel_rfl) ?_ ?_
          · exact trivial
          refine AMx.cond (b := decide (s.2.2.1 = 30)) (by kernel_rfl) (fun hc5 => ?_) (fun hc5 => ?_)
          · try simp only [decide_eq_true_eq, decide_eq_false_iff_not] at hc5
            refine AMx.seq ?_
            refine AMx.region (ces := []) (ks := [8]) (hs := []) (cs := []) (s' := AS.lst 49 [(8, vc (i6 19))] []) (by kernel_rfl) ?_ ?_
            · exact trivial
            refine AMx.ret ?_
            exact RetP.mk (r := vc (i6 19)) (by kernel_rfl) (by rw [show refuseS s r cas size = 19 from by unfold refuseS; grind])
          · try simp only [decide_eq_true_eq, decide_eq_false_iff_not] at hc5
            refine AMx.skip ?_
            refine AMx.blk ?_
            refine AMx.seq ?_
            refine AMx.region (ces := []) (ks := [8]) (hs := []) (cs := []) (s' := AS.lst 49 [(8, vc (i6 0))] []) (by kernel_rfl) ?_ ?_
            · exact trivial
            refine AMx.ret ?_
            exact RetP.mk (r := vc (i6 0)) (by kernel_rfl) (by rw [show refuseS s r cas size = 0 from by unfold refuseS; grind])

theorem f57_body : Try.f57.body = some (.seq (.region 0 (rg Try.f57 0) false) (.seq (.seq (.region 1 (rg Try.f57 1) false) (.seq (.region 2 (rg Try.f57 2) false) (.cond (.tmp 21) (.seq (.region 3 (rg Try.f57 3) false) (.ret)) (.skip)))) (.seq (.region 4 (rg Try.f57 4) false) (.seq (.region 5 (rg Try.f57 5) true) (.seq (.region 6 (rg Try.f57 6) false) (.seq (.region 7 (rg Try.f57 7) true) (.ret))))))) := by kernel_rfl

set_option maxRecDepth 100000 in
set_option maxHeartbeats 8000000 in
theorem Write_c (s : Sec) (r : Rul) (cas size : Int) (hb : s.2.2.2.length ≤ 1000) : Pure Try.prog 57 [TV.agg [.s (i6 s.1), .s (bo s.2.1), .s (i6 s.2.2.1), .s (slR s.2.2.2)], TV.agg [.s (i6 r.1), .s (bo r.2)], tc (i6 cas), tc (i6 size)] (AV.tup [TV.agg [.s (i6 (((writeS s r cas size).1).1)), .s (bo (((writeS s r cas size).1).2.1)), .s (i6 (((writeS s r cas size).1).2.2.1)), .s (slR (((writeS s r cas size).1).2.2.2))], tc (i6 ((writeS s r cas size).2.1)), tc (slI ((writeS s r cas size).2.2.1)), tc (i6 ((writeS s r cas size).2.2.2))]) := by
  refine Pure.of_body Try.func57 f57_body (by kernel_rfl) Try.ntmps57 (by kernel_rfl) (by kernel_rfl) ?_
  refine AMx.seq ?_
  refine AMx.region (ces := []) (ks := [2, 3, 4, 5, 8]) (hs := [4, 5, 8]) (cs := []) (s' := AS.lst 47 [(2, vc (i6 cas)), (3, vc (i6 size)), (4, vp 4 0), (5, vp 5 0), (8, vp 8 0)] [(4, AObj.row [.s (i6 s.1), .s (bo s.2.1), .s (i6 s.2.2.1), .s (slR s.2.2.2)]), (5, AObj.row [.s (i6 r.1), .s (bo r.2)]), (8, AObj.row [.s (i6 0), .s (bo false), .s (i6 0), .s (SC.nilsl)])]) (by kernel_rfl) ?_ ?_
  · exact trivial
  refine AMx.seq ?_
  refine AMx.seq ?_
  refine AMx.region (ces := [(4, CE.call [] [] (vc (i6 (refuseS s r cas size))) [])]) (ks := [4, 5, 8, 12]) (hs := [4, 5, 8]) (cs := [Spec Try.prog 106 [TV.agg [.s (i6 s.1), .s (bo s.2.1), .s (i6 s.2.2.1), .s (slR s.2.2.2)], TV.agg [.s (i6 r.1), .s (bo r.2)], tc (i6 cas), tc (i6 size)] (ofH []) (vc (i6 (refuseS s r cas size))) (ofH [])]) (s' := AS.lst 47 [(4, vp 4 0), (5, vp 5 0), (8, vp 8 0), (12, vc (i6 (refuseS s r cas size)))] [(4, AObj.row [.s (i6 s.1), .s (bo s.2.1), .s (i6 s.2.2.1), .s (slR s.2.2.2)]), (5, AObj.row [.s (i6 r.1), .s (bo r.2)]), (8, AObj.row [.s (i6 0), .s (bo false), .s (i6 0), .s (SC.nilsl)])]) (by kernel_rfl) ?_ ?_
  · exact (refuses_c s r cas size)
  refine AMx.seq ?_
  refine AMx.region (ces := []) (ks := [4, 5, 8, 12, 21]) (hs := [4, 5, 8]) (cs := []) (s' := AS.lst 47 [(4, vp 4 0), (5, vp 5 0), (8, vp 8 0), (12, vc (i6 (refuseS s r cas size))), (21, vc (bo (!decide (refuseS s r cas size = 0))))] [(4, AObj.row [.s (i6 s.1), .s (bo s.2.1), .s (i6 s.2.2.1), .s (slR s.2.2.2)]), (5, AObj.row [.s (i6 r.1), .s (bo r.2)]), (8, AObj.row [.s (i6 0), .s (bo false), .s (i6 0), .s (SC.nilsl)])]) (by kernel_rfl) ?_ ?_
  · exact trivial
  refine AMx.cond (b := !decide (refuseS s r cas size = 0)) (by kernel_rfl) (fun hc1 => ?_) (fun hc1 => ?_)
  · try simp only [decide_eq_true_eq, decide_eq_false_iff_not, Bool.not_eq_true', Bool.not_eq_false'] at hc1
    refine AMx.seq ?_
    refine AMx.region (ces := []) (ks := [8, 9, 10, 11]) (hs := [8]) (cs := []) (s' := AS.lst 47 [(8, vp 8 0), (9, vc (i6 0)), (10, vc (SC.nilsl)), (11, vc (i6 (refuseS s r cas size)))] [(8, AObj.row [.s (i6 s.1), .s (bo s.2.1), .s (i6 s.2.2.1), .s (slR s.2.2.2)])]) (by kernel_rfl) ?_ ?_
    · exact trivial
    refine AMx.ent (ent_weak 10 (v' := vc (slI [])) (by kernel_rfl) (AV.le_t (TV.le_c AC.le_nil))) ?_
    refine AMx.ret ?_
    exact RetP.mk (r := AV.tup [TV.agg [.s (i6 s.1), .s (bo s.2.1), .s (i6 s.2.2.1), .s (slR s.2.2.2)], tc (i6 0), tc (slI []), tc (i6 (refuseS s r cas size))]) (by kernel_rfl) (by rw [show writeS s r cas size = (s, 0, [], refuseS s r cas size) from by first | exact write_ok hc1 | exact write_no rfl hc1])
  · try simp only [decide_eq_true_eq, decide_eq_false_iff_not, Bool.not_eq_true', Bool.not_eq_false'] at hc1
    refine AMx.skip ?_
    refine AMx.seq ?_
    refine AMx.region (ces := []) (ks := [4, 5, 8]) (hs := [4, 5, 8]) (cs := [InR .i64 (s.2.2.1 + 1)]) (s' := AS.lst 47 [(4, vp 4 0), (5, vp 5 0), (8, vp 8 0)] [(4, AObj.row [.s (i6 s.1), .s (bo s.2.1), .s (i6 (s.2.2.1 + 1)), .s (slR s.2.2.2)]), (5, AObj.row [.s (i6 r.1), .s (bo r.2)]), (8, AObj.row [.s (i6 0), .s (bo false), .s (i6 0), .s (SC.nilsl)])]) (by kernel_rfl) ?_ ?_
    · exact (show InR .i64 (s.2.2.1 + 1) from (inR64 (by first | omega | (have hm := (refuse_may hc1).1.1; unfold RangeS at hm; omega)) (by first | omega | (have hm := (refuse_may hc1).1.1; unfold RangeS at hm; omega))))
    refine AMx.seq ?_
    refine AMx.region_draw (ces := [(2, CE.call [] [] (vo 30) [(30, AObj.grow 96 3 RowV (0, false, false) rowR s.2.2.2)]), (6, CE.obj (AObj.grow 96 3 RowV (0, false, false) rowR [((s.2.2.1 + 1, false, false) : RowV)])), (7, CE.obj (AObj.grow 96 3 RowV (0, false, false) rowR (s.2.2.2 ++ [((s.2.2.1 + 1, false, false) : RowV)])))]) (ros := [(1, [4]), (4, [4]), (7, [30, 34]), (9, [4])]) (ks := [4, 5, 8]) (hs := [4, 5, 8, 35]) (cs := [Spec Try.prog 107 [tc (slR s.2.2.2)] (ofH []) (vo 30) (ofH [(30, AObj.grow 96 3 RowV (0, false, false) rowR s.2.2.2)]), flat 3 rowR [((s.2.2.1 + 1, false, false) : RowV)] = [.s (i6 (s.2.2.1 + 1)), .s (bo false), .s (bo false)], List.length ([((s.2.2.1 + 1, false, false) : RowV)] : List RowV) = 1, AppC (flat 3 rowR [((s.2.2.1 + 1, false, false) : RowV)]) (List.length ([((s.2.2.1 + 1, false, false) : RowV)] : List RowV)) 16 (AObj.grow 96 3 RowV (0, false, false) rowR s.2.2.2) (AObj.grow 96 3 RowV (0, false, false) rowR (s.2.2.2 ++ [((s.2.2.1 + 1, false, false) : RowV)]))]) (s' := AS.lst 47 [(4, vp 4 0), (5, vp 5 0), (8, vp 8 0)] [(4, AObj.row [.s (i6 s.1), .s (bo s.2.1), .s (i6 (s.2.2.1 + 1)), .own 35]), (5, AObj.row [.s (i6 r.1), .s (bo r.2)]), (8, AObj.row [.s (i6 0), .s (bo false), .s (i6 0), .s (SC.nilsl)]), (35, AObj.grow 96 3 RowV (0, false, false) rowR (s.2.2.2 ++ [((s.2.2.1 + 1, false, false) : RowV)]))]) mixed (by kernel_rfl) ?_ ?_
    · exact ⟨(Clone_c s.2.2.2 (by first | omega | (simp only [List.length_drop, List.length_take, List.length_append, List.length_cons, List.length_nil]; omega) | (first | omega | (have hm := (refuse_may hc1).1.1; unfold RangeS at hm; omega))) 30), rfl, rfl, (⟨_, rfl, rfl, rfl, by simp only [List.length_append, List.length_cons, List.length_nil]; omega, by simp only [maxLen, List.length_append, List.length_cons, List.length_nil]; omega⟩)⟩
    refine AMx.seq ?_
    refine AMx.region (ces := [(2, CE.call [35] [] (AV.tup [TV.agg [.s (i6 (((fewerS ((s.1, s.2.1, s.2.2.1 + 1, s.2.2.2 ++ [((s.2.2.1 + 1, false, false) : RowV)]) : Sec) r).1).1)), .s (bo (((fewerS ((s.1, s.2.1, s.2.2.1 + 1, s.2.2.2 ++ [((s.2.2.1 + 1, false, false) : RowV)]) : Sec) r).1).2.1)), .s (i6 (((fewerS ((s.1, s.2.1, s.2.2.1 + 1, s.2.2.2 ++ [((s.2.2.1 + 1, false, false) : RowV)]) : Sec) r).1).2.2.1)), .s (slR (((fewerS ((s.1, s.2.1, s.2.2.1 + 1, s.2.2.2 ++ [((s.2.2.1 + 1, false, false) : RowV)]) : Sec) r).1).2.2.2))], tc (slI ((fewerS ((s.1, s.2.1, s.2.2.1 + 1, s.2.2.2 ++ [((s.2.2.1 + 1, false, false) : RowV)]) : Sec) r).2))]) [])]) (ks := [8, 13, 14]) (hs := [8, 13]) (cs := [Spec Try.prog 108 [TV.agg [.s (i6 s.1), .s (bo s.2.1), .s (i6 (s.2.2.1 + 1)), .s (slR (s.2.2.2 ++ [((s.2.2.1 + 1, false, false) : RowV)]))], TV.agg [.s (i6 r.1), .s (bo r.2)]] (ofH []) (AV.tup [TV.agg [.s (i6 (((fewerS ((s.1, s.2.1, s.2.2.1 + 1, s.2.2.2 ++ [((s.2.2.1 + 1, false, false) : RowV)]) : Sec) r).1).1)), .s (bo (((fewerS ((s.1, s.2.1, s.2.2.1 + 1, s.2.2.2 ++ [((s.2.2.1 + 1, false, false) : RowV)]) : Sec) r).1).2.1)), .s (i6 (((fewerS ((s.1, s.2.1, s.2.2.1 + 1, s.2.2.2 ++ [((s.2.2.1 + 1, false, false) : RowV)]) : Sec) r).1).2.2.1)), .s (slR (((fewerS ((s.1, s.2.1, s.2.2.1 + 1, s.2.2.2 ++ [((s.2.2.1 + 1, false, false) : RowV)]) : Sec) r).1).2.2.2))], tc (slI ((fewerS ((s.1, s.2.1, s.2.2.1 + 1, s.2.2.2 ++ [((s.2.2.1 + 1, false, false) : RowV)]) : Sec) r).2))]) (ofH [])]) (s' := AS.lst 47 [(8, vp 8 0), (13, vp 13 0), (14, vc (slI ((fewerS ((s.1, s.2.1, s.2.2.1 + 1, s.2.2.2 ++ [((s.2.2.1 + 1, false, false) : RowV)]) : Sec) r).2)))] [(8, AObj.row [.s (i6 0), .s (bo false), .s (i6 0), .s (SC.nilsl)]), (13, AObj.row [.s (i6 (((fewerS ((s.1, s.2.1, s.2.2.1 + 1, s.2.2.2 ++ [((s.2.2.1 + 1, false, false) : RowV)]) : Sec) r).1).1)), .s (bo (((fewerS ((s.1, s.2.1, s.2.2.1 + 1, s.2.2.2 ++ [((s.2.2.1 + 1, false, false) : RowV)]) : Sec) r).1).2.1)), .s (i6 (((fewerS ((s.1, s.2.1, s.2.2.1 + 1, s.2.2.2 ++ [((s.2.2.1 + 1, false, false) : RowV)]) : Sec) r).1).2.2.1)), .s (slR (((fewerS ((s.1, s.2.1, s.2.2.1 + 1, s.2.2.2 ++ [((s.2.2.1 + 1, false, false) : RowV)]) : Sec) r).1).2.2.2))])]) (by kernel_rfl) ?_ ?_
    · exact (fewer_c ((s.1, s.2.1, s.2.2.1 + 1, s.2.2.2 ++ [((s.2.2.1 + 1, false, false) : RowV)]) : Sec) r (by first | assumption | (have hm := refuse_may hc1; have hk0 := keep_any hm.1.1; exact hk0)) (by first | omega | exact (by simp only [List.length_append, List.length_cons, List.length_nil]; omega)))
    refine AMx.seq ?_
    refine AMx.region_draw (ces := []) (ros := [(0, [13]), (2, [13]), (4, [8])]) (ks := [8, 9, 10, 11]) (hs := [8]) (cs := []) (s' := AS.lst 47 [(8, vp 8 0), (9, vc (i6 (((fewerS ((s.1, s.2.1, s.2.2.1 + 1, s.2.2.2 ++ [((s.2.2.1 + 1, false, false) : RowV)]) : Sec) r).1).2.2.1))), (10, vc (slI ((fewerS ((s.1, s.2.1, s.2.2.1 + 1, s.2.2.2 ++ [((s.2.2.1 + 1, false, false) : RowV)]) : Sec) r).2))), (11, vc (i6 0))] [(8, AObj.row [.s (i6 (((fewerS ((s.1, s.2.1, s.2.2.1 + 1, s.2.2.2 ++ [((s.2.2.1 + 1, false, false) : RowV)]) : Sec) r).1).1)), .s (bo (((fewerS ((s.1, s.2.1, s.2.2.1 + 1, s.2.2.2 ++ [((s.2.2.1 + 1, false, false) : RowV)]) : Sec) r).1).2.1)), .s (i6 (((fewerS ((s.1, s.2.1, s.2.2.1 + 1, s.2.2.2 ++ [((s.2.2.1 + 1, false, false) : RowV)]) : Sec) r).1).2.2.1)), .s (slR (((fewerS ((s.1, s.2.1, s.2.2.1 + 1, s.2.2.2 ++ [((s.2.2.1 + 1, false, false) : RowV)]) : Sec) r).1).2.2.2))])]) mixed (by kernel_rfl) ?_ ?_
    · exact trivial
    refine AMx.ret ?_
    exact RetP.mk (r := AV.tup [TV.agg [.s (i6 (((fewerS ((s.1, s.2.1, s.2.2.1 + 1, s.2.2.2 ++ [((s.2.2.1 + 1, false, false) : RowV)]) : Sec) r).1).1)), .s (bo (((fewerS ((s.1, s.2.1, s.2.2.1 + 1, s.2.2.2 ++ [((s.2.2.1 + 1, false, false) : RowV)]) : Sec) r).1).2.1)), .s (i6 (((fewerS ((s.1, s.2.1, s.2.2.1 + 1, s.2.2.2 ++ [((s.2.2.1 + 1, false, false) : RowV)]) : Sec) r).1).2.2.1)), .s (slR (((fewerS ((s.1, s.2.1, s.2.2.1 + 1, s.2.2.2 ++ [((s.2.2.1 + 1, false, false) : RowV)]) : Sec) r).1).2.2.2))], tc (i6 (((fewerS ((s.1, s.2.1, s.2.2.1 + 1, s.2.2.2 ++ [((s.2.2.1 + 1, false, false) : RowV)]) : Sec) r).1).2.2.1)), tc (slI ((fewerS ((s.1, s.2.1, s.2.2.1 + 1, s.2.2.2 ++ [((s.2.2.1 + 1, false, false) : RowV)]) : Sec) r).2)), tc (i6 0)]) (by kernel_rfl) (by rw [show writeS s r cas size = (((fewerS ((s.1, s.2.1, s.2.2.1 + 1, s.2.2.2 ++ [((s.2.2.1 + 1, false, false) : RowV)]) : Sec) r).1), ((fewerS ((s.1, s.2.1, s.2.2.1 + 1, s.2.2.2 ++ [((s.2.2.1 + 1, false, false) : RowV)]) : Sec) r).1).2.2.1, (fewerS ((s.1, s.2.1, s.2.2.1 + 1, s.2.2.2 ++ [((s.2.2.1 + 1, false, false) : RowV)]) : Sec) r).2, 0) from by first | exact write_ok hc1 | exact write_no rfl hc1])

theorem f58_body : Try.f58.body = some (.seq (.region 0 (rg Try.f58 0) false) (.seq (.seq (.region 1 (rg Try.f58 1) false) (.cond (.tmp 25) (.seq (.region 2 (rg Try.f58 2) false) (.ret)) (.skip))) (.seq (.seq (.region 3 (rg Try.f58 3) false) (.cond (.tmp 28) (.seq (.region 4 (rg Try.f58 4) false) (.ret)) (.skip))) (.seq (.seq (.region 5 (rg Try.f58 5) false) (.cond (.tmp 39) (.seq (.region 6 (rg Try.f58 6) false) (.ret)) (.skip))) (.seq (.seq (.region 7 (rg Try.f58 7) false) (.cond (.tmp 48) (.seq (.region 8 (rg Try.f58 8) false) (.ret)) (.skip))) (.seq (.seq (.region 9 (rg Try.f58 9) false) (.cond (.tmp 52) (.seq (.region 10 (rg Try.f58 10) false) (.ret)) (.skip))) (.seq (.region 11 (rg Try.f58 11) true) (.seq (.region 12 (rg Try.f58 12) false) (.seq (.region 13 (rg Try.f58 13) true) (.ret)))))))))) := by kernel_rfl

set_option maxRecDepth 100000 in
set_option maxHeartbeats 8000000 in
theorem RWrite_c (s : Sec) (r : Rul) (cas size : Int) (hb : s.2.2.2.length ≤ 1000) : Pure Try.prog 58 [TV.agg [.s (i6 s.1), .s (bo s.2.1), .s (i6 s.2.2.1), .s (slR s.2.2.2)], TV.agg [.s (i6 r.1), .s (bo r.2)], tc (i6 cas), tc (i6 size)] (AV.tup [TV.agg [.s (i6 (((writeS s r cas size).1).1)), .s (bo (((writeS s r cas size).1).2.1)), .s (i6 (((writeS s r cas size).1).2.2.1)), .s (slR (((writeS s r cas size).1).2.2.2))], tc (i6 ((writeS s r cas size).2.1)), tc (slI ((writeS s r cas size).2.2.1)), tc (i6 ((writeS s r cas size).2.2.2))]) := by
  refine Pure.of_body Try.func58 f58_body (by kernel_rfl) Try.ntmps58 (by kernel_rfl) (by kernel_rfl) ?_
  refine AMx.seq ?_
  refine AMx.region (ces := []) (ks := [2, 3, 4, 5, 8]) (hs := [4, 5, 8]) (cs := []) (s' := AS.lst 82 [(2, vc (i6 cas)), (3, vc (i6 size)), (4, vp 4 0), (5, vp 5 0), (8, vp 8 0)] [(4, AObj.row [.s (i6 s.1), .s (bo s.2.1), .s (i6 s.2.2.1), .s (slR s.2.2.2)]), (5, AObj.row [.s (i6 r.1), .s (bo r.2)]), (8, AObj.row [.s (i6 0), .s (bo false), .s (i6 0), .s (SC.nilsl)])]) (by kernel_rfl) ?_ ?_
  · exact trivial
  refine AMx.seq ?_
  refine AMx.seq ?_
  refine AMx.region (ces := [(2, CE.call [] [] (vc (bo (decide (checkS s r = 0)))) [])]) (ks := [2, 3, 4, 5, 8, 25]) (hs := [4, 5, 8]) (cs := [Spec Try.prog 52 [TV.agg [.s (i6 s.1), .s (bo s.2.1), .s (i6 s.2.2.1), .s (slR s.2.2.2)], TV.agg [.s (i6 r.1), .s (bo r.2)]] (ofH []) (vc (bo (decide (checkS s r = 0)))) (ofH []), ((!(decide (checkS s r = 0))) = false) → allP [], ((!(decide (checkS s r = 0))) = false) → allP [(!(decide (checkS s r = 0))) = false], (!(decide (checkS s r = 0))) = false → allP [(!(decide (checkS s r = 0))) = false], (((!(decide (checkS s r = 0))) || (decide (cas < (-1)))) = false) → allP [], (((!(decide (checkS s r = 0))) || (decide (cas < (-1)))) = false) → allP [((!(decide (checkS s r = 0))) || (decide (cas < (-1)))) = false], ((!(decide (checkS s r = 0))) || (decide (cas < (-1)))) = false → allP [((!(decide (checkS s r = 0))) || (decide (cas < (-1)))) = false]]) (s' := AS.lst 82 [(2, vc (i6 cas)), (3, vc (i6 size)), (4, vp 4 0), (5, vp 5 0), (8, vp 8 0), (25, vc (bo (((!(decide (checkS s r = 0))) || (decide (cas < (-1)))) || (decide (size < 0)))))] [(4, AObj.row [.s (i6 s.1), .s (bo s.2.1), .s (i6 s.2.2.1), .s (slR s.2.2.2)]), (5, AObj.row [.s (i6 r.1), .s (bo r.2)]), (8, AObj.row [.s (i6 0), .s (bo false), .s (i6 0), .s (SC.nilsl)])]) (by kernel_rfl) ?_ ?_
  · exact ⟨(May_c s r), (fun _ => trivial), (fun hp => hp), (fun hp2 => (by first | exact hp2 | exact ⟨hp, hp2⟩)), (fun _ => trivial), (fun hp => hp), (fun hp2 => (by first | exact hp2 | exact ⟨hp, hp2⟩))⟩
  refine AMx.cond (b := (((!(decide (checkS s r = 0))) || (decide (cas < (-1)))) || (decide (size < 0)))) (by kernel_rfl) (fun hc1 => ?_) (fun hc1 => ?_)
  · try simp only [decide_eq_true_eq, decide_eq_false_iff_not, Bool.or_eq_true, Bool.or_eq_false_iff, Bool.not_eq_true', Bool.not_eq_false'] at hc1
    refine AMx.seq ?_
    refine AMx.region (ces := []) (ks := [8, 9, 10, 11]) (hs := [8]) (cs := []) (s' := AS.lst 82 [(8, vp 8 0), (9, vc (i6 0)), (10, vc (SC.nilsl)), (11, vc (i6 2))] [(8, AObj.row [.s (i6 s.1), .s (bo s.2.1), .s (i6 s.2.2.1), .s (slR s.2.2.2)])]) (by kernel_rfl) ?_ ?_
    · exact trivial
    refine AMx.ent (ent_weak 10 (v' := vc (slI [])) (by kernel_rfl) (AV.le_t (TV.le_c AC.le_nil))) ?_
    refine AMx.ret ?_
    exact RetP.mk (r := AV.tup [TV.agg [.s (i6 s.1), .s (bo s.2.1), .s (i6 s.2.2.1), .s (slR s.2.2.2)], tc (i6 0), tc (slI []), tc (i6 2)]) (by kernel_rfl) (by rw [show writeS s r cas size = (s, 0, [], 2) from by first | exact write_no (by unfold refuseS; grind) (by omega) | exact write_ok (by unfold refuseS; grind)])
  · try simp only [decide_eq_true_eq, decide_eq_false_iff_not, Bool.or_eq_true, Bool.or_eq_false_iff, Bool.not_eq_true', Bool.not_eq_false'] at hc1
    refine AMx.skip ?_
    refine AMx.seq ?_
    refine AMx.seq ?_
    refine AMx.region (ces := []) (ks := [2, 4, 5, 8, 28]) (hs := [4, 5, 8]) (cs := []) (s' := AS.lst 82 [(2, vc (i6 cas)), (4, vp 4 0), (5, vp 5 0), (8, vp 8 0), (28, vc (bo (decide (96 < size))))] [(4, AObj.row [.s (i6 s.1), .s (bo s.2.1), .s (i6 s.2.2.1), .s (slR s.2.2.2)]), (5, AObj.row [.s (i6 r.1), .s (bo r.2)]), (8, AObj.row [.s (i6 0), .s (bo false), .s (i6 0), .s (SC.nilsl)])]) (by kernel_rfl) ?_ ?_
    · exact trivial
    refine AMx.cond (b := decide (96 < size)) (by kernel_rfl) (fun hc2 => ?_) (fun hc2 => ?_)
    · try simp only [decide_eq_true_eq, decide_eq_false_iff_not] at hc2
      refine AMx.seq ?_
      refine AMx.region (ces := []) (ks := [8, 9, 10, 11]) (hs := [8]) (cs := []) (s' := AS.lst 82 [(8, vp 8 0), (9, vc (i6 0)), (10, vc (SC.nilsl)), (11, vc (i6 18))] [(8, AObj.row [.s (i6 s.1), .s (bo s.2.1), .s (i6 s.2.2.1), .s (slR s.2.2.2)])]) (by kernel_rfl) ?_ ?_
      · exact trivial
      refine AMx.ent (ent_weak 10 (v' := vc (slI [])) (by kernel_rfl) (AV.le_t (TV.le_c AC.le_nil))) ?_
      refine AMx.ret ?_
      exact RetP.mk (r := AV.tup [TV.agg [.s (i6 s.1), .s (bo s.2.1), .s (i6 s.2.2.1), .s (slR s.2.2.2)], tc (i6 0), tc (slI []), tc (i6 18)]) (by kernel_rfl) (by rw [show writeS s r cas size = (s, 0, [], 18) from by first | exact write_no (by unfold refuseS; grind) (by omega) | exact write_ok (by unfold refuseS; grind)])
    · try simp only [decide_eq_true_eq, decide_eq_false_iff_not] at hc2
      refine AMx.skip ?_
      refine AMx.seq ?_
      refine AMx.seq ?_
      refine AMx.region (ces := []) (ks := [2, 4, 5, 8, 39]) (hs := [4, 5, 8]) (cs := [(s.2.1 = false) → allP [], (s.2.1 = false) → allP [s.2.1 = false], s.2.1 = false → allP [s.2.1 = false], ((s.2.1 || r.2) = true) → allP [], ((s.2.1 || r.2) = true) → allP [(s.2.1 || r.2) = true], (s.2.1 || r.2) = true → allP [(s.2.1 || r.2) = true]]) (s' := AS.lst 82 [(2, vc (i6 cas)), (4, vp 4 0), (5, vp 5 0), (8, vp 8 0), (39, vc (bo ((s.2.1 || r.2) && (decide (cas = (-1))))))] [(4, AObj.row [.s (i6 s.1), .s (bo s.2.1), .s (i6 s.2.2.1), .s (slR s.2.2.2)]), (5, AObj.row [.s (i6 r.1), .s (bo r.2)]), (8, AObj.row [.s (i6 0), .s (bo false), .s (i6 0), .s (SC.nilsl)])]) (by kernel_rfl) ?_ ?_
      · exact ⟨(fun _ => trivial), (fun hp => hp), (fun hp2 => (by first | exact hp2 | exact ⟨hp, hp2⟩)), (fun _ => trivial), (fun hp => hp), (fun hp2 => (by first | exact hp2 | exact ⟨hp, hp2⟩))⟩
      refine AMx.cond (b := ((s.2.1 || r.2) && (decide (cas = (-1))))) (by kernel_rfl) (fun hc3 => ?_) (fun hc3 => ?_)
      · try simp only [decide_eq_true_eq, decide_eq_false_iff_not, Bool.and_eq_true, Bool.and_eq_false_iff, Bool.or_eq_true, Bool.or_eq_false_iff] at hc3
        refine AMx.seq ?_
        refine AMx.region (ces := []) (ks := [8, 9, 10, 11]) (hs := [8]) (cs := []) (s' := AS.lst 82 [(8, vp 8 0), (9, vc (i6 0)), (10, vc (SC.nilsl)), (11, vc (i6 17))] [(8, AObj.row [.s (i6 s.1), .s (bo s.2.1), .s (i6 s.2.2.1), .s (slR s.2.2.2)])]) (by kernel_rfl) ?_ ?_
        · exact trivial
        refine AMx.ent (ent_weak 10 (v' := vc (slI [])) (by kernel_rfl) (AV.le_t (TV.le_c AC.le_nil))) ?_
        refine AMx.ret ?_
        exact RetP.mk (r := AV.tup [TV.agg [.s (i6 s.1), .s (bo s.2.1), .s (i6 s.2.2.1), .s (slR s.2.2.2)], tc (i6 0), tc (slI []), tc (i6 17)]) (by kernel_rfl) (by rw [show writeS s r cas size = (s, 0, [], 17) from by first | exact write_no (by unfold refuseS; grind) (by omega) | exact write_ok (by unfold refuseS; grind)])
      · try simp only [decide_eq_true_eq, decide_eq_false_iff_not, Bool.and_eq_true, Bool.and_eq_false_iff, Bool.or_eq_true, Bool.or_eq_false_iff] at hc3
        refine AMx.skip ?_
        refine AMx.seq ?_
        refine AMx.seq ?_
        refine AMx.region (ces := []) (ks := [4, 5, 8, 48]) (hs := [4, 5, 8]) (cs := [((!decide (cas = (-1))) = true) → allP [], ((!decide (cas = (-1))) = true) → allP [], ((!decide (cas = (-1))) = true) → allP [(!decide (cas = (-1))) = true], ((!decide (cas = (-1))) = true) → allP [(!decide (cas = (-1))) = true, (!decide (cas = (-1))) = true], (!decide (cas = (-1))) = true → allP [(!decide (cas = (-1))) = true]]) (s' := AS.lst 82 [(4, vp 4 0), (5, vp 5 0), (8, vp 8 0), (48, vc (bo ((!decide (cas = (-1))) && (!decide (cas = s.2.2.1)))))] [(4, AObj.row [.s (i6 s.1), .s (bo s.2.1), .s (i6 s.2.2.1), .s (slR s.2.2.2)]), (5, AObj.row [.s (i6 r.1), .s (bo r.2)]), (8, AObj.row [.s (i6 0), .s (bo false), .s (i6 0), .s (SC.nilsl)])]) (by kernel_rfl) ?_ ?_
        · exact ⟨(fun _ => trivial), (fun _ => trivial), (fun hp => hp), (fun hp => ⟨hp, hp⟩), (fun hp2 => (by first | exact hp2 | exact ⟨hp, hp2⟩))⟩
        refine AMx.cond (b := ((!decide (cas = (-1))) && (!decide (cas = s.2.2.1)))) (by kernel_rfl) (fun hc4 => ?_) (fun hc4 => ?_)
        · try simp only [decide_eq_true_eq, decide_eq_false_iff_not, Bool.and_eq_true, Bool.and_eq_false_iff, Bool.not_eq_true', Bool.not_eq_false'] at hc4
          refine AMx.seq ?_
          refine AMx.region (ces := []) (ks := [8, 9, 10, 11]) (hs := [8]) (cs := []) (s' := AS.lst 82 [(8, vp 8 0), (9, vc (i6 0)), (10, vc (SC.nilsl)), (11, vc (i6 16))] [(8, AObj.row [.s (i6 s.1), .s (bo s.2.1), .s (i6 s.2.2.1), .s (slR s.2.2.2)])]) (by kernel_rfl) ?_ ?_
          · exact trivial
          refine AMx.ent (ent_weak 10 (v' := vc (slI [])) (by kernel_rfl) (AV.le_t (TV.le_c AC.le_nil))) ?_
          refine AMx.ret ?_
          exact RetP.mk (r := AV.tup [TV.agg [.s (i6 s.1), .s (bo s.2.1), .s (i6 s.2.2.1), .s (slR s.2.2.2)], tc (i6 0), tc (slI []), tc (i6 16)]) (by kernel_rfl) (by rw [show writeS s r cas size = (s, 0, [], 16) from by first | exact write_no (by unfold refuseS; grind) (by omega) | exact write_ok (by unfold refuseS; grind)])
        · try simp only [decide_eq_true_eq, decide_eq_false_iff_not, Bool.and_eq_true, Bool.and_eq_false_iff, Bool.not_eq_true', Bool.not_eq_false'] at hc4
          refine AMx.skip ?_
          refine AMx.seq ?_
          refine AMx.seq ?_
          refine AMx.region (ces := []) (ks := [4, 5, 8, 52]) (hs := [4, 5, 8]) (cs := []) (s' := AS.lst 82 [(4, vp 4 0), (5, vp 5 0), (8, vp 8 0), (52, vc (bo (decide (s.2.2.1 = 30))))] [(4, AObj.row [.s (i6 s.1), .s (bo s.2.1), .s (i6 s.2.2.1), .s (slR s.2.2.2)]), (5, AObj.row [.s (i6 r.1), .s (bo r.2)]), (8, AObj.row [.s (i6 0), .s (bo false), .s (i6 0), .s (SC.nilsl)])]) (by kernel_rfl) ?_ ?_
          · exact trivial
          refine AMx.cond (b := decide (s.2.2.1 = 30)) (by kernel_rfl) (fun hc5 => ?_) (fun hc5 => ?_)
          · try simp only [decide_eq_true_eq, decide_eq_false_iff_not] at hc5
            refine AMx.seq ?_
            refine AMx.region (ces := []) (ks := [8, 9, 10, 11]) (hs := [8]) (cs := []) (s' := AS.lst 82 [(8, vp 8 0), (9, vc (i6 0)), (10, vc (SC.nilsl)), (11, vc (i6 19))] [(8, AObj.row [.s (i6 s.1), .s (bo s.2.1), .s (i6 s.2.2.1), .s (slR s.2.2.2)])]) (by kernel_rfl) ?_ ?_
            · exact trivial
            refine AMx.ent (ent_weak 10 (v' := vc (slI [])) (by kernel_rfl) (AV.le_t (TV.le_c AC.le_nil))) ?_
            refine AMx.ret ?_
            exact RetP.mk (r := AV.tup [TV.agg [.s (i6 s.1), .s (bo s.2.1), .s (i6 s.2.2.1), .s (slR s.2.2.2)], tc (i6 0), tc (slI []), tc (i6 19)]) (by kernel_rfl) (by rw [show writeS s r cas size = (s, 0, [], 19) from by first | exact write_no (by unfold refuseS; grind) (by omega) | exact write_ok (by unfold refuseS; grind)])
          · try simp only [decide_eq_true_eq, decide_eq_false_iff_not] at hc5
            refine AMx.skip ?_
            refine AMx.seq ?_
            refine AMx.region_draw (ces := [(7, CE.obj (AObj.grow 99 3 RowV (0, false, false) rowR [])), (10, CE.obj (AObj.grow 99 3 RowV (0, false, false) rowR ([] ++ s.2.2.2))), (15, CE.obj (AObj.grow 99 3 RowV (0, false, false) rowR [((s.2.2.1 + 1, false, false) : RowV)])), (16, CE.obj (AObj.grow 99 3 RowV (0, false, false) rowR (([] ++ s.2.2.2) ++ [((s.2.2.1 + 1, false, false) : RowV)])))]) (ros := [(1, [4]), (3, [4]), (5, [4]), (9, [4]), (10, [61]), (12, [4]), (16, [64, 69]), (19, [12])]) (ks := [5, 8, 12]) (hs := [5, 8, 12, 70]) (cs := [InR .i64 (s.2.2.1 + 1), flat 3 rowR [] = [], List.length ([] : List RowV) = 0, AppC (flat 3 rowR s.2.2.2) (List.length s.2.2.2) 16 (AObj.grow 99 3 RowV (0, false, false) rowR []) (AObj.grow 99 3 RowV (0, false, false) rowR ([] ++ s.2.2.2)), InR .i64 (s.2.2.1 + 1), flat 3 rowR [((s.2.2.1 + 1, false, false) : RowV)] = [.s (i6 (s.2.2.1 + 1)), .s (bo false), .s (bo false)], List.length ([((s.2.2.1 + 1, false, false) : RowV)] : List RowV) = 1, AppC (flat 3 rowR [((s.2.2.1 + 1, false, false) : RowV)]) (List.length ([((s.2.2.1 + 1, false, false) : RowV)] : List RowV)) 16 (AObj.grow 99 3 RowV (0, false, false) rowR ([] ++ s.2.2.2)) (AObj.grow 99 3 RowV (0, false, false) rowR (([] ++ s.2.2.2) ++ [((s.2.2.1 + 1, false, false) : RowV)]))]) (s' := AS.lst 82 [(5, vp 5 0), (8, vp 8 0), (12, vp 12 0)] [(5, AObj.row [.s (i6 r.1), .s (bo r.2)]), (8, AObj.row [.s (i6 0), .s (bo false), .s (i6 0), .s (SC.nilsl)]), (12, AObj.row [.s (i6 s.1), .s (bo s.2.1), .s (i6 (s.2.2.1 + 1)), .own 70]), (70, AObj.grow 99 3 RowV (0, false, false) rowR (([] ++ s.2.2.2) ++ [((s.2.2.1 + 1, false, false) : RowV)]))]) mixed (by kernel_rfl) ?_ ?_
            · exact ⟨(show InR .i64 (s.2.2.1 + 1) from (inR64 (by first | omega | (have hm := (refuse_may (show refuseS s r cas size = 0 by unfold refuseS; grind)).1.1; unfold RangeS at hm; omega)) (by first | omega | (have hm := (refuse_may (show refuseS s r cas size = 0 by unfold refuseS; grind)).1.1; unfold RangeS at hm; omega)))), rfl, rfl, (⟨_, rfl, rfl, rfl, by simp only [List.length_append, List.length_cons, List.length_nil]; omega, by simp only [maxLen, List.length_append, List.length_cons, List.length_nil]; omega⟩), (show InR .i64 (s.2.2.1 + 1) from (inR64 (by first | omega | (have hm := (refuse_may (show refuseS s r cas size = 0 by unfold refuseS; grind)).1.1; unfold RangeS at hm; omega)) (by first | omega | (have hm := (refuse_may (show refuseS s r cas size = 0 by unfold refuseS; grind)).1.1; unfold RangeS at hm; omega)))), rfl, rfl, (⟨_, rfl, rfl, rfl, by simp only [List.length_append, List.length_cons, List.length_nil]; omega, by simp only [maxLen, List.length_append, List.length_cons, List.length_nil]; omega⟩)⟩
            refine AMx.seq ?_
            refine AMx.region (ces := [(2, CE.call [70] [] (AV.tup [TV.agg [.s (i6 (((fewerS ((s.1, s.2.1, s.2.2.1 + 1, ([] ++ s.2.2.2) ++ [((s.2.2.1 + 1, false, false) : RowV)]) : Sec) r).1).1)), .s (bo (((fewerS ((s.1, s.2.1, s.2.2.1 + 1, ([] ++ s.2.2.2) ++ [((s.2.2.1 + 1, false, false) : RowV)]) : Sec) r).1).2.1)), .s (i6 (((fewerS ((s.1, s.2.1, s.2.2.1 + 1, ([] ++ s.2.2.2) ++ [((s.2.2.1 + 1, false, false) : RowV)]) : Sec) r).1).2.2.1)), .s (slR (((fewerS ((s.1, s.2.1, s.2.2.1 + 1, ([] ++ s.2.2.2) ++ [((s.2.2.1 + 1, false, false) : RowV)]) : Sec) r).1).2.2.2))], tc (slI ((fewerS ((s.1, s.2.1, s.2.2.1 + 1, ([] ++ s.2.2.2) ++ [((s.2.2.1 + 1, false, false) : RowV)]) : Sec) r).2))]) [])]) (ks := [8, 12, 13]) (hs := [8, 12]) (cs := [Spec Try.prog 109 [TV.agg [.s (i6 s.1), .s (bo s.2.1), .s (i6 (s.2.2.1 + 1)), .s (slR (([] ++ s.2.2.2) ++ [((s.2.2.1 + 1, false, false) : RowV)]))], TV.agg [.s (i6 r.1), .s (bo r.2)]] (ofH []) (AV.tup [TV.agg [.s (i6 (((fewerS ((s.1, s.2.1, s.2.2.1 + 1, ([] ++ s.2.2.2) ++ [((s.2.2.1 + 1, false, false) : RowV)]) : Sec) r).1).1)), .s (bo (((fewerS ((s.1, s.2.1, s.2.2.1 + 1, ([] ++ s.2.2.2) ++ [((s.2.2.1 + 1, false, false) : RowV)]) : Sec) r).1).2.1)), .s (i6 (((fewerS ((s.1, s.2.1, s.2.2.1 + 1, ([] ++ s.2.2.2) ++ [((s.2.2.1 + 1, false, false) : RowV)]) : Sec) r).1).2.2.1)), .s (slR (((fewerS ((s.1, s.2.1, s.2.2.1 + 1, ([] ++ s.2.2.2) ++ [((s.2.2.1 + 1, false, false) : RowV)]) : Sec) r).1).2.2.2))], tc (slI ((fewerS ((s.1, s.2.1, s.2.2.1 + 1, ([] ++ s.2.2.2) ++ [((s.2.2.1 + 1, false, false) : RowV)]) : Sec) r).2))]) (ofH [])]) (s' := AS.lst 82 [(8, vp 8 0), (12, vp 12 0), (13, vc (slI ((fewerS ((s.1, s.2.1, s.2.2.1 + 1, ([] ++ s.2.2.2) ++ [((s.2.2.1 + 1, false, false) : RowV)]) : Sec) r).2)))] [(8, AObj.row [.s (i6 0), .s (bo false), .s (i6 0), .s (SC.nilsl)]), (12, AObj.row [.s (i6 (((fewerS ((s.1, s.2.1, s.2.2.1 + 1, ([] ++ s.2.2.2) ++ [((s.2.2.1 + 1, false, false) : RowV)]) : Sec) r).1).1)), .s (bo (((fewerS ((s.1, s.2.1, s.2.2.1 + 1, ([] ++ s.2.2.2) ++ [((s.2.2.1 + 1, false, false) : RowV)]) : Sec) r).1).2.1)), .s (i6 (((fewerS ((s.1, s.2.1, s.2.2.1 + 1, ([] ++ s.2.2.2) ++ [((s.2.2.1 + 1, false, false) : RowV)]) : Sec) r).1).2.2.1)), .s (slR (((fewerS ((s.1, s.2.1, s.2.2.1 + 1, ([] ++ s.2.2.2) ++ [((s.2.2.1 + 1, false, false) : RowV)]) : Sec) r).1).2.2.2))])]) (by kernel_rfl) ?_ ?_
            · exact (RFewer_c ((s.1, s.2.1, s.2.2.1 + 1, ([] ++ s.2.2.2) ++ [((s.2.2.1 + 1, false, false) : RowV)]) : Sec) r (by first | assumption | (have hm := refuse_may (show refuseS s r cas size = 0 by unfold refuseS; grind); have hk0 := keep_any hm.1.1; exact hk0)) (by first | omega | exact (by simp only [List.length_append, List.length_cons, List.length_nil]; omega)))
            refine AMx.seq ?_
            refine AMx.region_draw (ces := []) (ros := [(0, [12]), (2, [12]), (4, [8])]) (ks := [8, 9, 10, 11]) (hs := [8]) (cs := []) (s' := AS.lst 82 [(8, vp 8 0), (9, vc (i6 (((fewerS ((s.1, s.2.1, s.2.2.1 + 1, ([] ++ s.2.2.2) ++ [((s.2.2.1 + 1, false, false) : RowV)]) : Sec) r).1).2.2.1))), (10, vc (slI ((fewerS ((s.1, s.2.1, s.2.2.1 + 1, ([] ++ s.2.2.2) ++ [((s.2.2.1 + 1, false, false) : RowV)]) : Sec) r).2))), (11, vc (i6 0))] [(8, AObj.row [.s (i6 (((fewerS ((s.1, s.2.1, s.2.2.1 + 1, ([] ++ s.2.2.2) ++ [((s.2.2.1 + 1, false, false) : RowV)]) : Sec) r).1).1)), .s (bo (((fewerS ((s.1, s.2.1, s.2.2.1 + 1, ([] ++ s.2.2.2) ++ [((s.2.2.1 + 1, false, false) : RowV)]) : Sec) r).1).2.1)), .s (i6 (((fewerS ((s.1, s.2.1, s.2.2.1 + 1, ([] ++ s.2.2.2) ++ [((s.2.2.1 + 1, false, false) : RowV)]) : Sec) r).1).2.2.1)), .s (slR (((fewerS ((s.1, s.2.1, s.2.2.1 + 1, ([] ++ s.2.2.2) ++ [((s.2.2.1 + 1, false, false) : RowV)]) : Sec) r).1).2.2.2))])]) mixed (by kernel_rfl) ?_ ?_
            · exact trivial
            refine AMx.ret ?_
            exact RetP.mk (r := AV.tup [TV.agg [.s (i6 (((fewerS ((s.1, s.2.1, s.2.2.1 + 1, ([] ++ s.2.2.2) ++ [((s.2.2.1 + 1, false, false) : RowV)]) : Sec) r).1).1)), .s (bo (((fewerS ((s.1, s.2.1, s.2.2.1 + 1, ([] ++ s.2.2.2) ++ [((s.2.2.1 + 1, false, false) : RowV)]) : Sec) r).1).2.1)), .s (i6 (((fewerS ((s.1, s.2.1, s.2.2.1 + 1, ([] ++ s.2.2.2) ++ [((s.2.2.1 + 1, false, false) : RowV)]) : Sec) r).1).2.2.1)), .s (slR (((fewerS ((s.1, s.2.1, s.2.2.1 + 1, ([] ++ s.2.2.2) ++ [((s.2.2.1 + 1, false, false) : RowV)]) : Sec) r).1).2.2.2))], tc (i6 (((fewerS ((s.1, s.2.1, s.2.2.1 + 1, ([] ++ s.2.2.2) ++ [((s.2.2.1 + 1, false, false) : RowV)]) : Sec) r).1).2.2.1)), tc (slI ((fewerS ((s.1, s.2.1, s.2.2.1 + 1, ([] ++ s.2.2.2) ++ [((s.2.2.1 + 1, false, false) : RowV)]) : Sec) r).2)), tc (i6 0)]) (by kernel_rfl) (by rw [show writeS s r cas size = (((fewerS ((s.1, s.2.1, s.2.2.1 + 1, ([] ++ s.2.2.2) ++ [((s.2.2.1 + 1, false, false) : RowV)]) : Sec) r).1), ((fewerS ((s.1, s.2.1, s.2.2.1 + 1, ([] ++ s.2.2.2) ++ [((s.2.2.1 + 1, false, false) : RowV)]) : Sec) r).1).2.2.1, (fewerS ((s.1, s.2.1, s.2.2.1 + 1, ([] ++ s.2.2.2) ++ [((s.2.2.1 + 1, false, false) : RowV)]) : Sec) r).2, 0) from by first | exact write_no (by unfold refuseS; grind) (by omega) | exact write_ok (by unfold refuseS; grind)])

end AL.Secret
