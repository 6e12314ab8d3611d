/- rows: the contracts of its functions, by their walks. No condition. -/
import Derived.Test.YtfdappjogpngiaaDoorRowsAt
namespace AL.Rows
open Go Go.Proofs AL
open AL.Secret (Sec RowV loose rowR)
open AL.Under (hasP trimP)
set_option linter.unusedVariables false
set_option linter.unusedSimpArgs false

theorem f11_body : Tryd.f11.body = some (.seq (.region 0 (rg Tryd.f11 0) false) (.seq (.seq (.region 1 (rg Tryd.f11 1) false) (.cond (.tmp 10) (.seq (.region 2 (rg Tryd.f11 2) false) (.ret)) (.skip))) (.seq (.region 3 (rg Tryd.f11 3) true) (.seq (.seq (.region 4 (rg Tryd.f11 4) false) (.cond (.tmp 23) (.region 5 (rg Tryd.f11 5) true) (.skip))) (.seq (.seq (.region 6 (rg Tryd.f11 6) false) (.block 0 (.loop (.seq (.seq (.region 7 (rg Tryd.f11 7) false) (.cond (.tmp 42) (.skip) (.exit 0))) (.seq (.block 1 (.seq (.region 9 (rg Tryd.f11 9) false) (.seq (.region 10 (rg Tryd.f11 10) false) (.cond (.tmp 59) (.seq (.region 11 (rg Tryd.f11 11) false) (.ret)) (.skip))))) (.region 8 (rg Tryd.f11 8) false)))))) (.seq (.region 12 (rg Tryd.f11 12) false) (.ret))))))) := by kernel_rfl

set_option maxRecDepth 100000 in
set_option maxHeartbeats 8000000 in
theorem RParse_c (s : Bytes) (hb : s.length ≤ 90000) : Pure Tryd.prog 11 [tc (st s)] (AV.tup [TV.agg [.s (u8 (((parseS s).1).1)), .s (st (((parseS s).1).2.1)), .s (i6 (((parseS s).1).2.2))], tc (i6 ((parseS s).2))]) := by
  refine Pure.of_body Tryd.func11 f11_body (by kernel_rfl) Tryd.ntmps11 (by kernel_rfl) (by kernel_rfl) ?_
  have ht := tries_size s
  refine AMx.seq ?_
  refine AMx.region (ces := []) (ks := [0, 2]) (hs := [2]) (cs := []) (s' := AS.lst 65 [(0, vc (st s)), (2, vp 2 0)] [(2, AObj.row [.s (u8 0), .s (st []), .s (i6 0)])]) (by kernel_rfl) ?_ ?_
  · exact trivial
  refine AMx.seq ?_
  refine AMx.seq ?_
  refine AMx.region (ces := []) (ks := [0, 2, 10]) (hs := [2]) (cs := []) (s' := AS.lst 65 [(0, vc (st s)), (2, vp 2 0), (10, vc (bo (decide ((List.length s : Int) < 2))))] [(2, AObj.row [.s (u8 0), .s (st []), .s (i6 0)])]) (by kernel_rfl) ?_ ?_
  · exact trivial
  refine AMx.cond (b := decide ((List.length s : Int) < 2)) (by kernel_rfl) (fun hc1 => ?_) (fun hc1 => ?_)
  · try simp only [decide_eq_true_eq, decide_eq_false_iff_not] at hc1
    refine AMx.seq ?_
    refine AMx.region (ces := []) (ks := [2, 3]) (hs := [2]) (cs := []) (s' := AS.lst 65 [(2, vp 2 0), (3, vc (i6 4))] [(2, AObj.row [.s (u8 0), .s (st []), .s (i6 0)])]) (by kernel_rfl) ?_ ?_
    · exact trivial
    refine AMx.ret ?_
    exact RetP.mk (r := AV.tup [TV.agg [.s (u8 0), .s (st []), .s (i6 0)], tc (i6 4)]) (by kernel_rfl) (by rw [show parseS s = (((0, [], 0) : KeyV), 4) from by first | rw [parse_short (by omega)] | (rw [text_eq (k := List.getD (triesS s) i (0, [], 0)) hc1.1 hc1.2]) | (rw [parse_none (fun k hk => by obtain ⟨j, hj, rfl⟩ := List.mem_iff_getElem.1 hk; have q := hN j (by omega); rwa [Lib.getD_lt _ _ _ hj] at q)])])
  · try simp only [decide_eq_true_eq, decide_eq_false_iff_not] at hc1
    refine AMx.skip ?_
    refine AMx.seq ?_
    refine AMx.region_draw (ces := [(8, CE.obj (AObj.grow 23 3 KeyV (0, [], 0) rowK [((1, List.drop 2 s, 0) : KeyV), ((3, List.drop 2 s, 0) : KeyV), ((4, [], 0) : KeyV), ((5, [], 0) : KeyV)]))]) (ros := []) (ks := [0, 2, 4]) (hs := [2, 20]) (cs := [0 ≤ (2 : Int), (2 : Int) ≤ List.length s, 0 ≤ (2 : Int), (2 : Int) ≤ List.length s, flat 3 rowK [((1, List.drop 2 s, 0) : KeyV), ((3, List.drop 2 s, 0) : KeyV), ((4, [], 0) : KeyV), ((5, [], 0) : KeyV)] = [.s (u8 1), .s (st (List.drop 2 s)), .s (i6 0), .s (u8 3), .s (st (List.drop 2 s)), .s (i6 0), .s (u8 4), .s (st []), .s (i6 0), .s (u8 5), .s (st []), .s (i6 0)], List.length ([((1, List.drop 2 s, 0) : KeyV), ((3, List.drop 2 s, 0) : KeyV), ((4, [], 0) : KeyV), ((5, [], 0) : KeyV)] : List KeyV) = 4]) (s' := AS.lst 65 [(0, vc (st s)), (2, vp 2 0), (4, vo 20)] [(2, AObj.row [.s (u8 0), .s (st []), .s (i6 0)]), (20, AObj.grow 23 3 KeyV (0, [], 0) rowK [((1, List.drop 2 s, 0) : KeyV), ((3, List.drop 2 s, 0) : KeyV), ((4, [], 0) : KeyV), ((5, [], 0) : KeyV)])]) mixed (by kernel_rfl) ?_ ?_
    · exact ⟨(show 0 ≤ (2 : Int) from (by first | omega | (have hz := tries_len s _ (Lib.getD_mem (0, [], 0) (triesS s) i (by omega)); omega))), (show (2 : Int) ≤ List.length s from (by first | omega | (have hz := tries_len s _ (Lib.getD_mem (0, [], 0) (triesS s) i (by omega)); omega))), (show 0 ≤ (2 : Int) from (by first | omega | (have hz := tries_len s _ (Lib.getD_mem (0, [], 0) (triesS s) i (by omega)); omega))), (show (2 : Int) ≤ List.length s from (by first | omega | (have hz := tries_len s _ (Lib.getD_mem (0, [], 0) (triesS s) i (by omega)); omega))), rfl, rfl⟩
    refine AMx.seq ?_
    refine AMx.seq ?_
    refine AMx.region (ces := []) (ks := [0, 2, 4, 23]) (hs := [2, 20]) (cs := []) (s' := AS.lst 65 [(0, vc (st s)), (2, vp 2 0), (4, vo 20), (23, vc (bo (decide (4 ≤ (List.length s : Int)))))] [(2, AObj.row [.s (u8 0), .s (st []), .s (i6 0)]), (20, AObj.grow 23 3 KeyV (0, [], 0) rowK [((1, List.drop 2 s, 0) : KeyV), ((3, List.drop 2 s, 0) : KeyV), ((4, [], 0) : KeyV), ((5, [], 0) : KeyV)])]) (by kernel_rfl) ?_ ?_
    · exact trivial
    refine AMx.cond (b := decide (4 ≤ (List.length s : Int))) (by kernel_rfl) (fun hc2 => ?_) (fun hc2 => ?_)
    · try simp only [decide_eq_true_eq, decide_eq_false_iff_not] at hc2
      refine AMx.region_draw (ces := [(13, CE.obj (AObj.grow 23 3 KeyV (0, [], 0) rowK [((2, List.drop 2 (List.take ((List.length s : Int) - 2).toNat s), ((List.getD s ((List.length s : Int) - 1).toNat 0).toNat : Int)) : KeyV)])), (14, CE.obj (AObj.grow 23 3 KeyV (0, [], 0) rowK ([((1, List.drop 2 s, 0) : KeyV), ((3, List.drop 2 s, 0) : KeyV), ((4, [], 0) : KeyV), ((5, [], 0) : KeyV)] ++ [((2, List.drop 2 (List.take ((List.length s : Int) - 2).toNat s), ((List.getD s ((List.length s : Int) - 1).toNat 0).toNat : Int)) : KeyV)])))]) (ros := [(14, [20, 37])]) (ks := [0, 2, 4]) (hs := [2, 38]) (cs := [InR .i64 ((List.length s : Int) - 2), 0 ≤ (List.length s : Int) - 2, (List.length s : Int) - 2 ≤ List.length s, 0 ≤ (2 : Int), (2 : Int) ≤ (List.length s : Int) - 2, InR .i64 ((List.length s : Int) - 1), (0 : Int) ≤ (List.length s : Int) - 1, (List.length s : Int) - 1 < List.length s, flat 3 rowK [((2, List.drop 2 (List.take ((List.length s : Int) - 2).toNat s), ((List.getD s ((List.length s : Int) - 1).toNat 0).toNat : Int)) : KeyV)] = [.s (u8 2), .s (st (List.drop 2 (List.take ((List.length s : Int) - 2).toNat s))), .s (i6 ((List.getD s ((List.length s : Int) - 1).toNat 0).toNat : Int))], List.length ([((2, List.drop 2 (List.take ((List.length s : Int) - 2).toNat s), ((List.getD s ((List.length s : Int) - 1).toNat 0).toNat : Int)) : KeyV)] : List KeyV) = 1, AppC (flat 3 rowK [((2, List.drop 2 (List.take ((List.length s : Int) - 2).toNat s), ((List.getD s ((List.length s : Int) - 1).toNat 0).toNat : Int)) : KeyV)]) (List.length ([((2, List.drop 2 (List.take ((List.length s : Int) - 2).toNat s), ((List.getD s ((List.length s : Int) - 1).toNat 0).toNat : Int)) : KeyV)] : List KeyV)) 32 (AObj.grow 23 3 KeyV (0, [], 0) rowK [((1, List.drop 2 s, 0) : KeyV), ((3, List.drop 2 s, 0) : KeyV), ((4, [], 0) : KeyV), ((5, [], 0) : KeyV)]) (AObj.grow 23 3 KeyV (0, [], 0) rowK ([((1, List.drop 2 s, 0) : KeyV), ((3, List.drop 2 s, 0) : KeyV), ((4, [], 0) : KeyV), ((5, [], 0) : KeyV)] ++ [((2, List.drop 2 (List.take ((List.length s : Int) - 2).toNat s), ((List.getD s ((List.length s : Int) - 1).toNat 0).toNat : Int)) : KeyV)]))]) (s' := AS.lst 65 [(0, vc (st s)), (2, vp 2 0), (4, vo 38)] [(2, AObj.row [.s (u8 0), .s (st []), .s (i6 0)]), (38, AObj.grow 23 3 KeyV (0, [], 0) rowK ([((1, List.drop 2 s, 0) : KeyV), ((3, List.drop 2 s, 0) : KeyV), ((4, [], 0) : KeyV), ((5, [], 0) : KeyV)] ++ [((2, List.drop 2 (List.take ((List.length s : Int) - 2).toNat s), ((List.getD s ((List.length s : Int) - 1).toNat 0).toNat : Int)) : KeyV)]))]) mixed (by kernel_rfl) ?_ ?_
      · exact ⟨(show InR .i64 ((List.length s : Int) - 2) from (inR64 (by first | omega | (have hz := tries_len s _ (Lib.getD_mem (0, [], 0) (triesS s) i (by omega)); omega)) (by first | omega | (have hz := tries_len s _ (Lib.getD_mem (0, [], 0) (triesS s) i (by omega)); omega)))), (show 0 ≤ (List.length s : Int) - 2 from (by first | omega | (have hz := tries_len s _ (Lib.getD_mem (0, [], 0) (triesS s) i (by omega)); omega))), (show (List.length s : Int) - 2 ≤ List.length s from (by first | omega | (have hz := tries_len s _ (Lib.getD_mem (0, [], 0) (triesS s) i (by omega)); omega))), (show 0 ≤ (2 : Int) from (by first | omega | (have hz := tries_len s _ (Lib.getD_mem (0, [], 0) (triesS s) i (by omega)); omega))), (show (2 : Int) ≤ (List.length s : Int) - 2 from (by first | omega | (have hz := tries_len s _ (Lib.getD_mem (0, [], 0) (triesS s) i (by omega)); omega))), (show InR .i64 ((List.length s : Int) - 1) from (inR64 (by first | omega | (have hz := tries_len s _ (Lib.getD_mem (0, [], 0) (triesS s) i (by omega)); omega)) (by first | omega | (have hz := tries_len s _ (Lib.getD_mem (0, [], 0) (triesS s) i (by omega)); omega)))), (show (0 : Int) ≤ (List.length s : Int) - 1 from (by first | omega | (have hz := tries_len s _ (Lib.getD_mem (0, [], 0) (triesS s) i (by omega)); omega))), (show (List.length s : Int) - 1 < List.length s from (by first | omega | (have hz := tries_len s _ (Lib.getD_mem (0, [], 0) (triesS s) i (by omega)); omega))), rfl, rfl, (⟨[((2, List.drop 2 (List.take ((List.length s : Int) - 2).toNat s), ((List.getD s ((List.length s : Int) - 1).toNat 0).toNat : Int)) : KeyV)], rfl, rfl, rfl, by simp only [List.length_append, List.length_cons, List.length_nil]; omega, by simp only [List.length_append, List.length_cons, List.length_nil, maxLen]; omega⟩)⟩
      rw [show [((1, List.drop 2 s, 0) : KeyV), ((3, List.drop 2 s, 0) : KeyV), ((4, [], 0) : KeyV), ((5, [], 0) : KeyV)] ++ [((2, List.drop 2 (List.take ((List.length s : Int) - 2).toNat s), ((List.getD s ((List.length s : Int) - 1).toNat 0).toNat : Int)) : KeyV)] = triesS s from by unfold triesS; rw [if_pos (by omega), show ((List.length s : Int) - 2).toNat = List.length s - 2 by omega, show ((List.length s : Int) - 1).toNat = List.length s - 1 by omega]]
      refine AMx.seq ?_
      refine AMx.seq ?_
      refine AMx.region (ces := []) (ks := [0, 2, 4, 5]) (hs := [2, 38]) (cs := []) (s' := AS.lst 65 [(0, vc (st s)), (2, vp 2 0), (4, vo 38), (5, vc (i6 0))] [(2, AObj.row [.s (u8 0), .s (st []), .s (i6 0)]), (38, AObj.grow 23 3 KeyV (0, [], 0) rowK (triesS s))]) (by kernel_rfl) ?_ ?_
      · exact trivial
      refine AMx.block ?_
      refine AMx.ent (s' := AS.lst 65 [(0, vc (st s)), (2, vp 2 0), (4, vo 38), (5, vc (i6 0))] [(2, AObj.row [.s (u8 0), .s (st []), .s (i6 0)]), (38, AObj.grow 23 3 KeyV (0, [], 0) rowK (triesS s))]) (ent_proj [0, 2, 4, 5] [2, 38]) ?_
      refine AMx.loop (fun mm ss => ∃ (i : Nat), (i ≤ (triesS s).length ∧ ∀ j, j < i → ¬ ((textS (List.getD (triesS s) j (0, [], 0))).2 = 0 ∧ (textS (List.getD (triesS s) j (0, [], 0))).1 = s)) ∧ mm = (triesS s).length - i ∧ ss = AS.lst 65 [(0, vc (st s)), (2, vp 2 0), (4, vo 38), (5, vc (i6 (i : Int)))] [(2, AObj.row [.s (u8 0), .s (st []), .s (i6 0)]), (38, AObj.grow 23 3 KeyV (0, [], 0) rowK (triesS s))]) ⟨0, ?_, rfl, ?_⟩ ?_
      · exact ⟨Nat.zero_le _, fun j hj => by omega⟩
      · rfl
      rintro mm ss ⟨i, ⟨hI, hN⟩, rfl, rfl⟩
      refine AMx.seq ?_
      refine AMx.seq ?_
      refine AMx.region (ces := []) (ks := [0, 2, 4, 5, 42]) (hs := [2, 38]) (cs := []) (s' := AS.lst 65 [(0, vc (st s)), (2, vp 2 0), (4, vo 38), (5, vc (i6 (i : Int))), (42, vc (bo (decide ((i : Int) < (List.length (triesS s : List KeyV) : Int)))))] [(2, AObj.row [.s (u8 0), .s (st []), .s (i6 0)]), (38, AObj.grow 23 3 KeyV (0, [], 0) rowK (triesS s))]) (by kernel_rfl) ?_ ?_
      · exact trivial
      refine AMx.cond (b := decide ((i : Int) < (List.length (triesS s : List KeyV) : Int))) (by kernel_rfl) (fun hc3 => ?_) (fun hc3 => ?_)
      · try simp only [decide_eq_true_eq, decide_eq_false_iff_not] at hc3
        refine AMx.skip ?_
        refine AMx.seq ?_
        refine AMx.block ?_
        refine AMx.seq ?_
        refine AMx.region (ces := [(4, CE.call [] [] (AV.tup [tc (st ((textS (List.getD (triesS s) i (0, [], 0))).1)), tc (i6 ((textS (List.getD (triesS s) i (0, [], 0))).2))]) [])]) (ks := [0, 2, 4, 5, 6, 7]) (hs := [2, 38]) (cs := [(0 : Int) ≤ (i : Int), (i : Int) < List.length (triesS s : List KeyV), i < List.length (triesS s : List KeyV), Spec Tryd.prog 9 [TV.agg [.s (u8 ((List.getD (triesS s) i (0, [], 0)).1)), .s (st ((List.getD (triesS s) i (0, [], 0)).2.1)), .s (i6 ((List.getD (triesS s) i (0, [], 0)).2.2))]] (ofH []) (AV.tup [tc (st ((textS (List.getD (triesS s) i (0, [], 0))).1)), tc (i6 ((textS (List.getD (triesS s) i (0, [], 0))).2))]) (ofH [])]) (s' := AS.lst 65 [(0, vc (st s)), (2, vp 2 0), (4, vo 38), (5, vc (i6 (i : Int))), (6, vc (st ((textS (List.getD (triesS s) i (0, [], 0))).1))), (7, vc (i6 ((textS (List.getD (triesS s) i (0, [], 0))).2)))] [(2, AObj.row [.s (u8 0), .s (st []), .s (i6 0)]), (38, AObj.grow 23 3 KeyV (0, [], 0) rowK (triesS s))]) (by kernel_rfl) ?_ ?_
        · exact ⟨(show (0 : Int) ≤ (i : Int) from (by first | omega | (have hz := tries_len s _ (Lib.getD_mem (0, [], 0) (triesS s) i (by omega)); omega))), (show (i : Int) < List.length (triesS s : List KeyV) from (by first | omega | (have hz := tries_len s _ (Lib.getD_mem (0, [], 0) (triesS s) i (by omega)); omega))), (show i < List.length (triesS s : List KeyV) from (by first | omega | (have hz := tries_len s _ (Lib.getD_mem (0, [], 0) (triesS s) i (by omega)); omega))), (RText_c (List.getD (triesS s) i (0, [], 0)) (by first | omega | (have hz := tries_len s _ (Lib.getD_mem (0, [], 0) (triesS s) i (by omega)); omega)))⟩
        refine AMx.seq ?_
        refine AMx.region (ces := []) (ks := [0, 2, 4, 5, 59]) (hs := [2, 38]) (cs := [((decide ((textS (List.getD (triesS s) i (0, [], 0))).2 = 0)) = true) → allP [], ((decide ((textS (List.getD (triesS s) i (0, [], 0))).2 = 0)) = true) → allP [], ((decide ((textS (List.getD (triesS s) i (0, [], 0))).2 = 0)) = true) → allP [(decide ((textS (List.getD (triesS s) i (0, [], 0))).2 = 0)) = true, (decide ((textS (List.getD (triesS s) i (0, [], 0))).2 = 0)) = true], (decide ((textS (List.getD (triesS s) i (0, [], 0))).2 = 0)) = true → allP [(decide ((textS (List.getD (triesS s) i (0, [], 0))).2 = 0)) = true]]) (s' := AS.lst 65 [(0, vc (st s)), (2, vp 2 0), (4, vo 38), (5, vc (i6 (i : Int))), (59, vc (bo ((decide ((textS (List.getD (triesS s) i (0, [], 0))).2 = 0)) && (decide ((textS (List.getD (triesS s) i (0, [], 0))).1 = s)))))] [(2, AObj.row [.s (u8 0), .s (st []), .s (i6 0)]), (38, AObj.grow 23 3 KeyV (0, [], 0) rowK (triesS s))]) (by kernel_rfl) ?_ ?_
        · exact ⟨(fun _ => trivial), (fun _ => trivial), (fun hp => ⟨hp, hp⟩), (fun hp2 => (by first | exact hp2 | exact ⟨hp, hp2⟩))⟩
        refine AMx.cond (b := ((decide ((textS (List.getD (triesS s) i (0, [], 0))).2 = 0)) && (decide ((textS (List.getD (triesS s) i (0, [], 0))).1 = s)))) (by kernel_rfl) (fun hc4 => ?_) (fun hc4 => ?_)
        · try simp only [decide_eq_true_eq, decide_eq_false_iff_not, Bool.and_eq_true, Bool.and_eq_false_iff] at hc4
          refine AMx.seq ?_
          refine AMx.region (ces := []) (ks := [2, 3]) (hs := [2]) (cs := [(0 : Int) ≤ (i : Int), (i : Int) < List.length (triesS s : List KeyV), i < List.length (triesS s : List KeyV)]) (s' := AS.lst 65 [(2, vp 2 0), (3, vc (i6 0))] [(2, AObj.row [.s (u8 ((List.getD (triesS s) i (0, [], 0)).1)), .s (st ((List.getD (triesS s) i (0, [], 0)).2.1)), .s (i6 ((List.getD (triesS s) i (0, [], 0)).2.2))])]) (by kernel_rfl) ?_ ?_
          · exact ⟨(show (0 : Int) ≤ (i : Int) from (by first | omega | (have hz := tries_len s _ (Lib.getD_mem (0, [], 0) (triesS s) i (by omega)); omega))), (show (i : Int) < List.length (triesS s : List KeyV) from (by first | omega | (have hz := tries_len s _ (Lib.getD_mem (0, [], 0) (triesS s) i (by omega)); omega))), (show i < List.length (triesS s : List KeyV) from (by first | omega | (have hz := tries_len s _ (Lib.getD_mem (0, [], 0) (triesS s) i (by omega)); omega)))⟩
          refine AMx.ret ?_
          exact RetP.mk (r := AV.tup [TV.agg [.s (u8 ((List.getD (triesS s) i (0, [], 0)).1)), .s (st ((List.getD (triesS s) i (0, [], 0)).2.1)), .s (i6 ((List.getD (triesS s) i (0, [], 0)).2.2))], tc (i6 0)]) (by kernel_rfl) (by rw [show parseS s = ((List.getD (triesS s) i (0, [], 0)), 0) from by first | rw [parse_short (by omega)] | (rw [text_eq (k := List.getD (triesS s) i (0, [], 0)) hc4.1 hc4.2]) | (rw [parse_none (fun k hk => by obtain ⟨j, hj, rfl⟩ := List.mem_iff_getElem.1 hk; have q := hN j (by omega); rwa [Lib.getD_lt _ _ _ hj] at q)])])
        · try simp only [decide_eq_true_eq, decide_eq_false_iff_not, Bool.and_eq_true, Bool.and_eq_false_iff] at hc4
          refine AMx.skip ?_
          refine AMx.blk ?_
          refine AMx.region (ces := []) (ks := [0, 2, 4, 5]) (hs := [2, 38]) (cs := [InR .i64 ((i : Int) + 1)]) (s' := AS.lst 65 [(0, vc (st s)), (2, vp 2 0), (4, vo 38), (5, vc (i6 ((i : Int) + 1)))] [(2, AObj.row [.s (u8 0), .s (st []), .s (i6 0)]), (38, AObj.grow 23 3 KeyV (0, [], 0) rowK (triesS s))]) (by kernel_rfl) ?_ ?_
          · exact (show InR .i64 ((i : Int) + 1) from (inR64 (by first | omega | (have hz := tries_len s _ (Lib.getD_mem (0, [], 0) (triesS s) i (by omega)); omega)) (by first | omega | (have hz := tries_len s _ (Lib.getD_mem (0, [], 0) (triesS s) i (by omega)); omega))))
          refine AMx.ent_inv (s' := AS.lst 65 [(0, vc (st s)), (2, vp 2 0), (4, vo 38), (5, vc (i6 ((i : Int) + 1)))] [(2, AObj.row [.s (u8 0), .s (st []), .s (i6 0)]), (38, AObj.grow 23 3 KeyV (0, [], 0) rowK (triesS s))]) (ent_proj [0, 2, 4, 5] [2, 38]) ?_
          refine AMx.inv ⟨_, ?_, i + 1, ?_, rfl, ?_⟩
          rotate_left
          · exact ⟨by omega, fun j hj => by rcases Nat.lt_or_ge j i with q | q; exact hN j q; rw [show j = i by omega]; rintro ⟨z1, z2⟩; rcases ‹_ ∨ _› with z | z; exact z z1; exact z z2⟩
          · rfl
          · omega
      · try simp only [decide_eq_true_eq, decide_eq_false_iff_not] at hc3
        refine AMx.exit ?_
        refine AMx.code_exit ?_
        refine AMx.inv_exit ?_
        refine AMx.blk_exit ?_
        refine AMx.seq ?_
        refine AMx.region (ces := []) (ks := [2, 3]) (hs := [2]) (cs := []) (s' := AS.lst 65 [(2, vp 2 0), (3, vc (i6 4))] [(2, AObj.row [.s (u8 0), .s (st []), .s (i6 0)])]) (by kernel_rfl) ?_ ?_
        · exact trivial
        refine AMx.ret ?_
        exact RetP.mk (r := AV.tup [TV.agg [.s (u8 0), .s (st []), .s (i6 0)], tc (i6 4)]) (by kernel_rfl) (by rw [show parseS s = (((0, [], 0) : KeyV), 4) from by first | rw [parse_short (by omega)] | (rw [text_eq (k := List.getD (triesS s) i (0, [], 0)) hc4.1 hc4.2]) | (rw [parse_none (fun k hk => by obtain ⟨j, hj, rfl⟩ := List.mem_iff_getElem.1 hk; have q := hN j (by omega); rwa [Lib.getD_lt _ _ _ hj] at q)])])
    · try simp only [decide_eq_true_eq, decide_eq_false_iff_not] at hc2
      refine AMx.skip ?_
      refine AMx.seq ?_
      refine AMx.seq ?_
      refine AMx.region (ces := []) (ks := [0, 2, 4, 5]) (hs := [2, 20]) (cs := []) (s' := AS.lst 65 [(0, vc (st s)), (2, vp 2 0), (4, vo 20), (5, vc (i6 0))] [(2, AObj.row [.s (u8 0), .s (st []), .s (i6 0)]), (20, AObj.grow 23 3 KeyV (0, [], 0) rowK [((1, List.drop 2 s, 0) : KeyV), ((3, List.drop 2 s, 0) : KeyV), ((4, [], 0) : KeyV), ((5, [], 0) : KeyV)])]) (by kernel_rfl) ?_ ?_
      · exact trivial
      rw [show [((1, List.drop 2 s, 0) : KeyV), ((3, List.drop 2 s, 0) : KeyV), ((4, [], 0) : KeyV), ((5, [], 0) : KeyV)] = triesS s from by unfold triesS; rw [if_neg (by omega), List.append_nil]]
      refine AMx.block ?_
      refine AMx.ent (s' := AS.lst 65 [(0, vc (st s)), (2, vp 2 0), (4, vo 20), (5, vc (i6 0))] [(2, AObj.row [.s (u8 0), .s (st []), .s (i6 0)]), (20, AObj.grow 23 3 KeyV (0, [], 0) rowK (triesS s))]) (ent_proj [0, 2, 4, 5] [2, 20]) ?_
      refine AMx.loop (fun mm ss => ∃ (i : Nat), (i ≤ (triesS s).length ∧ ∀ j, j < i → ¬ ((textS (List.getD (triesS s) j (0, [], 0))).2 = 0 ∧ (textS (List.getD (triesS s) j (0, [], 0))).1 = s)) ∧ mm = (triesS s).length - i ∧ ss = AS.lst 65 [(0, vc (st s)), (2, vp 2 0), (4, vo 20), (5, vc (i6 (i : Int)))] [(2, AObj.row [.s (u8 0), .s (st []), .s (i6 0)]), (20, AObj.grow 23 3 KeyV (0, [], 0) rowK (triesS s))]) ⟨0, ?_, rfl, ?_⟩ ?_
      · exact ⟨Nat.zero_le _, fun j hj => by omega⟩
      · rfl
      rintro mm ss ⟨i, ⟨hI, hN⟩, rfl, rfl⟩
      refine AMx.seq ?_
      refine AMx.seq ?_
      refine AMx.region (ces := []) (ks := [0, 2, 4, 5, 42]) (hs := [2, 20]) (cs := []) (s' := AS.lst 65 [(0, vc (st s)), (2, vp 2 0), (4, vo 20), (5, vc (i6 (i : Int))), (42, vc (bo (decide ((i : Int) < (List.length (triesS s : List KeyV) : Int)))))] [(2, AObj.row [.s (u8 0), .s (st []), .s (i6 0)]), (20, AObj.grow 23 3 KeyV (0, [], 0) rowK (triesS s))]) (by kernel_rfl) ?_ ?_
      · exact trivial
      refine AMx.cond (b := decide ((i : Int) < (List.length (triesS s : List KeyV) : Int))) (by kernel_rfl) (fun hc5 => ?_) (fun hc5 => ?_)
      · try simp only [decide_eq_true_eq, decide_eq_false_iff_not] at hc5
        refine AMx.skip ?_
        refine AMx.seq ?_
        refine AMx.block ?_
        refine AMx.seq ?_
        refine AMx.region (ces := [(4, CE.call [] [] (AV.tup [tc (st ((textS (List.getD (triesS s) i (0, [], 0))).1)), tc (i6 ((textS (List.getD (triesS s) i (0, [], 0))).2))]) [])]) (ks := [0, 2, 4, 5, 6, 7]) (hs := [2, 20]) (cs := [(0 : Int) ≤ (i : Int), (i : Int) < List.length (triesS s : List KeyV), i < List.length (triesS s : List KeyV), Spec Tryd.prog 9 [TV.agg [.s (u8 ((List.getD (triesS s) i (0, [], 0)).1)), .s (st ((List.getD (triesS s) i (0, [], 0)).2.1)), .s (i6 ((List.getD (triesS s) i (0, [], 0)).2.2))]] (ofH []) (AV.tup [tc (st ((textS (List.getD (triesS s) i (0, [], 0))).1)), tc (i6 ((textS (List.getD (triesS s) i (0, [], 0))).2))]) (ofH [])]) (s' := AS.lst 65 [(0, vc (st s)), (2, vp 2 0), (4, vo 20), (5, vc (i6 (i : Int))), (6, vc (st ((textS (List.getD (triesS s) i (0, [], 0))).1))), (7, vc (i6 ((textS (List.getD (triesS s) i (0, [], 0))).2)))] [(2, AObj.row [.s (u8 0), .s (st []), .s (i6 0)]), (20, AObj.grow 23 3 KeyV (0, [], 0) rowK (triesS s))]) (by kernel_rfl) ?_ ?_
        · exact ⟨(show (0 : Int) ≤ (i : Int) from (by first | omega | (have hz := tries_len s _ (Lib.getD_mem (0, [], 0) (triesS s) i (by omega)); omega))), (show (i : Int) < List.length (triesS s : List KeyV) from (by first | omega | (have hz := tries_len s _ (Lib.getD_mem (0, [], 0) (triesS s) i (by omega)); omega))), (show i < List.length (triesS s : List KeyV) from (by first | omega | (have hz := tries_len s _ (Lib.getD_mem (0, [], 0) (triesS s) i (by omega)); omega))), (RText_c (List.getD (triesS s) i (0, [], 0)) (by first | omega | (have hz := tries_len s _ (Lib.getD_mem (0, [], 0) (triesS s) i (by omega)); omega)))⟩
        refine AMx.seq ?_
        refine AMx.region (ces := []) (ks := [0, 2, 4, 5, 59]) (hs := [2, 20]) (cs := [((decide ((textS (List.getD (triesS s) i (0, [], 0))).2 = 0)) = true) → allP [], ((decide ((textS (List.getD (triesS s) i (0, [], 0))).2 = 0)) = true) → allP [], ((decide ((textS (List.getD (triesS s) i (0, [], 0))).2 = 0)) = true) → allP [(decide ((textS (List.getD (triesS s) i (0, [], 0))).2 = 0)) = true, (decide ((textS (List.getD (triesS s) i (0, [], 0))).2 = 0)) = true], (decide ((textS (List.getD (triesS s) i (0, [], 0))).2 = 0)) = true → allP [(decide ((textS (List.getD (triesS s) i (0, [], 0))).2 = 0)) = true]]) (s' := AS.lst 65 [(0, vc (st s)), (2, vp 2 0), (4, vo 20), (5, vc (i6 (i : Int))), (59, vc (bo ((decide ((textS (List.getD (triesS s) i (0, [], 0))).2 = 0)) && (decide ((textS (List.getD (triesS s) i (0, [], 0))).1 = s)))))] [(2, AObj.row [.s (u8 0), .s (st []), .s (i6 0)]), (20, AObj.grow 23 3 KeyV (0, [], 0) rowK (triesS s))]) (by kernel_rfl) ?_ ?_
        · exact ⟨(fun _ => trivial), (fun _ => trivial), (fun hp => ⟨hp, hp⟩), (fun hp2 => (by first | exact hp2 | exact ⟨hp, hp2⟩))⟩
        refine AMx.cond (b := ((decide ((textS (List.getD (triesS s) i (0, [], 0))).2 = 0)) && (decide ((textS (List.getD (triesS s) i (0, [], 0))).1 = s)))) (by kernel_rfl) (fun hc6 => ?_) (fun hc6 => ?_)
        · try simp only [decide_eq_true_eq, decide_eq_false_iff_not, Bool.and_eq_true, Bool.and_eq_false_iff] at hc6
          refine AMx.seq ?_
          refine AMx.region (ces := []) (ks := [2, 3]) (hs := [2]) (cs := [(0 : Int) ≤ (i : Int), (i : Int) < List.length (triesS s : List KeyV), i < List.length (triesS s : List KeyV)]) (s' := AS.lst 65 [(2, vp 2 0), (3, vc (i6 0))] [(2, AObj.row [.s (u8 ((List.getD (triesS s) i (0, [], 0)).1)), .s (st ((List.getD (triesS s) i (0, [], 0)).2.1)), .s (i6 ((List.getD (triesS s) i (0, [], 0)).2.2))])]) (by kernel_rfl) ?_ ?_
          · exact ⟨(show (0 : Int) ≤ (i : Int) from (by first | omega | (have hz := tries_len s _ (Lib.getD_mem (0, [], 0) (triesS s) i (by omega)); omega))), (show (i : Int) < List.length (triesS s : List KeyV) from (by first | omega | (have hz := tries_len s _ (Lib.getD_mem (0, [], 0) (triesS s) i (by omega)); omega))), (show i < List.length (triesS s : List KeyV) from (by first | omega | (have hz := tries_len s _ (Lib.getD_mem (0, [], 0) (triesS s) i (by omega)); omega)))⟩
          refine AMx.ret ?_
          exact RetP.mk (r := AV.tup [TV.agg [.s (u8 ((List.getD (triesS s) i (0, [], 0)).1)), .s (st ((List.getD (triesS s) i (0, [], 0)).2.1)), .s (i6 ((List.getD (triesS s) i (0, [], 0)).2.2))], tc (i6 0)]) (by kernel_rfl) (by rw [show parseS s = ((List.getD (triesS s) i (0, [], 0)), 0) from by first | rw [parse_short (by omega)] | (rw [text_eq (k := List.getD (triesS s) i (0, [], 0)) hc6.1 hc6.2]) | (rw [parse_none (fun k hk => by obtain ⟨j, hj, rfl⟩ := List.mem_iff_getElem.1 hk; have q := hN j (by omega); rwa [Lib.getD_lt _ _ _ hj] at q)])])
        · try simp only [decide_eq_true_eq, decide_eq_false_iff_not, Bool.and_eq_true, Bool.and_eq_false_iff] at hc6
          refine AMx.skip ?_
          refine AMx.blk ?_
          refine AMx.region (ces := []) (ks := [0, 2, 4, 5]) (hs := [2, 20]) (cs := [InR .i64 ((i : Int) + 1)]) (s' := AS.lst 65 [(0, vc (st s)), (2, vp 2 0), (4, vo 20), (5, vc (i6 ((i : Int) + 1)))] [(2, AObj.row [.s (u8 0), .s (st []), .s (i6 0)]), (20, AObj.grow 23 3 KeyV (0, [], 0) rowK (triesS s))]) (by kernel_rfl) ?_ ?_
          · exact (show InR .i64 ((i : Int) + 1) from (inR64 (by first | omega | (have hz := tries_len s _ (Lib.getD_mem (0, [], 0) (triesS s) i (by omega)); omega)) (by first | omega | (have hz := tries_len s _ (Lib.getD_mem (0, [], 0) (triesS s) i (by omega)); omega))))
          refine AMx.ent_inv (s' := AS.lst 65 [(0, vc (st s)), (2, vp 2 0), (4, vo 20), (5, vc (i6 ((i : Int) + 1)))] [(2, AObj.row [.s (u8 0), .s (st []), .s (i6 0)]), (20, AObj.grow 23 3 KeyV (0, [], 0) rowK (triesS s))]) (ent_proj [0, 2, 4, 5] [2, 20]) ?_
          refine AMx.inv ⟨_, ?_, i + 1, ?_, rfl, ?_⟩
          rotate_left
          · exact ⟨by omega, fun j hj => by rcases Nat.lt_or_ge j i with q | q; exact hN j q; rw [show j = i by omega]; rintro ⟨z1, z2⟩; rcases ‹_ ∨ _› with z | z; exact z z1; exact z z2⟩
          · rfl
          · omega
      · try simp only [decide_eq_true_eq, decide_eq_false_iff_not] at hc5
        refine AMx.exit ?_
        refine AMx.code_exit ?_
        refine AMx.inv_exit ?_
        refine AMx.blk_exit ?_
        refine AMx.seq ?_
        refine AMx.region (ces := []) (ks := [2, 3]) (hs := [2]) (cs := []) (s' := AS.lst 65 [(2, vp 2 0), (3, vc (i6 4))] [(2, AObj.row [.s (u8 0), .s (st []), .s (i6 0)])]) (by kernel_rfl) ?_ ?_
        · exact trivial
        refine AMx.ret ?_
        exact RetP.mk (r := AV.tup [TV.agg [.s (u8 0), .s (st []), .s (i6 0)], tc (i6 4)]) (by kernel_rfl) (by rw [show parseS s = (((0, [], 0) : KeyV), 4) from by first | rw [parse_short (by omega)] | (rw [text_eq (k := List.getD (triesS s) i (0, [], 0)) hc6.1 hc6.2]) | (rw [parse_none (fun k hk => by obtain ⟨j, hj, rfl⟩ := List.mem_iff_getElem.1 hk; have q := hN j (by omega); rwa [Lib.getD_lt _ _ _ hj] at q)])])

end AL.Rows
