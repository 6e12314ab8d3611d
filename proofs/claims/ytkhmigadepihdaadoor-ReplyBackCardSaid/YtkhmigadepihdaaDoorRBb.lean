/- The proof library and the contracts that the law reaches: joined by a program. No condition. -/
import Derived.Test.YtkhmigadepihdaaDoorRBa
namespace AL.Reply
open Go Go.Proofs AL
set_option linter.unusedVariables false
set_option linter.unusedSimpArgs false
open AL.Ask (scanN valS sizeB digB numS hexS unhexS)
theorem f65_body : Tryd.f65.body = some (.seq (.region 0 (rg Tryd.f65 0) false) (.seq (.seq (.region 1 (rg Tryd.f65 1) false) (.cond (.tmp 6) (.seq (.region 2 (rg Tryd.f65 2) false) (.ret)) (.skip))) (.seq (.region 3 (rg Tryd.f65 3) false) (.seq (.region 4 (rg Tryd.f65 4) false) (.seq (.region 5 (rg Tryd.f65 5) false) (.ret)))))) := by kernel_rfl
set_option maxRecDepth 100000 in
set_option maxHeartbeats 8000000 in
theorem data_c (s : Bytes) (hb : s.length ≤ 100000) : PureX Tryd.prog 65 [tc (st s)] (vc (st (dataS s))) (dataOk s) := by
 refine PureX.of_body Tryd.func65 f65_body (by kernel_rfl) Tryd.ntmps65 (by kernel_rfl) (by kernel_rfl) ?_
 refine gS [] [] 19 [(0, vc (st s))] [] trivial ?_
 refine gQ ?_
 refine gS [] [] 19 [(0, vc (st s)), (6, vc (bo (decide (s = [45]))))] [] trivial ?_
 refine gC (s = [45]) (fun hc1 => ?_) fun hc1 => ?_
 ·
  refine gS [] [] 19 [(2, vc (st []))] [] trivial ?_
  exact gTx (by exact .inl hc1) (vc (st [])) (by unfold dataS; first | rw [if_pos hc1] | rw [if_neg hc1])
 ·
  refine AMx.skip ?_
  refine gS [(1, CE.call [] [] (AV.tup [tc (st ((unhexS s).1)), tc (bo ((unhexS s).2))]) [])] [Spec Tryd.prog 75 [tc (st s)] (ofH []) (AV.tup [tc (st ((unhexS s).1)), tc (bo ((unhexS s).2))]) (ofH [])] 19 [(0, vc (st s)), (3, vc (st ((unhexS s).1))), (4, vc (bo ((unhexS s).2)))] [] (Ask.Unhex_c s (by omega)) ?_
  refine gSx [(5, CE.call [] [] (AV.tup []) [])] [(5, (((unhexS s).2) && (!decide (s = []))) = true)] [(((unhexS s).2) = true) → allP [], (((unhexS s).2) = true) → allP [((unhexS s).2) = true], ((unhexS s).2) = true → allP [((unhexS s).2) = true], PureX Tryd.prog 42 [tc (bo (((unhexS s).2) && (!decide (s = []))))] (AV.tup []) ((((unhexS s).2) && (!decide (s = []))) = true)] 19 [(3, vc (st ((unhexS s).1)))] [] ⟨(fun _ => trivial), (fun hp => hp), (fun hp2 => (by first | exact hp2 | exact ⟨hp, hp2⟩)), (must_c (((unhexS s).2) && (!decide (s = []))))⟩ (fun hok => (show ((((unhexS s).2) && (!decide (s = []))) = true) by rw [data_b hc1]; exact hok)) (fun hx1 => ?_)
  replace hx1 : ((((unhexS s).2) && (!decide (s = []))) = true) := hx1
  refine gS [] [] 19 [(2, vc (st ((unhexS s).1)))] [] trivial ?_
  exact gTx (by rw [data_b hc1] at hx1; exact hx1) (vc (st ((unhexS s).1))) (by unfold dataS; first | rw [if_pos hc1] | rw [if_neg hc1])
theorem f66_body : Tryd.f66.body = some (.seq (.region 0 (rg Tryd.f66 0) false) (.seq (.region 1 (rg Tryd.f66 1) true) (.seq (.seq (.region 2 (rg Tryd.f66 2) false) (.cond (.tmp 22) (.seq (.region 3 (rg Tryd.f66 3) false) (.ret)) (.skip))) (.seq (.seq (.region 4 (rg Tryd.f66 4) false) (.block 0 (.loop (.seq (.region 5 (rg Tryd.f66 5) false) (.seq (.cond (.tmp 30) (.skip) (.exit 0)) (.seq (.block 1 (.seq (.region 6 (rg Tryd.f66 6) false) (.region 7 (rg Tryd.f66 7) true))) (.region 8 (rg Tryd.f66 8) false))))))) (.seq (.region 9 (rg Tryd.f66 9) false) (.ret)))))) := by kernel_rfl
set_option maxRecDepth 100000 in
set_option maxHeartbeats 8000000 in
theorem about_c (l : List Bytes) (h4 : l.length = 4) (hb : (List.getD l 3 []).length ≤ 100000) : PureX Tryd.prog 66 [tc (AL.Fnv.slS l)] (AV.t (TV.agg [.s (i6 ((aboutS l).1)), .s (bo ((aboutS l).2.1)), .s (i6 ((aboutS l).2.2.1)), .s (Secret.slR ((aboutS l).2.2.2))])) (aboutOk l) := by
 refine PureX.of_body Tryd.func66 f66_body (by kernel_rfl) Tryd.ntmps66 (by kernel_rfl) (by kernel_rfl) ?_
 have hsl := Policy.split_le 44 (List.getD l 3 [])
 refine gS [] [] 42 [(0, vc (AL.Fnv.slS l)), (2, vp 2 0)] [(2, AObj.row [.s (i6 0), .s (bo false), .s (i6 0), .s (SC.nilsl)])] trivial ?_
 refine gYx [(3, CE.call [] [] (vc (i6 (scanN (List.getD l 0 [])))) []), (7, CE.call [] [] (vc (bo (decide ((List.getD l 1 []) = [49])))) []), (11, CE.call [] [] (vc (i6 (scanN (List.getD l 2 [])))) [])] [(14, [3])] [(3, 0 ≤ scanN (List.getD l 0 [])), (7, flagOk (List.getD l 1 [])), (11, 0 ≤ scanN (List.getD l 2 []))] [(0 : Int) ≤ 0, (0 : Int) < List.length l, PureX Tryd.prog 43 [tc (st (List.getD l 0 []))] (vc (i6 (scanN (List.getD l 0 [])))) (0 ≤ scanN (List.getD l 0 [])), (0 : Int) ≤ 1, (1 : Int) < List.length l, PureX Tryd.prog 76 [tc (st (List.getD l 1 []))] (vc (bo (decide ((List.getD l 1 []) = [49])))) (flagOk (List.getD l 1 [])), (0 : Int) ≤ 2, (2 : Int) < List.length l, PureX Tryd.prog 43 [tc (st (List.getD l 2 []))] (vc (i6 (scanN (List.getD l 2 [])))) (0 ≤ scanN (List.getD l 2 []))] 42 [(0, vc (AL.Fnv.slS l)), (2, vp 2 0), (3, vp 3 0)] [(2, AObj.row [.s (i6 0), .s (bo false), .s (i6 0), .s (SC.nilsl)]), (3, AObj.row [.s (i6 (scanN (List.getD l 0 []))), .s (bo (decide ((List.getD l 1 []) = [49]))), .s (i6 (scanN (List.getD l 2 []))), .s (SC.nilsl)])] mixed ⟨(show (0 : Int) ≤ 0 from (by omega)), (show (0 : Int) < List.length l from (by omega)), (num_c (List.getD l 0 [])), (show (0 : Int) ≤ 1 from (by omega)), (show (1 : Int) < List.length l from (by omega)), (flag_c (List.getD l 1 [])), (show (0 : Int) ≤ 2 from (by omega)), (show (2 : Int) < List.length l from (by omega)), (num_c (List.getD l 2 []))⟩ (fun hok => (show (0 ≤ scanN (List.getD l 0 [])) ∧ (flagOk (List.getD l 1 [])) ∧ (0 ≤ scanN (List.getD l 2 [])) by exact ⟨hok.1, hok.2.1, hok.2.2.1⟩)) (fun hx1 => ?_)
 replace hx1 : (0 ≤ scanN (List.getD l 0 [])) ∧ (flagOk (List.getD l 1 [])) ∧ (0 ≤ scanN (List.getD l 2 [])) := hx1
 refine gQ ?_
 refine gS [] [(0 : Int) ≤ 3, (3 : Int) < List.length l] 42 [(0, vc (AL.Fnv.slS l)), (2, vp 2 0), (3, vp 3 0), (22, vc (bo (decide ((List.getD l 3 []) = [45]))))] [(2, AObj.row [.s (i6 0), .s (bo false), .s (i6 0), .s (SC.nilsl)]), (3, AObj.row [.s (i6 (scanN (List.getD l 0 []))), .s (bo (decide ((List.getD l 1 []) = [49]))), .s (i6 (scanN (List.getD l 2 []))), .s (SC.nilsl)])] ⟨(show (0 : Int) ≤ 3 from (by omega)), (show (3 : Int) < List.length l from (by omega))⟩ ?_
 refine gC ((List.getD l 3 []) = [45]) (fun hc1 => ?_) fun hc1 => ?_
 ·
  refine gS [] [] 42 [(2, vp 2 0)] [(2, AObj.row [.s (i6 (scanN (List.getD l 0 []))), .s (bo (decide ((List.getD l 1 []) = [49]))), .s (i6 (scanN (List.getD l 2 []))), .s (SC.nilsl)])] trivial ?_
  refine AMx.ent (ent_row 2 (l := [.s (i6 (scanN (List.getD l 0 []))), .s (bo (decide ((List.getD l 1 []) = [49]))), .s (i6 (scanN (List.getD l 2 []))), .s (SC.nilsl)]) (m := [.s (i6 (scanN (List.getD l 0 []))), .s (bo (decide ((List.getD l 1 []) = [49]))), .s (i6 (scanN (List.getD l 2 []))), .s (Secret.slR [])]) (by kernel_rfl) ⟨AC.le_rfl, AC.le_rfl, AC.le_rfl, AC.le_nil, trivial⟩) ?_
  exact gTx (by first | exact ⟨hx1.1, hx1.2.1, hx1.2.2, .inl hc1⟩ | exact ⟨hx1.1, hx1.2.1, hx1.2.2, .inr (ok_end (by omega) hA)⟩) (AV.t (TV.agg [.s (i6 (scanN (List.getD l 0 []))), .s (bo (decide ((List.getD l 1 []) = [49]))), .s (i6 (scanN (List.getD l 2 []))), .s (Secret.slR [])])) (by rw [show aboutS l = ((scanN (List.getD l 0 []), decide ((List.getD l 1 []) = [49]), scanN (List.getD l 2 []), []) : Secret.Sec) from by unfold aboutS rowsW; first | rw [if_pos hc1] | rw [if_neg hc1]])
 ·
  refine AMx.skip ?_
  refine gQ ?_
  refine gS [(3, CE.call [] [] (vc (AL.Fnv.slS (AL.Sep.splitC 44 (List.getD l 3 [])))) [])] [(0 : Int) ≤ 3, (3 : Int) < List.length l, Spec Tryd.prog 41 [tc (st (List.getD l 3 [])), tc (st [44])] (ofH []) (vc (AL.Fnv.slS (AL.Sep.splitC 44 (List.getD l 3 [])))) (ofH [])] 42 [(2, vp 2 0), (3, vp 3 0), (27, vc (AL.Fnv.slS (AL.Sep.splitC 44 (List.getD l 3 [])))), (28, vc (i6 (List.length (AL.Sep.splitC 44 (List.getD l 3 []) : List Bytes) : Int))), (29, vc (i6 0))] [(2, AObj.row [.s (i6 0), .s (bo false), .s (i6 0), .s (SC.nilsl)]), (3, AObj.row [.s (i6 (scanN (List.getD l 0 []))), .s (bo (decide ((List.getD l 1 []) = [49]))), .s (i6 (scanN (List.getD l 2 []))), .s (SC.nilsl)])] ⟨(show (0 : Int) ≤ 3 from (by omega)), (show (3 : Int) < List.length l from (by omega)), (AL.Sep.Split_c 44 (List.getD l 3 []) (by omega))⟩ ?_
  refine AMx.block ?_
  refine AMx.ent (ent_adoptO 3 41 [.s (i6 (scanN (List.getD l 0 []))), .s (bo (decide ((List.getD l 1 []) = [49]))), .s (i6 (scanN (List.getD l 2 [])))] [] 91 3 Secret.RowV (0, false, false) AL.Secret.rowR (by kernel_rfl) (by kernel_rfl) (by kernel_rfl) (by kernel_rfl)) ?_
  refine AMx.ent (s' := AS.lst 42 [(2, vp 2 0), (3, vp 3 0), (27, vc (AL.Fnv.slS (AL.Sep.splitC 44 (List.getD l 3 [])))), (28, vc (i6 (List.length (AL.Sep.splitC 44 (List.getD l 3 []) : List Bytes) : Int))), (29, vc (i6 0))] [(2, AObj.row [.s (i6 0), .s (bo false), .s (i6 0), .s (SC.nilsl)]), (3, AObj.row [.s (i6 (scanN (List.getD l 0 []))), .s (bo (decide ((List.getD l 1 []) = [49]))), .s (i6 (scanN (List.getD l 2 []))), .own 41]), (41, AObj.grow 91 3 Secret.RowV (0, false, false) AL.Secret.rowR [])]) (ent_proj [2, 3, 27, 28, 29] [2, 3, 41]) ?_
  refine AMx.ent (s' := AS.lst 42 [(2, vp 2 0), (3, vp 3 0), (27, vc (AL.Fnv.slS (AL.Sep.splitC 44 (List.getD l 3 [])))), (28, vc (i6 (List.length (AL.Sep.splitC 44 (List.getD l 3 []) : List Bytes) : Int))), (29, vc (i6 0))] [(2, AObj.row [.s (i6 0), .s (bo false), .s (i6 0), .s (SC.nilsl)]), (3, AObj.row [.s (i6 (scanN (List.getD l 0 []))), .s (bo (decide ((List.getD l 1 []) = [49]))), .s (i6 (scanN (List.getD l 2 []))), .own 41]), (41, AObj.grow 91 3 Secret.RowV (0, false, false) AL.Secret.rowR [])]) (ent_proj [2, 3, 27, 28, 29] [2, 3, 41]) ?_
  refine AMx.loop (fun mm ss => ∃ (k : Nat), (k ≤ (AL.Sep.splitC 44 (List.getD l 3 [])).length ∧ ∀ w ∈ List.take k (AL.Sep.splitC 44 (List.getD l 3 [])), rowOk w) ∧ mm = (AL.Sep.splitC 44 (List.getD l 3 [])).length - k ∧ ss = AS.lst 42 [(2, vp 2 0), (3, vp 3 0), (27, vc (AL.Fnv.slS (AL.Sep.splitC 44 (List.getD l 3 [])))), (28, vc (i6 (List.length (AL.Sep.splitC 44 (List.getD l 3 []) : List Bytes) : Int))), (29, vc (i6 (k : Int)))] [(2, AObj.row [.s (i6 0), .s (bo false), .s (i6 0), .s (SC.nilsl)]), (3, AObj.row [.s (i6 (scanN (List.getD l 0 []))), .s (bo (decide ((List.getD l 1 []) = [49]))), .s (i6 (scanN (List.getD l 2 []))), .own 41]), (41, AObj.grow 91 3 Secret.RowV (0, false, false) AL.Secret.rowR ((List.take k (AL.Sep.splitC 44 (List.getD l 3 []))).map rowW))]) ⟨0, ?_, rfl, ?_⟩ ?_
  · exact ⟨Nat.zero_le _, fun w hw => by simp at hw⟩
  · rfl
  rintro mm ss ⟨k, ⟨hI, hA⟩, rfl, rfl⟩
  refine gS [] [] 42 [(2, vp 2 0), (3, vp 3 0), (27, vc (AL.Fnv.slS (AL.Sep.splitC 44 (List.getD l 3 [])))), (28, vc (i6 (List.length (AL.Sep.splitC 44 (List.getD l 3 []) : List Bytes) : Int))), (29, vc (i6 (k : Int))), (30, vc (bo (decide ((k : Int) < (List.length (AL.Sep.splitC 44 (List.getD l 3 []) : List Bytes) : Int)))))] [(2, AObj.row [.s (i6 0), .s (bo false), .s (i6 0), .s (SC.nilsl)]), (3, AObj.row [.s (i6 (scanN (List.getD l 0 []))), .s (bo (decide ((List.getD l 1 []) = [49]))), .s (i6 (scanN (List.getD l 2 []))), .own 41]), (41, AObj.grow 91 3 Secret.RowV (0, false, false) AL.Secret.rowR ((List.take k (AL.Sep.splitC 44 (List.getD l 3 []))).map rowW))] trivial ?_
  refine gQ ?_
  refine gC ((k : Int) < (List.length (AL.Sep.splitC 44 (List.getD l 3 []) : List Bytes) : Int)) (fun hc2 => ?_) fun hc2 => ?_
  ·
   refine AMx.skip ?_
   refine gQ ?_
   refine AMx.block ?_
   refine gS [] [(0 : Int) ≤ (k : Int), (k : Int) < List.length (AL.Sep.splitC 44 (List.getD l 3 []) : List Bytes)] 42 [(2, vp 2 0), (3, vp 3 0), (5, vc (st (List.getD (AL.Sep.splitC 44 (List.getD l 3 [])) k []))), (27, vc (AL.Fnv.slS (AL.Sep.splitC 44 (List.getD l 3 [])))), (28, vc (i6 (List.length (AL.Sep.splitC 44 (List.getD l 3 []) : List Bytes) : Int))), (29, vc (i6 (k : Int)))] [(2, AObj.row [.s (i6 0), .s (bo false), .s (i6 0), .s (SC.nilsl)]), (3, AObj.row [.s (i6 (scanN (List.getD l 0 []))), .s (bo (decide ((List.getD l 1 []) = [49]))), .s (i6 (scanN (List.getD l 2 []))), .own 41]), (41, AObj.grow 91 3 Secret.RowV (0, false, false) AL.Secret.rowR ((List.take k (AL.Sep.splitC 44 (List.getD l 3 []))).map rowW))] ⟨(show (0 : Int) ≤ (k : Int) from (by omega)), (show (k : Int) < List.length (AL.Sep.splitC 44 (List.getD l 3 []) : List Bytes) from (by omega))⟩ ?_
   refine gXx [(3, CE.call [] [] (AV.t (TV.agg [.s (i6 ((rowW (List.getD (AL.Sep.splitC 44 (List.getD l 3 [])) k [])).1)), .s (bo ((rowW (List.getD (AL.Sep.splitC 44 (List.getD l 3 [])) k [])).2.1)), .s (bo ((rowW (List.getD (AL.Sep.splitC 44 (List.getD l 3 [])) k [])).2.2))])) []), (4, CE.obj (AObj.grow 91 3 Secret.RowV (0, false, false) AL.Secret.rowR [(rowW (List.getD (AL.Sep.splitC 44 (List.getD l 3 [])) k []))])), (5, CE.obj (AObj.grow 91 3 Secret.RowV (0, false, false) AL.Secret.rowR (((List.take k (AL.Sep.splitC 44 (List.getD l 3 []))).map rowW) ++ [(rowW (List.getD (AL.Sep.splitC 44 (List.getD l 3 [])) k []))])))] [(1, [3]), (5, [37, 41]), (7, [3])] [(3, rowOk (List.getD (AL.Sep.splitC 44 (List.getD l 3 [])) k []))] [PureX Tryd.prog 77 [tc (st (List.getD (AL.Sep.splitC 44 (List.getD l 3 [])) k []))] (AV.t (TV.agg [.s (i6 ((rowW (List.getD (AL.Sep.splitC 44 (List.getD l 3 [])) k [])).1)), .s (bo ((rowW (List.getD (AL.Sep.splitC 44 (List.getD l 3 [])) k [])).2.1)), .s (bo ((rowW (List.getD (AL.Sep.splitC 44 (List.getD l 3 [])) k [])).2.2))])) (rowOk (List.getD (AL.Sep.splitC 44 (List.getD l 3 [])) k [])), flat 3 AL.Secret.rowR [(rowW (List.getD (AL.Sep.splitC 44 (List.getD l 3 [])) k []))] = [.s (i6 ((rowW (List.getD (AL.Sep.splitC 44 (List.getD l 3 [])) k [])).1)), .s (bo ((rowW (List.getD (AL.Sep.splitC 44 (List.getD l 3 [])) k [])).2.1)), .s (bo ((rowW (List.getD (AL.Sep.splitC 44 (List.getD l 3 [])) k [])).2.2))], List.length ([(rowW (List.getD (AL.Sep.splitC 44 (List.getD l 3 [])) k []))] : List Secret.RowV) = 1, AppC (flat 3 AL.Secret.rowR [(rowW (List.getD (AL.Sep.splitC 44 (List.getD l 3 [])) k []))]) (List.length ([(rowW (List.getD (AL.Sep.splitC 44 (List.getD l 3 [])) k []))] : List Secret.RowV)) 16 (AObj.grow 91 3 Secret.RowV (0, false, false) AL.Secret.rowR ((List.take k (AL.Sep.splitC 44 (List.getD l 3 []))).map rowW)) (AObj.grow 91 3 Secret.RowV (0, false, false) AL.Secret.rowR (((List.take k (AL.Sep.splitC 44 (List.getD l 3 []))).map rowW) ++ [(rowW (List.getD (AL.Sep.splitC 44 (List.getD l 3 [])) k []))]))] 42 [(2, vp 2 0), (3, vp 3 0), (27, vc (AL.Fnv.slS (AL.Sep.splitC 44 (List.getD l 3 [])))), (28, vc (i6 (List.length (AL.Sep.splitC 44 (List.getD l 3 []) : List Bytes) : Int))), (29, vc (i6 (k : Int)))] [(2, AObj.row [.s (i6 0), .s (bo false), .s (i6 0), .s (SC.nilsl)]), (3, AObj.row [.s (i6 (scanN (List.getD l 0 []))), .s (bo (decide ((List.getD l 1 []) = [49]))), .s (i6 (scanN (List.getD l 2 []))), .own 38]), (38, AObj.grow 91 3 Secret.RowV (0, false, false) AL.Secret.rowR (((List.take k (AL.Sep.splitC 44 (List.getD l 3 []))).map rowW) ++ [(rowW (List.getD (AL.Sep.splitC 44 (List.getD l 3 [])) k []))]))] mixed ⟨(rowOf_c (List.getD (AL.Sep.splitC 44 (List.getD l 3 [])) k [])), rfl, rfl, (⟨_, rfl, rfl, rfl, by simp only [List.length_append, List.length_cons, List.length_nil, List.length_take, List.length_drop, List.length_map]; omega, by simp only [maxLen, List.length_append, List.length_cons, List.length_nil, List.length_take, List.length_drop, List.length_map]; omega⟩)⟩ (fun hok => (show (rowOk (List.getD (AL.Sep.splitC 44 (List.getD l 3 [])) k [])) by exact hok.2.2.2.resolve_left hc1 _ (Lib.getD_mem [] (AL.Sep.splitC 44 (List.getD l 3 [])) k (by omega)))) (fun hx2 => ?_)
   replace hx2 : (rowOk (List.getD (AL.Sep.splitC 44 (List.getD l 3 [])) k [])) := hx2
   refine AMx.blk ?_
   refine gR [] [InR .i64 ((k : Int) + 1)] 42 [(2, vp 2 0), (3, vp 3 0), (27, vc (AL.Fnv.slS (AL.Sep.splitC 44 (List.getD l 3 [])))), (28, vc (i6 (List.length (AL.Sep.splitC 44 (List.getD l 3 []) : List Bytes) : Int))), (29, vc (i6 ((k : Int) + 1)))] [(2, AObj.row [.s (i6 0), .s (bo false), .s (i6 0), .s (SC.nilsl)]), (3, AObj.row [.s (i6 (scanN (List.getD l 0 []))), .s (bo (decide ((List.getD l 1 []) = [49]))), .s (i6 (scanN (List.getD l 2 []))), .own 38]), (38, AObj.grow 91 3 Secret.RowV (0, false, false) AL.Secret.rowR (((List.take k (AL.Sep.splitC 44 (List.getD l 3 []))).map rowW) ++ [(rowW (List.getD (AL.Sep.splitC 44 (List.getD l 3 [])) k []))]))] (show InR .i64 ((k : Int) + 1) from (inR64 (by omega) (by omega))) ?_
   refine AMx.ent_inv (s' := AS.lst 42 [(2, vp 2 0), (3, vp 3 0), (27, vc (AL.Fnv.slS (AL.Sep.splitC 44 (List.getD l 3 [])))), (28, vc (i6 (List.length (AL.Sep.splitC 44 (List.getD l 3 []) : List Bytes) : Int))), (29, vc (i6 ((k : Int) + 1)))] [(2, AObj.row [.s (i6 0), .s (bo false), .s (i6 0), .s (SC.nilsl)]), (3, AObj.row [.s (i6 (scanN (List.getD l 0 []))), .s (bo (decide ((List.getD l 1 []) = [49]))), .s (i6 (scanN (List.getD l 2 []))), .own 41]), (41, AObj.grow 91 3 Secret.RowV (0, false, false) AL.Secret.rowR (((List.take k (AL.Sep.splitC 44 (List.getD l 3 []))).map rowW) ++ [(rowW (List.getD (AL.Sep.splitC 44 (List.getD l 3 [])) k []))]))]) (ent_swap 38 41 (by kernel_rfl) (by kernel_rfl)) ?_
   refine AMx.ent_inv (s' := AS.lst 42 [(2, vp 2 0), (3, vp 3 0), (27, vc (AL.Fnv.slS (AL.Sep.splitC 44 (List.getD l 3 [])))), (28, vc (i6 (List.length (AL.Sep.splitC 44 (List.getD l 3 []) : List Bytes) : Int))), (29, vc (i6 ((k : Int) + 1)))] [(2, AObj.row [.s (i6 0), .s (bo false), .s (i6 0), .s (SC.nilsl)]), (3, AObj.row [.s (i6 (scanN (List.getD l 0 []))), .s (bo (decide ((List.getD l 1 []) = [49]))), .s (i6 (scanN (List.getD l 2 []))), .own 41]), (41, AObj.grow 91 3 Secret.RowV (0, false, false) AL.Secret.rowR (((List.take k (AL.Sep.splitC 44 (List.getD l 3 []))).map rowW) ++ [(rowW (List.getD (AL.Sep.splitC 44 (List.getD l 3 [])) k []))]))]) (ent_proj [2, 3, 27, 28, 29] [2, 3, 41]) ?_
   refine AMx.inv ⟨_, ?_, k + 1, ?_, rfl, ?_⟩
   rotate_left
   · exact ⟨by omega, ok_step (by omega) hA hx2⟩
   · rw [← rows_step (AL.Sep.splitC 44 (List.getD l 3 [])) k (by omega)]; rfl
   · omega
  ·
   refine AMx.exit ?_
   refine AMx.code_exit ?_
   refine AMx.inv_exit ?_
   refine AMx.blk_exit ?_
   rw [show List.take k (AL.Sep.splitC 44 (List.getD l 3 [])) = (AL.Sep.splitC 44 (List.getD l 3 [])) from List.take_of_length_le (by omega)]
   refine gS [] [] 42 [(2, vp 2 0)] [(2, AObj.row [.s (i6 (scanN (List.getD l 0 []))), .s (bo (decide ((List.getD l 1 []) = [49]))), .s (i6 (scanN (List.getD l 2 []))), .own 41]), (41, AObj.grow 91 3 Secret.RowV (0, false, false) AL.Secret.rowR ((AL.Sep.splitC 44 (List.getD l 3 [])).map rowW))] trivial ?_
   refine AMx.ent (s' := AS.lst 42 [(2, vp 2 0)] [(2, AObj.row [.s (i6 (scanN (List.getD l 0 []))), .s (bo (decide ((List.getD l 1 []) = [49]))), .s (i6 (scanN (List.getD l 2 []))), .s (Secret.slR ((AL.Sep.splitC 44 (List.getD l 3 [])).map rowW))])]) (ent_freeze (id := 41) (T := 91) (by kernel_rfl)) ?_
   exact gTx (by first | exact ⟨hx1.1, hx1.2.1, hx1.2.2, .inl hc1⟩ | exact ⟨hx1.1, hx1.2.1, hx1.2.2, .inr (ok_end (by omega) hA)⟩) (AV.t (TV.agg [.s (i6 (scanN (List.getD l 0 []))), .s (bo (decide ((List.getD l 1 []) = [49]))), .s (i6 (scanN (List.getD l 2 []))), .s (Secret.slR ((AL.Sep.splitC 44 (List.getD l 3 [])).map rowW))])) (by rw [show aboutS l = ((scanN (List.getD l 0 []), decide ((List.getD l 1 []) = [49]), scanN (List.getD l 2 []), (AL.Sep.splitC 44 (List.getD l 3 [])).map rowW) : Secret.Sec) from by unfold aboutS rowsW; first | rw [if_pos hc1] | rw [if_neg hc1]])
theorem f44_body : Tryd.f44.body = some (.seq (.region 0 (rg Tryd.f44 0) false) (.seq (.block 0 (.seq (.region 1 (rg Tryd.f44 1) false) (.cond (.tmp 3) (.seq (.region 2 (rg Tryd.f44 2) false) (.ret)) (.seq (.region 3 (rg Tryd.f44 3) false) (.cond (.tmp 8) (.seq (.region 4 (rg Tryd.f44 4) false) (.seq (.region 5 (rg Tryd.f44 5) false) (.ret))) (.seq (.region 6 (rg Tryd.f44 6) false) (.cond (.tmp 28) (.seq (.region 7 (rg Tryd.f44 7) false) (.ret)) (.seq (.region 8 (rg Tryd.f44 8) false) (.cond (.tmp 43) (.seq (.region 9 (rg Tryd.f44 9) true) (.ret)) (.seq (.region 10 (rg Tryd.f44 10) false) (.cond (.tmp 62) (.seq (.region 11 (rg Tryd.f44 11) false) (.ret)) (.skip)))))))))))) (.seq (.region 12 (rg Tryd.f44 12) false) (.seq (.seq (.region 13 (rg Tryd.f44 13) false) (.cond (.tmp 89) (.seq (.region 14 (rg Tryd.f44 14) false) (.ret)) (.skip))) (.seq (.region 15 (rg Tryd.f44 15) false) (.ret)))))) := by kernel_rfl
set_option maxRecDepth 100000 in
set_option maxHeartbeats 8000000 in
theorem read_c (l : List Bytes) (hb : ∀ j, (List.getD l j []).length ≤ 100000) : PureX Tryd.prog 44 [tc (AL.Fnv.slS l)] (AV.t (TV.agg [.s (u8 ((readS l).kind)), .s (i6 ((readS l).err)), .s (i6 ((readS l).n)), .s (st ((readS l).data)), .s (AL.Fnv.slS ((readS l).names)), .s (i6 (((readS l).sec).1)), .s (bo (((readS l).sec).2.1)), .s (i6 (((readS l).sec).2.2.1)), .s (Secret.slR (((readS l).sec).2.2.2)), .s (bo ((readS l).flag))])) (readOk l) := by
 refine PureX.of_body Tryd.func44 f44_body (by kernel_rfl) Tryd.ntmps44 (by kernel_rfl) (by kernel_rfl) ?_
 refine gS [] [] 96 [(0, vc (AL.Fnv.slS l)), (2, vp 2 0)] [(2, AObj.row [.s (u8 0), .s (i6 0), .s (i6 0), .s (st []), .s (SC.nilsl), .s (i6 0), .s (bo false), .s (i6 0), .s (SC.nilsl), .s (bo false)])] trivial ?_
 refine gQ ?_
 refine AMx.block ?_
 refine gS [] [] 96 [(0, vc (AL.Fnv.slS l)), (2, vp 2 0), (3, vc (bo (decide ((List.length l : Int) = 0))))] [(2, AObj.row [.s (u8 0), .s (i6 0), .s (i6 0), .s (st []), .s (SC.nilsl), .s (i6 0), .s (bo false), .s (i6 0), .s (SC.nilsl), .s (bo false)])] trivial ?_
 refine gC ((List.length l : Int) = 0) (fun hc1 => ?_) fun hc1 => ?_
 ·
  refine gS [] [] 96 [(2, vp 2 0)] [(2, AObj.row [.s (u8 1), .s (i6 0), .s (i6 0), .s (st []), .s (SC.nilsl), .s (i6 0), .s (bo false), .s (i6 0), .s (SC.nilsl), .s (bo false)])] trivial ?_
  refine AMx.ent (ent_row 2 (l := [.s (u8 1), .s (i6 0), .s (i6 0), .s (st []), .s (SC.nilsl), .s (i6 0), .s (bo false), .s (i6 0), .s (SC.nilsl), .s (bo false)]) (m := [.s (u8 1), .s (i6 0), .s (i6 0), .s (st []), .s (AL.Fnv.slS []), .s (i6 0), .s (bo false), .s (i6 0), .s (Secret.slR []), .s (bo false)]) (by kernel_rfl) ⟨AC.le_rfl, AC.le_rfl, AC.le_rfl, AC.le_rfl, AC.le_nil, AC.le_rfl, AC.le_rfl, AC.le_rfl, AC.le_nil, AC.le_rfl, trivial⟩) ?_
  exact gTx (by first | (rw [readOk, if_pos hc1]; trivial) | (rw [readOk, if_neg hc1, if_pos hc2]; simp only [Bool.or_eq_true, Bool.and_eq_true, decide_eq_true_eq] at hx1; exact hx1) | (rw [readOk, if_neg hc1, if_neg hc2, if_pos hc3]; exact hx2) | (rw [readOk, if_neg hc1, if_neg hc2, if_neg (nand hc3), if_pos hc4]; exact hx3) | (rw [readOk, if_neg hc1, if_neg hc2, if_neg (nand hc3), if_neg (nand hc4), if_pos hc5]; exact hx4) | (rw [readOk, if_neg hc1, if_neg hc2, if_neg (nand hc3), if_neg (nand hc4), if_neg (nand hc5)]; simp only [Bool.or_eq_true, Bool.and_eq_true, decide_eq_true_eq] at hx5; exact hx5)) (AV.t (TV.agg [.s (u8 1), .s (i6 0), .s (i6 0), .s (st []), .s (AL.Fnv.slS []), .s (i6 0), .s (bo false), .s (i6 0), .s (Secret.slR []), .s (bo false)])) (by rw [show readS l = (⟨1, 0, 0, [], [], ((0, false, 0, []) : Secret.Sec), false⟩ : RepV) from by first | (rw [readS, if_pos hc1]; done) | (rw [readS, if_pos hc1]; rfl) | (rw [readS, if_neg hc1, if_pos hc2]; rfl) | (rw [readS, if_neg hc1, if_neg hc2, if_pos hc3]; rfl) | (rw [readS, if_neg hc1, if_neg hc2, if_neg (nand hc3), if_pos hc4]; rfl) | (rw [readS, if_neg hc1, if_neg hc2, if_neg (nand hc3), if_neg (nand hc4), if_pos hc5]; rfl) | (rw [readS, if_neg hc1, if_neg hc2, if_neg (nand hc3), if_neg (nand hc4), if_neg (nand hc5), listW, if_pos hc6]; rfl) | (rw [readS, if_neg hc1, if_neg hc2, if_neg (nand hc3), if_neg (nand hc4), if_neg (nand hc5), listW, if_neg hc6]; rfl)])
 ·
  refine gS [] [] 96 [(0, vc (AL.Fnv.slS l)), (2, vp 2 0), (8, vc (bo (decide ((List.length l : Int) = 1))))] [(2, AObj.row [.s (u8 0), .s (i6 0), .s (i6 0), .s (st []), .s (SC.nilsl), .s (i6 0), .s (bo false), .s (i6 0), .s (SC.nilsl), .s (bo false)])] trivial ?_
  refine gC ((List.length l : Int) = 1) (fun hc2 => ?_) fun hc2 => ?_
  ·
   refine gSx [(10, CE.call [] [] (AV.tup []) [])] [(10, ((decide ((List.getD l 0 []) = [115, 101, 97, 108, 101, 100])) || (decide ((List.getD l 0 []) = [111, 112, 101, 110]))) = true)] [(0 : Int) ≤ 0, (0 : Int) < List.length l, ((decide ((List.getD l 0 []) = [115, 101, 97, 108, 101, 100])) = false) → allP [], ((decide ((List.getD l 0 []) = [115, 101, 97, 108, 101, 100])) = false) → allP [(decide ((List.getD l 0 []) = [115, 101, 97, 108, 101, 100])) = false, (0 : Int) ≤ 0, (0 : Int) < List.length l], ((decide ((List.getD l 0 []) = [115, 101, 97, 108, 101, 100])) = false) → allP [(decide ((List.getD l 0 []) = [115, 101, 97, 108, 101, 100])) = false], ((decide ((List.getD l 0 []) = [115, 101, 97, 108, 101, 100])) = false) → allP [(decide ((List.getD l 0 []) = [115, 101, 97, 108, 101, 100])) = false], (decide ((List.getD l 0 []) = [115, 101, 97, 108, 101, 100])) = false → allP [(decide ((List.getD l 0 []) = [115, 101, 97, 108, 101, 100])) = false], PureX Tryd.prog 42 [tc (bo ((decide ((List.getD l 0 []) = [115, 101, 97, 108, 101, 100])) || (decide ((List.getD l 0 []) = [111, 112, 101, 110]))))] (AV.tup []) (((decide ((List.getD l 0 []) = [115, 101, 97, 108, 101, 100])) || (decide ((List.getD l 0 []) = [111, 112, 101, 110]))) = true)] 96 [(0, vc (AL.Fnv.slS l)), (2, vp 2 0)] [(2, AObj.row [.s (u8 0), .s (i6 0), .s (i6 0), .s (st []), .s (SC.nilsl), .s (i6 0), .s (bo false), .s (i6 0), .s (SC.nilsl), .s (bo false)])] ⟨(show (0 : Int) ≤ 0 from (by first | omega | exact hb _ )), (show (0 : Int) < List.length l from (by first | omega | exact hb _ )), (fun _ => trivial), (fun hp => by have hq := hp; (try simp only [decide_eq_true_eq, decide_eq_false_iff_not, Bool.and_eq_true, Bool.or_eq_true, Bool.and_eq_false_iff, Bool.or_eq_false_iff, Bool.not_eq_true', Bool.not_eq_false', Bool.not_eq_true, Bool.not_eq_false] at hq); exact ⟨hp, (show (0 : Int) ≤ 0 from (by first | omega | exact hb _ )), (show (0 : Int) < List.length l from (by first | omega | exact hb _ ))⟩), (fun hp => hp), (fun hp => hp), (fun hp2 => (by first | exact hp2 | exact ⟨hp, hp2⟩)), (must_c ((decide ((List.getD l 0 []) = [115, 101, 97, 108, 101, 100])) || (decide ((List.getD l 0 []) = [111, 112, 101, 110]))))⟩ (fun hok => (show (((decide ((List.getD l 0 []) = [115, 101, 97, 108, 101, 100])) || (decide ((List.getD l 0 []) = [111, 112, 101, 110]))) = true) by rw [readOk, if_neg hc1, if_pos hc2] at hok; simp only [Bool.or_eq_true, Bool.and_eq_true, decide_eq_true_eq]; exact hok)) (fun hx1 => ?_)
   replace hx1 : (((decide ((List.getD l 0 []) = [115, 101, 97, 108, 101, 100])) || (decide ((List.getD l 0 []) = [111, 112, 101, 110]))) = true) := hx1
   refine gS [] [(0 : Int) ≤ 0, (0 : Int) < List.length l] 96 [(2, vp 2 0)] [(2, AObj.row [.s (u8 6), .s (i6 0), .s (i6 0), .s (st []), .s (SC.nilsl), .s (i6 0), .s (bo false), .s (i6 0), .s (SC.nilsl), .s (bo (decide ((List.getD l 0 []) = [115, 101, 97, 108, 101, 100])))])] ⟨(show (0 : Int) ≤ 0 from (by first | omega | exact hb _ )), (show (0 : Int) < List.length l from (by first | omega | exact hb _ ))⟩ ?_
   refine AMx.ent (ent_row 2 (l := [.s (u8 6), .s (i6 0), .s (i6 0), .s (st []), .s (SC.nilsl), .s (i6 0), .s (bo false), .s (i6 0), .s (SC.nilsl), .s (bo (decide ((List.getD l 0 []) = [115, 101, 97, 108, 101, 100])))]) (m := [.s (u8 6), .s (i6 0), .s (i6 0), .s (st []), .s (AL.Fnv.slS []), .s (i6 0), .s (bo false), .s (i6 0), .s (Secret.slR []), .s (bo (decide ((List.getD l 0 []) = [115, 101, 97, 108, 101, 100])))]) (by kernel_rfl) ⟨AC.le_rfl, AC.le_rfl, AC.le_rfl, AC.le_rfl, AC.le_nil, AC.le_rfl, AC.le_rfl, AC.le_rfl, AC.le_nil, AC.le_rfl, trivial⟩) ?_
   exact gTx (by first | (rw [readOk, if_pos hc1]; trivial) | (rw [readOk, if_neg hc1, if_pos hc2]; simp only [Bool.or_eq_true, Bool.and_eq_true, decide_eq_true_eq] at hx1; exact hx1) | (rw [readOk, if_neg hc1, if_neg hc2, if_pos hc3]; exact hx2) | (rw [readOk, if_neg hc1, if_neg hc2, if_neg (nand hc3), if_pos hc4]; exact hx3) | (rw [readOk, if_neg hc1, if_neg hc2, if_neg (nand hc3), if_neg (nand hc4), if_pos hc5]; exact hx4) | (rw [readOk, if_neg hc1, if_neg hc2, if_neg (nand hc3), if_neg (nand hc4), if_neg (nand hc5)]; simp only [Bool.or_eq_true, Bool.and_eq_true, decide_eq_true_eq] at hx5; exact hx5)) (AV.t (TV.agg [.s (u8 6), .s (i6 0), .s (i6 0), .s (st []), .s (AL.Fnv.slS []), .s (i6 0), .s (bo false), .s (i6 0), .s (Secret.slR []), .s (bo (decide ((List.getD l 0 []) = [115, 101, 97, 108, 101, 100])))])) (by rw [show readS l = (⟨6, 0, 0, [], [], ((0, false, 0, []) : Secret.Sec), decide ((List.getD l 0 []) = [115, 101, 97, 108, 101, 100])⟩ : RepV) from by first | (rw [readS, if_pos hc1]; done) | (rw [readS, if_pos hc1]; rfl) | (rw [readS, if_neg hc1, if_pos hc2]; rfl) | (rw [readS, if_neg hc1, if_neg hc2, if_pos hc3]; rfl) | (rw [readS, if_neg hc1, if_neg hc2, if_neg (nand hc3), if_pos hc4]; rfl) | (rw [readS, if_neg hc1, if_neg hc2, if_neg (nand hc3), if_neg (nand hc4), if_pos hc5]; rfl) | (rw [readS, if_neg hc1, if_neg hc2, if_neg (nand hc3), if_neg (nand hc4), if_neg (nand hc5), listW, if_pos hc6]; rfl) | (rw [readS, if_neg hc1, if_neg hc2, if_neg (nand hc3), if_neg (nand hc4), if_neg (nand hc5), listW, if_neg hc6]; rfl)])
  ·
   refine gS [] [((decide ((List.length l : Int) = 2)) = true) → allP [], ((decide ((List.length l : Int) = 2)) = true) → allP [(decide ((List.length l : Int) = 2)) = true, (0 : Int) ≤ 0, (0 : Int) < List.length l], ((decide ((List.length l : Int) = 2)) = true) → allP [(decide ((List.length l : Int) = 2)) = true], ((decide ((List.length l : Int) = 2)) = true) → allP [(decide ((List.length l : Int) = 2)) = true], (decide ((List.length l : Int) = 2)) = true → allP [(decide ((List.length l : Int) = 2)) = true]] 96 [(0, vc (AL.Fnv.slS l)), (2, vp 2 0), (28, vc (bo ((decide ((List.length l : Int) = 2)) && (decide ((List.getD l 0 []) = [110, 117, 109, 98, 101, 114])))))] [(2, AObj.row [.s (u8 0), .s (i6 0), .s (i6 0), .s (st []), .s (SC.nilsl), .s (i6 0), .s (bo false), .s (i6 0), .s (SC.nilsl), .s (bo false)])] ⟨(fun _ => trivial), (fun hp => by have hq := hp; (try simp only [decide_eq_true_eq, decide_eq_false_iff_not, Bool.and_eq_true, Bool.or_eq_true, Bool.and_eq_false_iff, Bool.or_eq_false_iff, Bool.not_eq_true', Bool.not_eq_false', Bool.not_eq_true, Bool.not_eq_false] at hq); exact ⟨hp, (show (0 : Int) ≤ 0 from (by first | omega | exact hb _ )), (show (0 : Int) < List.length l from (by first | omega | exact hb _ ))⟩), (fun hp => hp), (fun hp => hp), (fun hp2 => (by first | exact hp2 | exact ⟨hp, hp2⟩))⟩ ?_
   refine gB (((decide ((List.length l : Int) = 2)) && (decide ((List.getD l 0 []) = [110, 117, 109, 98, 101, 114])))) (fun hc3 => ?_) fun hc3 => ?_
   ·
    try simp only [xT, xF, xA, xB] at hc3
    refine gSx [(3, CE.call [] [] (vc (i6 (scanN (List.getD l 1 [])))) [])] [(3, 0 ≤ scanN (List.getD l 1 []))] [(0 : Int) ≤ 1, (1 : Int) < List.length l, PureX Tryd.prog 43 [tc (st (List.getD l 1 []))] (vc (i6 (scanN (List.getD l 1 [])))) (0 ≤ scanN (List.getD l 1 []))] 96 [(2, vp 2 0)] [(2, AObj.row [.s (u8 2), .s (i6 0), .s (i6 (scanN (List.getD l 1 []))), .s (st []), .s (SC.nilsl), .s (i6 0), .s (bo false), .s (i6 0), .s (SC.nilsl), .s (bo false)])] ⟨(show (0 : Int) ≤ 1 from (by first | omega | exact hb _ )), (show (1 : Int) < List.length l from (by first | omega | exact hb _ )), (num_c (List.getD l 1 []))⟩ (fun hok => (show (0 ≤ scanN (List.getD l 1 [])) by rw [readOk, if_neg hc1, if_neg hc2, if_pos hc3] at hok; exact hok)) (fun hx2 => ?_)
    replace hx2 : (0 ≤ scanN (List.getD l 1 [])) := hx2
    refine AMx.ent (ent_row 2 (l := [.s (u8 2), .s (i6 0), .s (i6 (scanN (List.getD l 1 []))), .s (st []), .s (SC.nilsl), .s (i6 0), .s (bo false), .s (i6 0), .s (SC.nilsl), .s (bo false)]) (m := [.s (u8 2), .s (i6 0), .s (i6 (scanN (List.getD l 1 []))), .s (st []), .s (AL.Fnv.slS []), .s (i6 0), .s (bo false), .s (i6 0), .s (Secret.slR []), .s (bo false)]) (by kernel_rfl) ⟨AC.le_rfl, AC.le_rfl, AC.le_rfl, AC.le_rfl, AC.le_nil, AC.le_rfl, AC.le_rfl, AC.le_rfl, AC.le_nil, AC.le_rfl, trivial⟩) ?_
    exact gTx (by first | (rw [readOk, if_pos hc1]; trivial) | (rw [readOk, if_neg hc1, if_pos hc2]; simp only [Bool.or_eq_true, Bool.and_eq_true, decide_eq_true_eq] at hx1; exact hx1) | (rw [readOk, if_neg hc1, if_neg hc2, if_pos hc3]; exact hx2) | (rw [readOk, if_neg hc1, if_neg hc2, if_neg (nand hc3), if_pos hc4]; exact hx3) | (rw [readOk, if_neg hc1, if_neg hc2, if_neg (nand hc3), if_neg (nand hc4), if_pos hc5]; exact hx4) | (rw [readOk, if_neg hc1, if_neg hc2, if_neg (nand hc3), if_neg (nand hc4), if_neg (nand hc5)]; simp only [Bool.or_eq_true, Bool.and_eq_true, decide_eq_true_eq] at hx5; exact hx5)) (AV.t (TV.agg [.s (u8 2), .s (i6 0), .s (i6 (scanN (List.getD l 1 []))), .s (st []), .s (AL.Fnv.slS []), .s (i6 0), .s (bo false), .s (i6 0), .s (Secret.slR []), .s (bo false)])) (by rw [show readS l = (⟨2, 0, scanN (List.getD l 1 []), [], [], ((0, false, 0, []) : Secret.Sec), false⟩ : RepV) from by first | (rw [readS, if_pos hc1]; done) | (rw [readS, if_pos hc1]; rfl) | (rw [readS, if_neg hc1, if_pos hc2]; rfl) | (rw [readS, if_neg hc1, if_neg hc2, if_pos hc3]; rfl) | (rw [readS, if_neg hc1, if_neg hc2, if_neg (nand hc3), if_pos hc4]; rfl) | (rw [readS, if_neg hc1, if_neg hc2, if_neg (nand hc3), if_neg (nand hc4), if_pos hc5]; rfl) | (rw [readS, if_neg hc1, if_neg hc2, if_neg (nand hc3), if_neg (nand hc4), if_neg (nand hc5), listW, if_pos hc6]; rfl) | (rw [readS, if_neg hc1, if_neg hc2, if_neg (nand hc3), if_neg (nand hc4), if_neg (nand hc5), listW, if_neg hc6]; rfl)])
   ·
    try simp only [xT, xF, xA, xB] at hc3
    refine gS [] [((decide ((List.length l : Int) = 3)) = true) → allP [], ((decide ((List.length l : Int) = 3)) = true) → allP [(decide ((List.length l : Int) = 3)) = true, (0 : Int) ≤ 0, (0 : Int) < List.length l], ((decide ((List.length l : Int) = 3)) = true) → allP [(decide ((List.length l : Int) = 3)) = true], ((decide ((List.length l : Int) = 3)) = true) → allP [(decide ((List.length l : Int) = 3)) = true], (decide ((List.length l : Int) = 3)) = true → allP [(decide ((List.length l : Int) = 3)) = true]] 96 [(0, vc (AL.Fnv.slS l)), (2, vp 2 0), (43, vc (bo ((decide ((List.length l : Int) = 3)) && (decide ((List.getD l 0 []) = [102, 111, 117, 110, 100])))))] [(2, AObj.row [.s (u8 0), .s (i6 0), .s (i6 0), .s (st []), .s (SC.nilsl), .s (i6 0), .s (bo false), .s (i6 0), .s (SC.nilsl), .s (bo false)])] ⟨(fun _ => trivial), (fun hp => by have hq := hp; (try simp only [decide_eq_true_eq, decide_eq_false_iff_not, Bool.and_eq_true, Bool.or_eq_true, Bool.and_eq_false_iff, Bool.or_eq_false_iff, Bool.not_eq_true', Bool.not_eq_false', Bool.not_eq_true, Bool.not_eq_false] at hq); exact ⟨hp, (show (0 : Int) ≤ 0 from (by first | omega | exact hb _ )), (show (0 : Int) < List.length l from (by first | omega | exact hb _ ))⟩), (fun hp => hp), (fun hp => hp), (fun hp2 => (by first | exact hp2 | exact ⟨hp, hp2⟩))⟩ ?_
    refine gB (((decide ((List.length l : Int) = 3)) && (decide ((List.getD l 0 []) = [102, 111, 117, 110, 100])))) (fun hc4 => ?_) fun hc4 => ?_
    ·
     try simp only [xT, xF, xA, xB] at hc4
     refine gYx [(3, CE.call [] [] (vc (i6 (scanN (List.getD l 1 [])))) []), (7, CE.call [] [] (vc (st (dataS (List.getD l 2 [])))) [])] [(9, [2])] [(3, 0 ≤ scanN (List.getD l 1 [])), (7, dataOk (List.getD l 2 []))] [(0 : Int) ≤ 1, (1 : Int) < List.length l, PureX Tryd.prog 43 [tc (st (List.getD l 1 []))] (vc (i6 (scanN (List.getD l 1 [])))) (0 ≤ scanN (List.getD l 1 [])), (0 : Int) ≤ 2, (2 : Int) < List.length l, PureX Tryd.prog 65 [tc (st (List.getD l 2 []))] (vc (st (dataS (List.getD l 2 [])))) (dataOk (List.getD l 2 []))] 96 [(2, vp 2 0)] [(2, AObj.row [.s (u8 3), .s (i6 0), .s (i6 (scanN (List.getD l 1 []))), .s (st (dataS (List.getD l 2 []))), .s (SC.nilsl), .s (i6 0), .s (bo false), .s (i6 0), .s (SC.nilsl), .s (bo false)])] mixed ⟨(show (0 : Int) ≤ 1 from (by first | omega | exact hb _ )), (show (1 : Int) < List.length l from (by first | omega | exact hb _ )), (num_c (List.getD l 1 [])), (show (0 : Int) ≤ 2 from (by first | omega | exact hb _ )), (show (2 : Int) < List.length l from (by first | omega | exact hb _ )), (data_c (List.getD l 2 []) (by first | omega | exact hb _ ))⟩ (fun hok => (show (0 ≤ scanN (List.getD l 1 [])) ∧ (dataOk (List.getD l 2 [])) by rw [readOk, if_neg hc1, if_neg hc2, if_neg (nand hc3), if_pos hc4] at hok; exact hok)) (fun hx3 => ?_)
     replace hx3 : (0 ≤ scanN (List.getD l 1 [])) ∧ (dataOk (List.getD l 2 [])) := hx3
     refine AMx.ent (ent_row 2 (l := [.s (u8 3), .s (i6 0), .s (i6 (scanN (List.getD l 1 []))), .s (st (dataS (List.getD l 2 []))), .s (SC.nilsl), .s (i6 0), .s (bo false), .s (i6 0), .s (SC.nilsl), .s (bo false)]) (m := [.s (u8 3), .s (i6 0), .s (i6 (scanN (List.getD l 1 []))), .s (st (dataS (List.getD l 2 []))), .s (AL.Fnv.slS []), .s (i6 0), .s (bo false), .s (i6 0), .s (Secret.slR []), .s (bo false)]) (by kernel_rfl) ⟨AC.le_rfl, AC.le_rfl, AC.le_rfl, AC.le_rfl, AC.le_nil, AC.le_rfl, AC.le_rfl, AC.le_rfl, AC.le_nil, AC.le_rfl, trivial⟩) ?_
     exact gTx (by first | (rw [readOk, if_pos hc1]; trivial) | (rw [readOk, if_neg hc1, if_pos hc2]; simp only [Bool.or_eq_true, Bool.and_eq_true, decide_eq_true_eq] at hx1; exact hx1) | (rw [readOk, if_neg hc1, if_neg hc2, if_pos hc3]; exact hx2) | (rw [readOk, if_neg hc1, if_neg hc2, if_neg (nand hc3), if_pos hc4]; exact hx3) | (rw [readOk, if_neg hc1, if_neg hc2, if_neg (nand hc3), if_neg (nand hc4), if_pos hc5]; exact hx4) | (rw [readOk, if_neg hc1, if_neg hc2, if_neg (nand hc3), if_neg (nand hc4), if_neg (nand hc5)]; simp only [Bool.or_eq_true, Bool.and_eq_true, decide_eq_true_eq] at hx5; exact hx5)) (AV.t (TV.agg [.s (u8 3), .s (i6 0), .s (i6 (scanN (List.getD l 1 []))), .s (st (dataS (List.getD l 2 []))), .s (AL.Fnv.slS []), .s (i6 0), .s (bo false), .s (i6 0), .s (Secret.slR []), .s (bo false)])) (by rw [show readS l = (⟨3, 0, scanN (List.getD l 1 []), dataS (List.getD l 2 []), [], ((0, false, 0, []) : Secret.Sec), false⟩ : RepV) from by first | (rw [readS, if_pos hc1]; done) | (rw [readS, if_pos hc1]; rfl) | (rw [readS, if_neg hc1, if_pos hc2]; rfl) | (rw [readS, if_neg hc1, if_neg hc2, if_pos hc3]; rfl) | (rw [readS, if_neg hc1, if_neg hc2, if_neg (nand hc3), if_pos hc4]; rfl) | (rw [readS, if_neg hc1, if_neg hc2, if_neg (nand hc3), if_neg (nand hc4), if_pos hc5]; rfl) | (rw [readS, if_neg hc1, if_neg hc2, if_neg (nand hc3), if_neg (nand hc4), if_neg (nand hc5), listW, if_pos hc6]; rfl) | (rw [readS, if_neg hc1, if_neg hc2, if_neg (nand hc3), if_neg (nand hc4), if_neg (nand hc5), listW, if_neg hc6]; rfl)])
    ·
     try simp only [xT, xF, xA, xB] at hc4
     refine gS [] [((decide ((List.length l : Int) = 5)) = true) → allP [], ((decide ((List.length l : Int) = 5)) = true) → allP [(decide ((List.length l : Int) = 5)) = true, (0 : Int) ≤ 0, (0 : Int) < List.length l], ((decide ((List.length l : Int) = 5)) = true) → allP [(decide ((List.length l : Int) = 5)) = true], ((decide ((List.length l : Int) = 5)) = true) → allP [(decide ((List.length l : Int) = 5)) = true], (decide ((List.length l : Int) = 5)) = true → allP [(decide ((List.length l : Int) = 5)) = true]] 96 [(0, vc (AL.Fnv.slS l)), (2, vp 2 0), (62, vc (bo ((decide ((List.length l : Int) = 5)) && (decide ((List.getD l 0 []) = [97, 98, 111, 117, 116])))))] [(2, AObj.row [.s (u8 0), .s (i6 0), .s (i6 0), .s (st []), .s (SC.nilsl), .s (i6 0), .s (bo false), .s (i6 0), .s (SC.nilsl), .s (bo false)])] ⟨(fun _ => trivial), (fun hp => by have hq := hp; (try simp only [decide_eq_true_eq, decide_eq_false_iff_not, Bool.and_eq_true, Bool.or_eq_true, Bool.and_eq_false_iff, Bool.or_eq_false_iff, Bool.not_eq_true', Bool.not_eq_false', Bool.not_eq_true, Bool.not_eq_false] at hq); exact ⟨hp, (show (0 : Int) ≤ 0 from (by first | omega | exact hb _ )), (show (0 : Int) < List.length l from (by first | omega | exact hb _ ))⟩), (fun hp => hp), (fun hp => hp), (fun hp2 => (by first | exact hp2 | exact ⟨hp, hp2⟩))⟩ ?_
     refine gB (((decide ((List.length l : Int) = 5)) && (decide ((List.getD l 0 []) = [97, 98, 111, 117, 116])))) (fun hc5 => ?_) fun hc5 => ?_
     ·
      try simp only [xT, xF, xA, xB] at hc5
      refine gSx [(2, CE.call [] [] (AV.t (TV.agg [.s (i6 ((aboutS (List.drop 1 l)).1)), .s (bo ((aboutS (List.drop 1 l)).2.1)), .s (i6 ((aboutS (List.drop 1 l)).2.2.1)), .s (Secret.slR ((aboutS (List.drop 1 l)).2.2.2))])) [])] [(2, aboutOk (List.drop 1 l))] [0 ≤ (1 : Int), (1 : Int) ≤ List.length l, PureX Tryd.prog 66 [tc (AL.Fnv.slS (List.drop 1 l))] (AV.t (TV.agg [.s (i6 ((aboutS (List.drop 1 l)).1)), .s (bo ((aboutS (List.drop 1 l)).2.1)), .s (i6 ((aboutS (List.drop 1 l)).2.2.1)), .s (Secret.slR ((aboutS (List.drop 1 l)).2.2.2))])) (aboutOk (List.drop 1 l))] 96 [(2, vp 2 0)] [(2, AObj.row [.s (u8 4), .s (i6 0), .s (i6 0), .s (st []), .s (SC.nilsl), .s (i6 ((aboutS (List.drop 1 l)).1)), .s (bo ((aboutS (List.drop 1 l)).2.1)), .s (i6 ((aboutS (List.drop 1 l)).2.2.1)), .s (Secret.slR ((aboutS (List.drop 1 l)).2.2.2)), .s (bo false)])] ⟨(show 0 ≤ (1 : Int) from (by first | omega | exact hb _ )), (show (1 : Int) ≤ List.length l from (by first | omega | exact hb _ )), (about_c (List.drop 1 l) (by simp only [List.length_drop]; omega) (by rw [drop_at]; exact hb _))⟩ (fun hok => (show (aboutOk (List.drop 1 l)) by rw [readOk, if_neg hc1, if_neg hc2, if_neg (nand hc3), if_neg (nand hc4), if_pos hc5] at hok; exact hok)) (fun hx4 => ?_)
      replace hx4 : (aboutOk (List.drop 1 l)) := hx4
      refine AMx.ent (ent_row 2 (l := [.s (u8 4), .s (i6 0), .s (i6 0), .s (st []), .s (SC.nilsl), .s (i6 ((aboutS (List.drop 1 l)).1)), .s (bo ((aboutS (List.drop 1 l)).2.1)), .s (i6 ((aboutS (List.drop 1 l)).2.2.1)), .s (Secret.slR ((aboutS (List.drop 1 l)).2.2.2)), .s (bo false)]) (m := [.s (u8 4), .s (i6 0), .s (i6 0), .s (st []), .s (AL.Fnv.slS []), .s (i6 ((aboutS (List.drop 1 l)).1)), .s (bo ((aboutS (List.drop 1 l)).2.1)), .s (i6 ((aboutS (List.drop 1 l)).2.2.1)), .s (Secret.slR ((aboutS (List.drop 1 l)).2.2.2)), .s (bo false)]) (by kernel_rfl) ⟨AC.le_rfl, AC.le_rfl, AC.le_rfl, AC.le_rfl, AC.le_nil, AC.le_rfl, AC.le_rfl, AC.le_rfl, AC.le_rfl, AC.le_rfl, trivial⟩) ?_
      exact gTx (by first | (rw [readOk, if_pos hc1]; trivial) | (rw [readOk, if_neg hc1, if_pos hc2]; simp only [Bool.or_eq_true, Bool.and_eq_true, decide_eq_true_eq] at hx1; exact hx1) | (rw [readOk, if_neg hc1, if_neg hc2, if_pos hc3]; exact hx2) | (rw [readOk, if_neg hc1, if_neg hc2, if_neg (nand hc3), if_pos hc4]; exact hx3) | (rw [readOk, if_neg hc1, if_neg hc2, if_neg (nand hc3), if_neg (nand hc4), if_pos hc5]; exact hx4) | (rw [readOk, if_neg hc1, if_neg hc2, if_neg (nand hc3), if_neg (nand hc4), if_neg (nand hc5)]; simp only [Bool.or_eq_true, Bool.and_eq_true, decide_eq_true_eq] at hx5; exact hx5)) (AV.t (TV.agg [.s (u8 4), .s (i6 0), .s (i6 0), .s (st []), .s (AL.Fnv.slS []), .s (i6 ((aboutS (List.drop 1 l)).1)), .s (bo ((aboutS (List.drop 1 l)).2.1)), .s (i6 ((aboutS (List.drop 1 l)).2.2.1)), .s (Secret.slR ((aboutS (List.drop 1 l)).2.2.2)), .s (bo false)])) (by rw [show readS l = (⟨4, 0, 0, [], [], (aboutS (List.drop 1 l)), false⟩ : RepV) from by first | (rw [readS, if_pos hc1]; done) | (rw [readS, if_pos hc1]; rfl) | (rw [readS, if_neg hc1, if_pos hc2]; rfl) | (rw [readS, if_neg hc1, if_neg hc2, if_pos hc3]; rfl) | (rw [readS, if_neg hc1, if_neg hc2, if_neg (nand hc3), if_pos hc4]; rfl) | (rw [readS, if_neg hc1, if_neg hc2, if_neg (nand hc3), if_neg (nand hc4), if_pos hc5]; rfl) | (rw [readS, if_neg hc1, if_neg hc2, if_neg (nand hc3), if_neg (nand hc4), if_neg (nand hc5), listW, if_pos hc6]; rfl) | (rw [readS, if_neg hc1, if_neg hc2, if_neg (nand hc3), if_neg (nand hc4), if_neg (nand hc5), listW, if_neg hc6]; rfl)])
     ·
      try simp only [xT, xF, xA, xB] at hc5
      refine AMx.skip ?_
      refine AMx.blk ?_
      refine gSx [(9, CE.call [] [] (AV.tup []) [])] [(9, ((decide ((List.length l : Int) = 2)) && (decide ((List.getD l 0 []) = [110, 97, 109, 101, 115]))) = true)] [((decide ((List.length l : Int) = 2)) = true) → allP [], ((decide ((List.length l : Int) = 2)) = true) → allP [(decide ((List.length l : Int) = 2)) = true, (0 : Int) ≤ 0, (0 : Int) < List.length l], ((decide ((List.length l : Int) = 2)) = true) → allP [(decide ((List.length l : Int) = 2)) = true], ((decide ((List.length l : Int) = 2)) = true) → allP [(decide ((List.length l : Int) = 2)) = true], (decide ((List.length l : Int) = 2)) = true → allP [(decide ((List.length l : Int) = 2)) = true], PureX Tryd.prog 42 [tc (bo ((decide ((List.length l : Int) = 2)) && (decide ((List.getD l 0 []) = [110, 97, 109, 101, 115]))))] (AV.tup []) (((decide ((List.length l : Int) = 2)) && (decide ((List.getD l 0 []) = [110, 97, 109, 101, 115]))) = true)] 96 [(0, vc (AL.Fnv.slS l)), (2, vp 2 0)] [(2, AObj.row [.s (u8 0), .s (i6 0), .s (i6 0), .s (st []), .s (SC.nilsl), .s (i6 0), .s (bo false), .s (i6 0), .s (SC.nilsl), .s (bo false)])] ⟨(fun _ => trivial), (fun hp => by have hq := hp; (try simp only [decide_eq_true_eq, decide_eq_false_iff_not, Bool.and_eq_true, Bool.or_eq_true, Bool.and_eq_false_iff, Bool.or_eq_false_iff, Bool.not_eq_true', Bool.not_eq_false', Bool.not_eq_true, Bool.not_eq_false] at hq); exact ⟨hp, (show (0 : Int) ≤ 0 from (by first | omega | exact hb _ )), (show (0 : Int) < List.length l from (by first | omega | exact hb _ ))⟩), (fun hp => hp), (fun hp => hp), (fun hp2 => (by first | exact hp2 | exact ⟨hp, hp2⟩)), (must_c ((decide ((List.length l : Int) = 2)) && (decide ((List.getD l 0 []) = [110, 97, 109, 101, 115]))))⟩ (fun hok => (show (((decide ((List.length l : Int) = 2)) && (decide ((List.getD l 0 []) = [110, 97, 109, 101, 115]))) = true) by rw [readOk, if_neg hc1, if_neg hc2, if_neg (nand hc3), if_neg (nand hc4), if_neg (nand hc5)] at hok; simp only [Bool.or_eq_true, Bool.and_eq_true, decide_eq_true_eq]; exact hok)) (fun hx5 => ?_)
      replace hx5 : (((decide ((List.length l : Int) = 2)) && (decide ((List.getD l 0 []) = [110, 97, 109, 101, 115]))) = true) := hx5
      refine gQ ?_
      refine gS [] [(0 : Int) ≤ 1, (1 : Int) < List.length l] 96 [(0, vc (AL.Fnv.slS l)), (2, vp 2 0), (89, vc (bo (decide ((List.getD l 1 []) = [45]))))] [(2, AObj.row [.s (u8 0), .s (i6 0), .s (i6 0), .s (st []), .s (SC.nilsl), .s (i6 0), .s (bo false), .s (i6 0), .s (SC.nilsl), .s (bo false)])] ⟨(show (0 : Int) ≤ 1 from (by first | omega | exact hb _ )), (show (1 : Int) < List.length l from (by first | omega | exact hb _ ))⟩ ?_
      refine gC ((List.getD l 1 []) = [45]) (fun hc6 => ?_) fun hc6 => ?_
      ·
       refine gS [] [] 96 [(2, vp 2 0)] [(2, AObj.row [.s (u8 5), .s (i6 0), .s (i6 0), .s (st []), .s (SC.nilsl), .s (i6 0), .s (bo false), .s (i6 0), .s (SC.nilsl), .s (bo false)])] trivial ?_
       refine AMx.ent (ent_row 2 (l := [.s (u8 5), .s (i6 0), .s (i6 0), .s (st []), .s (SC.nilsl), .s (i6 0), .s (bo false), .s (i6 0), .s (SC.nilsl), .s (bo false)]) (m := [.s (u8 5), .s (i6 0), .s (i6 0), .s (st []), .s (AL.Fnv.slS []), .s (i6 0), .s (bo false), .s (i6 0), .s (Secret.slR []), .s (bo false)]) (by kernel_rfl) ⟨AC.le_rfl, AC.le_rfl, AC.le_rfl, AC.le_rfl, AC.le_nil, AC.le_rfl, AC.le_rfl, AC.le_rfl, AC.le_nil, AC.le_rfl, trivial⟩) ?_
       exact gTx (by first | (rw [readOk, if_pos hc1]; trivial) | (rw [readOk, if_neg hc1, if_pos hc2]; simp only [Bool.or_eq_true, Bool.and_eq_true, decide_eq_true_eq] at hx1; exact hx1) | (rw [readOk, if_neg hc1, if_neg hc2, if_pos hc3]; exact hx2) | (rw [readOk, if_neg hc1, if_neg hc2, if_neg (nand hc3), if_pos hc4]; exact hx3) | (rw [readOk, if_neg hc1, if_neg hc2, if_neg (nand hc3), if_neg (nand hc4), if_pos hc5]; exact hx4) | (rw [readOk, if_neg hc1, if_neg hc2, if_neg (nand hc3), if_neg (nand hc4), if_neg (nand hc5)]; simp only [Bool.or_eq_true, Bool.and_eq_true, decide_eq_true_eq] at hx5; exact hx5)) (AV.t (TV.agg [.s (u8 5), .s (i6 0), .s (i6 0), .s (st []), .s (AL.Fnv.slS []), .s (i6 0), .s (bo false), .s (i6 0), .s (Secret.slR []), .s (bo false)])) (by rw [show readS l = (⟨5, 0, 0, [], [], ((0, false, 0, []) : Secret.Sec), false⟩ : RepV) from by first | (rw [readS, if_pos hc1]; done) | (rw [readS, if_pos hc1]; rfl) | (rw [readS, if_neg hc1, if_pos hc2]; rfl) | (rw [readS, if_neg hc1, if_neg hc2, if_pos hc3]; rfl) | (rw [readS, if_neg hc1, if_neg hc2, if_neg (nand hc3), if_pos hc4]; rfl) | (rw [readS, if_neg hc1, if_neg hc2, if_neg (nand hc3), if_neg (nand hc4), if_pos hc5]; rfl) | (rw [readS, if_neg hc1, if_neg hc2, if_neg (nand hc3), if_neg (nand hc4), if_neg (nand hc5), listW, if_pos hc6]; rfl) | (rw [readS, if_neg hc1, if_neg hc2, if_neg (nand hc3), if_neg (nand hc4), if_neg (nand hc5), listW, if_neg hc6]; rfl)])
      ·
       refine AMx.skip ?_
       refine gS [(3, CE.call [] [] (vc (AL.Fnv.slS (AL.Sep.splitC 44 (List.getD l 1 [])))) [])] [(0 : Int) ≤ 1, (1 : Int) < List.length l, Spec Tryd.prog 41 [tc (st (List.getD l 1 [])), tc (st [44])] (ofH []) (vc (AL.Fnv.slS (AL.Sep.splitC 44 (List.getD l 1 [])))) (ofH [])] 96 [(2, vp 2 0)] [(2, AObj.row [.s (u8 5), .s (i6 0), .s (i6 0), .s (st []), .s (AL.Fnv.slS (AL.Sep.splitC 44 (List.getD l 1 []))), .s (i6 0), .s (bo false), .s (i6 0), .s (SC.nilsl), .s (bo false)])] ⟨(show (0 : Int) ≤ 1 from (by first | omega | exact hb _ )), (show (1 : Int) < List.length l from (by first | omega | exact hb _ )), (AL.Sep.Split_c 44 (List.getD l 1 []) (by first | omega | exact hb _ ))⟩ ?_
       refine AMx.ent (ent_row 2 (l := [.s (u8 5), .s (i6 0), .s (i6 0), .s (st []), .s (AL.Fnv.slS (AL.Sep.splitC 44 (List.getD l 1 []))), .s (i6 0), .s (bo false), .s (i6 0), .s (SC.nilsl), .s (bo false)]) (m := [.s (u8 5), .s (i6 0), .s (i6 0), .s (st []), .s (AL.Fnv.slS (AL.Sep.splitC 44 (List.getD l 1 []))), .s (i6 0), .s (bo false), .s (i6 0), .s (Secret.slR []), .s (bo false)]) (by kernel_rfl) ⟨AC.le_rfl, AC.le_rfl, AC.le_rfl, AC.le_rfl, AC.le_rfl, AC.le_rfl, AC.le_rfl, AC.le_rfl, AC.le_nil, AC.le_rfl, trivial⟩) ?_
       exact gTx (by first | (rw [readOk, if_pos hc1]; trivial) | (rw [readOk, if_neg hc1, if_pos hc2]; simp only [Bool.or_eq_true, Bool.and_eq_true, decide_eq_true_eq] at hx1; exact hx1) | (rw [readOk, if_neg hc1, if_neg hc2, if_pos hc3]; exact hx2) | (rw [readOk, if_neg hc1, if_neg hc2, if_neg (nand hc3), if_pos hc4]; exact hx3) | (rw [readOk, if_neg hc1, if_neg hc2, if_neg (nand hc3), if_neg (nand hc4), if_pos hc5]; exact hx4) | (rw [readOk, if_neg hc1, if_neg hc2, if_neg (nand hc3), if_neg (nand hc4), if_neg (nand hc5)]; simp only [Bool.or_eq_true, Bool.and_eq_true, decide_eq_true_eq] at hx5; exact hx5)) (AV.t (TV.agg [.s (u8 5), .s (i6 0), .s (i6 0), .s (st []), .s (AL.Fnv.slS (AL.Sep.splitC 44 (List.getD l 1 []))), .s (i6 0), .s (bo false), .s (i6 0), .s (Secret.slR []), .s (bo false)])) (by rw [show readS l = (⟨5, 0, 0, [], AL.Sep.splitC 44 (List.getD l 1 []), ((0, false, 0, []) : Secret.Sec), false⟩ : RepV) from by first | (rw [readS, if_pos hc1]; done) | (rw [readS, if_pos hc1]; rfl) | (rw [readS, if_neg hc1, if_pos hc2]; rfl) | (rw [readS, if_neg hc1, if_neg hc2, if_pos hc3]; rfl) | (rw [readS, if_neg hc1, if_neg hc2, if_neg (nand hc3), if_pos hc4]; rfl) | (rw [readS, if_neg hc1, if_neg hc2, if_neg (nand hc3), if_neg (nand hc4), if_pos hc5]; rfl) | (rw [readS, if_neg hc1, if_neg hc2, if_neg (nand hc3), if_neg (nand hc4), if_neg (nand hc5), listW, if_pos hc6]; rfl) | (rw [readS, if_neg hc1, if_neg hc2, if_neg (nand hc3), if_neg (nand hc4), if_neg (nand hc5), listW, if_neg hc6]; rfl)])
end AL.Reply
namespace AL.Reply
open Go AL
open AL.Sep (splitC joinC)
open AL.Ask (numS scanN valS sizeB digB hexS unhexS dg)
open AL.Secret (RowV Sec Rul slR rowR checkS)
set_option linter.unusedVariables false
set_option linter.unusedSimpArgs false
def nameS (s : Bytes) : Bool := ((((!decide (s = [])) && (!decide (s = [45]))) && (decide ((List.length s : Int) ≤ 64))) && (!decide (0 ≤ Go.Lib.indexByte s 32))) && (!decide (0 ≤ Go.Lib.indexByte s 44))
theorem index_mem (c : UInt8) (s : Bytes) : 0 ≤ Go.Lib.indexByte s c ↔ c ∈ s := by
  constructor
  · intro h
    have := (AL.Sep.index_some h).2.2
    rw [this]
    simp
  · intro h
    rcases Int.lt_or_le (Go.Lib.indexByte s c) 0 with q | q
    · exact absurd h (AL.Sep.index_none q)
    · exact q
theorem name_iff (s : Bytes) : nameS s = true ↔ s ≠ [] ∧ s ≠ [45] ∧ s.length ≤ 64 ∧ 32 ∉ s ∧ 44 ∉ s := by
  unfold nameS
  simp only [Bool.and_eq_true, Bool.not_eq_true', decide_eq_true_eq, decide_eq_false_iff_not, index_mem]
  constructor
  · rintro ⟨⟨⟨⟨h1, h2⟩, h3⟩, h4⟩, h5⟩
    exact ⟨h1, h2, by omega, h4, h5⟩
  · rintro ⟨h1, h2, h3, h4, h5⟩
    exact ⟨⟨⟨⟨h1, h2⟩, by omega⟩, h4⟩, h5⟩
def partsS (r : RepV) : RepV :=
  if r.kind = 0 then ⟨r.kind, r.err, 0, [], [], (0, false, 0, []), false⟩
  else if r.kind = 2 then ⟨r.kind, 0, r.n, [], [], (0, false, 0, []), false⟩
  else if r.kind = 3 then ⟨r.kind, 0, r.n, r.data, [], (0, false, 0, []), false⟩
  else if r.kind = 4 then ⟨r.kind, 0, 0, [], [], r.sec, false⟩
  else if r.kind = 5 then ⟨r.kind, 0, 0, [], r.names, (0, false, 0, []), false⟩
  else if r.kind = 6 then ⟨r.kind, 0, 0, [], [], (0, false, 0, []), r.flag⟩
  else ⟨r.kind, 0, 0, [], [], (0, false, 0, []), false⟩
theorem RepV.eq_iff (a b : RepV) : a = b ↔ a.kind = b.kind ∧ a.err = b.err ∧ a.n = b.n ∧ a.data = b.data ∧ a.names = b.names ∧ a.sec = b.sec ∧ a.flag = b.flag := by
  cases a; cases b; simp
theorem same_eq {a b : RepV} (h : a.names = b.names ∧ a.sec = b.sec) : (((((decide (a.kind = b.kind)) && (decide (a.err = b.err))) && (decide (a.n = b.n))) && (decide (a.data = b.data))) && (a.flag == b.flag)) = decide (a = b) := by
  rw [Bool.eq_iff_iff]
  simp only [Bool.and_eq_true, decide_eq_true_eq, RepV.eq_iff, beq_iff_eq]
  obtain ⟨h1, h2⟩ := h
  constructor
  · rintro ⟨⟨⟨⟨q1, q2⟩, q3⟩, q4⟩, q5⟩; exact ⟨q1, q2, q3, q4, h1, h2, q5⟩
  · rintro ⟨q1, q2, q3, q4, _, _, q5⟩; exact ⟨⟨⟨⟨q1, q2⟩, q3⟩, q4⟩, q5⟩
theorem same_no {a b : RepV} (h : ¬ a.names = b.names ∨ ¬ a.sec = b.sec) : decide (a = b) = false := by
  rw [decide_eq_false_iff_not]
  rintro rfl
  simp at h
def FitR (r : RepV) : Prop :=
  if r.kind = 0 then 1 ≤ r.err ∧ r.err ≤ 99
  else if r.kind = 2 then 0 ≤ r.n ∧ r.n ≤ 999 ∧ (List.length r.data : Int) ≤ 400
  else if r.kind = 3 then 0 ≤ r.n ∧ r.n ≤ 999 ∧ (List.length r.data : Int) ≤ 400
  else if r.kind = 4 then checkS r.sec ((6, false) : Rul) = 0
  else if r.kind = 5 then (List.length r.names : Int) ≤ 64 ∧ ¬ 0 ≤ Lib.idxS (fun x : Bytes => !nameS x) r.names
  else True
noncomputable def checkR (r : RepV) : Int := open Classical in if 6 < r.kind then 22 else if r = partsS r ∧ FitR r then 0 else 2
theorem check_22 {r : RepV} (h : 6 < r.kind) : checkR r = 22 := if_pos h
theorem check_0 {r : RepV} (h : ¬ 6 < r.kind) (h1 : r = partsS r) (h2 : FitR r) : checkR r = 0 := by
  unfold checkR; rw [if_neg h, if_pos ⟨h1, h2⟩]
theorem check_2 {r : RepV} (h : ¬ 6 < r.kind) (h1 : ¬ (r = partsS r ∧ FitR r)) : checkR r = 2 := by
  unfold checkR; rw [if_neg h, if_neg h1]
theorem check_iff (r : RepV) : checkR r = 0 ↔ ¬ 6 < r.kind ∧ r = partsS r ∧ FitR r := by
  unfold checkR
  split
  · exact ⟨fun h => by omega, fun h => absurd ‹_› h.1⟩
  · split
    · exact ⟨fun _ => ⟨‹_›, ‹_›⟩, fun _ => rfl⟩
    · exact ⟨fun h => by omega, fun h => absurd h.2 ‹_›⟩
def valP (s : Bytes) : RepV := if List.getD (splitC 32 s) 0 [] = ([101, 114, 114, 111, 114] : Bytes) then { repd with err := scanN (List.getD (splitC 32 s) 1 []) } else readS (List.drop 1 (splitC 32 s))
def parseOk (s : Bytes) : Prop :=
  if List.getD (splitC 32 s) 0 [] = ([101, 114, 114, 111, 114] : Bytes) then ((List.length (splitC 32 s) : Int) = 2 ∧ 0 ≤ scanN (List.getD (splitC 32 s) 1 [])) ∧ checkR { repd with err := scanN (List.getD (splitC 32 s) 1 []) } = 0
  else (List.getD (splitC 32 s) 0 [] = ([111, 107] : Bytes) ∧ readOk (List.drop 1 (splitC 32 s))) ∧ checkR (readS (List.drop 1 (splitC 32 s))) = 0
noncomputable def parseR (s : Bytes) : RepV × Int := open Classical in if parseOk s then (valP s, 0) else (repd, 4)
theorem words_le {s : Bytes} (hs : s.length ≤ 100000) : ∀ j, (List.getD (List.drop 1 (splitC 32 s)) j []).length ≤ 100000 := by
  intro j
  rw [drop_at]
  by_cases h : j + 1 < (splitC 32 s).length
  · exact Nat.le_trans (AL.Sep.mem_len (Lib.getD_mem [] _ _ h)) hs
  · rw [List.getD_eq_getElem?_getD, List.getElem?_eq_none (by omega)]; simp
theorem split_pos (s : Bytes) : 1 ≤ (splitC 32 s).length := List.length_pos_iff.2 (AL.Sep.split_ne 32 s)
end AL.Reply
namespace AL
open Go
set_option linter.unusedVariables false
set_option linter.unusedSimpArgs false
theorem lkp3 {Γ : Ctx} {obj : Nat → Option AObj} {w : World} {a b c : Nat} {x y z : AV} {t : Nat} {v : Value} (ha : t = a → MV Γ obj w x v) (hb : t = b → MV Γ obj w y v) (hc : t = c → MV Γ obj w z v) : MV Γ obj w (lkp [(a, x), (b, y), (c, z)] t) v := by
  simp only [lkp]
  by_cases h1 : t = a
  · subst h1; rw [Nat.beq_refl]; exact ha rfl
  · rw [beq_false h1]
    by_cases h2 : t = b
    · subst h2; rw [Nat.beq_refl]; exact hb rfl
    · rw [beq_false h2]
      by_cases h3 : t = c
      · subst h3; rw [Nat.beq_refl]; exact hc rfl
      · rw [beq_false h3]; trivial
theorem ofH2 {i j : Nat} {a b : AObj} {id : Nat} {o : AObj} (h : ofH [(i, a), (j, b)] id = some o) : (id = i ∧ o = a) ∨ (id = j ∧ o = b) := by
  simp only [ofH] at h
  by_cases h1 : id = i
  · subst h1; rw [Nat.beq_refl] at h; cases h; exact .inl ⟨rfl, rfl⟩
  · rw [beq_false h1] at h
    by_cases h2 : id = j
    · subst h2; rw [Nat.beq_refl] at h; cases h; exact .inr ⟨rfl, rfl⟩
    · rw [beq_false h2] at h; cases h
def rhoB (Γ : Ctx) (i j N : Nat) (id : Nat) : Nat := bif Nat.beq id N then Γ.ρ i else bif Nat.beq id (N + 1) then Γ.ρ j else Γ.ρ id
theorem rhoB_1 (Γ : Ctx) (i j N : Nat) : rhoB Γ i j N N = Γ.ρ i := by unfold rhoB; rw [Nat.beq_refl]; rfl
theorem rhoB_2 (Γ : Ctx) (i j N : Nat) : rhoB Γ i j N (N + 1) = Γ.ρ j := by unfold rhoB; rw [beq_false (by omega), Nat.beq_refl]; rfl
theorem rhoB_3 (Γ : Ctx) (i j N : Nat) {id : Nat} (h : ¬ (id = N ∨ id = N + 1)) : rhoB Γ i j N id = Γ.ρ id := by unfold rhoB; rw [beq_false (fun e => h (.inl e)), beq_false (fun e => h (.inr e))]; rfl
theorem conc_boxes {G : Gd} {Γ : Ctx} {s : AS} {a : Act} {w : World} {x : SC} {i j N : Nat} {l m : List AC} (ds : List Deferred) (hC : Conc G Γ s a w) (hN : s.n = N) (h0 : s.reg 0 = vc x) (h2 : s.reg 2 = vp i 0) (h3 : s.reg 3 = vp j 0)
    (ho2 : s.obj i = some (.row l)) (ho3 : s.obj j = some (.row m)) (hl : acsNo l = true) (hm : acsNo m = true) (hij : i ≠ j) :
    Conc ⟨G.w, G.pr, G.I, rhoB Γ i j N, Γ.η, ds⟩ ⟨Γ.I, rhoB Γ i j N, Γ.η⟩ (AS.lst N [(0, vc x), (2, vp N 0), (3, vp (N + 1) 0)] [(N, .row l), (N + 1, .row m)]) { a with defers := ds } w := by
  have hx : Ext (fun id => id = N ∨ id = N + 1) Γ w ⟨Γ.I, rhoB Γ i j N, Γ.η⟩ w := ⟨fun b h => h, fun _ _ => rfl, fun id hid => ⟨rhoB_3 Γ i j N hid, rfl⟩⟩
  have f2 : ∀ b, fp ⟨Γ.I, rhoB Γ i j N, Γ.η⟩ N (.row l) b → fp Γ i (.row l) b := fun b hb => ⟨by rw [← rhoB_1 Γ i j N]; exact hb.1, trivial⟩
  have f3 : ∀ b, fp ⟨Γ.I, rhoB Γ i j N, Γ.η⟩ (N + 1) (.row m) b → fp Γ j (.row m) b := fun b hb => ⟨by rw [← rhoB_2 Γ i j N]; exact hb.1, trivial⟩
  refine ⟨hC.size.trans hN, rfl, fun t => ?_, ⟨fun id o ho => ?_, fun id o b ho hb => ?_, fun id o id' o' b ho ho' hb hb' => ?_, hC.heap.ilt, hC.heap.glob⟩, ⟨hC.g.os, hC.g.tape, hC.g.output, hC.g.size, hC.g.prlt, hC.g.keep, hC.g.sub, hC.g.bak, fun id o b ho hb => ?_⟩, fun _ _ => ⟨rfl, rfl⟩⟩
  · refine lkp3 (fun e => ?_) (fun e => ?_) (fun e => ?_) <;> subst e
    · have := hC.regs 0; rw [h0] at this; exact this
    · have := hC.regs 2; rw [h2] at this
      have this : a.tmps.getD 2 undef = .pointer (some ⟨Γ.ρ i, 0, none⟩) := this
      show a.tmps.getD 2 undef = .pointer (some ⟨rhoB Γ i j N N, 0, none⟩)
      rw [rhoB_1]; exact this
    · have := hC.regs 3; rw [h3] at this
      have this : a.tmps.getD 3 undef = .pointer (some ⟨Γ.ρ j, 0, none⟩) := this
      show a.tmps.getD 3 undef = .pointer (some ⟨rhoB Γ i j N (N + 1), 0, none⟩)
      rw [rhoB_2]; exact this
  · rcases ofH2 ho with ⟨rfl, rfl⟩ | ⟨rfl, rfl⟩
    · obtain ⟨cs, T, h1, hcs⟩ := hC.heap.objs i _ ho2
      exact ⟨cs, T, by show w.heap[rhoB Γ i j id id]? = _; rw [rhoB_1]; exact h1, MCs.ext hx (acsNo_has l hl) hcs⟩
    · obtain ⟨cs, T, h1, hcs⟩ := hC.heap.objs j _ ho3
      exact ⟨cs, T, by show w.heap[rhoB Γ i j N (N + 1)]? = _; rw [rhoB_2]; exact h1, MCs.ext hx (acsNo_has m hm) hcs⟩
  · rcases ofH2 ho with ⟨rfl, rfl⟩ | ⟨rfl, rfl⟩
    · exact hC.heap.lt i _ b ho2 (f2 b hb)
    · exact hC.heap.lt j _ b ho3 (f3 b hb)
  · rcases ofH2 ho with ⟨rfl, rfl⟩ | ⟨rfl, rfl⟩ <;> rcases ofH2 ho' with ⟨rfl, rfl⟩ | ⟨rfl, rfl⟩
    · rfl
    · exact absurd (hC.heap.inj _ _ _ _ b ho2 ho3 (f2 b hb) (f3 b hb')) hij
    · exact absurd (hC.heap.inj _ _ _ _ b ho3 ho2 (f3 b hb) (f2 b hb')).symm hij
    · rfl
  · rcases ofH2 ho with ⟨rfl, rfl⟩ | ⟨rfl, rfl⟩
    · exact hC.g.own i _ b ho2 (f2 b hb)
    · exact hC.g.own j _ b ho3 (f3 b hb)
theorem conc_two {G : Gd} {Γ : Ctx} {s : AS} {a a2 : Act} {w : World} {N n p q : Nat} {l m : List AC} (hC : Conc G Γ s a w) (ho2 : s.obj N = some (.row l)) (ho3 : s.obj (N + 1) = some (.row m))
    (hsz : a2.tmps.size = n) (hd : a2.defers = []) (hp : a2.tmps.getD p undef = .pointer (some ⟨Γ.ρ N, 0, none⟩)) (hq : a2.tmps.getD q undef = .pointer (some ⟨Γ.ρ (N + 1), 0, none⟩)) :
    Conc ⟨G.w, G.pr, G.I, Γ.ρ, Γ.η, []⟩ Γ (AS.lst n [(p, vp N 0), (q, vp (N + 1) 0)] [(N, .row l), (N + 1, .row m)]) a2 w := by
  have hs : ∀ id o, ofH [(N, AObj.row l), (N + 1, .row m)] id = some o → s.obj id = some o := fun id o h => by
    rcases ofH2 h with ⟨rfl, rfl⟩ | ⟨rfl, rfl⟩
    · exact ho2
    · exact ho3
  have hg := hC.g.sub_obj hs
  refine ⟨hsz, hd, fun t => ?_, heap_sub hC.heap hs, ⟨hg.os, hg.tape, hg.output, hg.size, hg.prlt, hg.keep, hg.sub, hg.bak, hg.own⟩, fun _ _ => ⟨rfl, rfl⟩⟩
  simp only [AS.lst, lkp]
  by_cases h1 : t = p
  · subst h1; rw [Nat.beq_refl]; exact hp
  · rw [beq_false h1]
    by_cases h2 : t = q
    · subst h2; rw [Nat.beq_refl]; exact hq
    · rw [beq_false h2]; trivial
def chkB (N nl nm : Nat) (s : AS) : Bool := match s.obj N, s.obj (N + 1), s.reg 2, s.reg 3 with
  | some (.row l), some (.row m), .t (.c (.ptr i 0)), .t (.c (.ptr j 0)) => (Nat.beq i N && Nat.beq j (N + 1)) && ((Nat.beq l.length nl && Nat.beq m.length nm) && Nat.ble s.n N)
  | _, _, _, _ => false
def BoxS (N : Nat) (l m : List AC) (s : AS) : Prop := s.n ≤ N ∧ s.obj N = some (.row l) ∧ s.obj (N + 1) = some (.row m) ∧ s.reg 2 = vp N 0 ∧ s.reg 3 = vp (N + 1) 0
theorem chkB_ok {N nl nm : Nat} {s : AS} (h : chkB N nl nm s = true) : ∃ l m, BoxS N l m s ∧ l.length = nl ∧ m.length = nm := by
  unfold chkB at h
  split at h
  · rename_i l m i j h1 h2 h3 h4
    simp only [Bool.and_eq_true] at h
    have e1 := Nat.eq_of_beq_eq_true h.1.1
    have e2 := Nat.eq_of_beq_eq_true h.1.2
    subst e1 e2
    exact ⟨l, m, ⟨Nat.le_of_ble_eq_true h.2.2, h1, h2, h3, h4⟩, Nat.eq_of_beq_eq_true h.2.1.1, Nat.eq_of_beq_eq_true h.2.1.2⟩
  · cases h
def RetB (N : Nat) (ok : Prop) (l m : List AC) (e : Exit) (s : AS) : Prop :=
  match e with
  | .panic chain => ¬ ok ∧ Chn chain ∧ ∃ l' m', BoxS N l' m' s ∧ l'.length = l.length ∧ m'.length = m.length
  | .ret => ok ∧ BoxS N l m s
  | _ => False
def evRC (P : Program) (ops : Array Oper) (ces : List (Nat × CE)) (xs : List (Nat × Prop)) (chk : AS → Bool) : Nat → List Oper → AS → Option (List Prop × AS)
  | _, [], s => some ([], s)
  | i, o :: l, s =>
    bif (xoAt xs i).isSome && !(chk s) then none else
    match evOpX P ops s o (ceAt ces i) (xoAt xs i) with
    | some (cs, s1) => match evRC P ops ces xs chk (i + 1) l s1 with
      | some (cs', s2) => some (cs ++ cs', s2)
      | none => none
    | none => none
def evRegC (P : Program) (ops : Array Oper) (ces : List (Nat × CE)) (xs : List (Nat × Prop)) (chk : AS → Bool) (s : AS) (ks hs : List Nat) : Option (List Prop × AS) :=
  match evRC P ops ces xs chk 0 ops.toList s with
  | some (cs, s1) => bif ascX 0 xs && topX ops.size xs then some (cs, s1.proj ks hs) else none
  | none => none
theorem evRC_ok {P : Program} {ops : Array Oper} {ces : List (Nat × CE)} {xs : List (Nat × Prop)} {chk : AS → Bool} {Q : Exit → Act → World → Prop} {G : Gd}
    (hP : ∀ j q, xoAt xs j = some q → ¬ q → ∀ chain, Chn chain → ∀ s Γ a w, chk s = true → Conc G Γ s a w → Q (.panic chain) a w) :
    ∀ (l : List Oper) (i : Nat) (s s' : AS) (cs : List Prop), (∀ j, l[j]? = ops[i + j]?) → evRC P ops ces xs chk i l s = some (cs, s') → allP cs → (∀ j, j < i → ∀ q, xoAt xs j = some q → q) →
    ∀ Γ a w, Conc G Γ s a w → ((∀ j, j < i + l.length → ∀ q, xoAt xs j = some q → q) → ∀ Γ' a' w', Conc G Γ' s' a' w' → Q .normal a' w') → wpOps P ops Q (List.range' i l.length) a w
  | [], i, s, s', cs, hl, h, hc, hx, Γ, a, w, hC, hQ => by
    cases h
    simp only [List.length_nil, List.range'_zero, wpOps]
    exact hQ hx _ _ _ hC
  | o :: l, i, s, s', cs, hl, h, hc, hx, Γ, a, w, hC, hQ => by
    unfold evRC at h
    cases hb : (xoAt xs i).isSome && !(chk s)
    case true => rw [hb] at h; cases h
    rw [hb] at h
    simp only [cond_false] at h
    split at h
    · rename_i cs1 s1 h1
      split at h
      · rename_i cs2 s2 h2
        cases h
        rw [allP_append] at hc
        have ho : ops[i]? = some o := by have := hl 0; simpa using this.symm
        rw [List.length_cons, List.range'_succ, wpOps_cons, wpO_eq ho]
        refine evOpX_ok h1 hc.1 hC (fun hok Γ' a' w' hC' => ?_) (fun q hq hn chain hch Γ' w' hC' => hP i q hq hn chain hch s Γ' a w' (by rw [hq] at hb; simpa using hb) hC')
        refine evRC_ok hP l (i + 1) s1 _ cs2 (fun j => by have := hl (j + 1); rw [List.getElem?_cons_succ] at this; rw [this]; congr 1; omega) h2 hc.2 (fun j hj q hq => ?_) Γ' a' w' hC' (fun hall => hQ fun j hj => hall j (by rw [List.length_cons] at hj; omega))
        by_cases hji : j = i
        · subst hji; exact hok q hq
        · exact hx j (by omega) q hq
      · cases h
    · cases h
section
variable {P : Program} {k : List KI} {s : AS} {N : Nat} {ok : Prop} {l m : List AC}
theorem AMx.regionC {id : Nat} {ops : Array Oper} {ces : List (Nat × CE)} {xs : List (Nat × Prop)} {ks hs : List Nat} {cs : List Prop} {s' : AS} (h : evRegC P ops ces xs (chkB N l.length m.length) s ks hs = some (cs, s')) (hc : allP cs)
    (hk : okX xs → AMx P (RetB N ok l m) k .normal s') (hp : ok → okX xs) : AMx P (RetB N ok l m) (.code (.region id ops false) :: k) .normal s := by
  intro G Γ a w hC
  refine wp_region ?_
  unfold evRegC at h
  split at h
  · rename_i cs1 s1 h1
    cases hB : ascX 0 xs && topX ops.size xs
    · rw [hB] at h; cases h
    rw [hB] at h
    simp only [cond_true, Option.some.injEq, Prod.mk.injEq] at h
    obtain ⟨rfl, rfl⟩ := h
    simp only [Bool.and_eq_true] at hB
    have := evRC_ok (Q := fun e a' w' => ∃ s' Γ', AMx P (RetB N ok l m) k e s' ∧ Conc G Γ' s' a' w') (fun j q hq hn chain hch s Γ a w hck hC => ⟨s, Γ, AMx.pan k (show ¬ ok ∧ Chn chain ∧ _ from ⟨fun h => not_okX hq hn (hp h), hch, chkB_ok hck⟩), hC⟩)
      ops.toList 0 s s1 cs1 (fun j => by simp) h1 hc (fun j hj => absurd hj (Nat.not_lt_zero j)) Γ a w hC (fun hall Γ' a' w' hC' => ⟨_, Γ', hk (okX_of hB.1 hB.2 fun j _ hj q hq => hall j (by simpa using hj) q hq), conc_le hC' (le_proj _ _ _)⟩)
    rwa [show List.range' 0 ops.toList.length = List.range ops.size by rw [List.range_eq_range']; simp] at this
  · cases h
theorem gRc {id : Nat} {ops : Array Oper} (ces : List (Nat × CE)) (xs : List (Nat × Prop)) (cs : List Prop) (n : Nat) (L : List (Nat × AV)) (H : List (Nat × AObj)) (hc : allP cs) (hp : ok → okX xs) (hk : okX xs → AMx P (RetB N ok l m) k .normal (AS.lst n L H))
    (h : evRegC P ops ces xs (chkB N l.length m.length) s (L.map Prod.fst) (H.map Prod.fst) = some (cs, AS.lst n L H) := by kernel_rfl) : AMx P (RetB N ok l m) (.code (.region id ops false) :: k) .normal s := AMx.regionC h hc hk hp
theorem gSc {id : Nat} {ops : Array Oper} {y : Code} (ces : List (Nat × CE)) (xs : List (Nat × Prop)) (cs : List Prop) (n : Nat) (L : List (Nat × AV)) (H : List (Nat × AObj)) (hc : allP cs) (hp : ok → okX xs) (hk : okX xs → AMx P (RetB N ok l m) (.code y :: k) .normal (AS.lst n L H))
    (h : evRegC P ops ces xs (chkB N l.length m.length) s (L.map Prod.fst) (H.map Prod.fst) = some (cs, AS.lst n L H) := by kernel_rfl) : AMx P (RetB N ok l m) (.code (.seq (.region id ops false) y) :: k) .normal s := AMx.seq (AMx.regionC h hc hk hp)
theorem gTc (hok : ok) {l' m' : List AC} (ho : s.obj N = some (.row l')) (ho' : s.obj (N + 1) = some (.row m')) (h2 : s.reg 2 = vp N 0) (h3 : s.reg 3 = vp (N + 1) 0) (hn : Nat.ble s.n N = true) (hl : l' = l) (hm : m' = m) : AMx P (RetB N ok l m) (.code .ret :: k) .normal s :=
  AMx.ret (show ok ∧ BoxS N l m s from ⟨hok, Nat.le_of_ble_eq_true hn, hl ▸ ho, hm ▸ ho', h2, h3⟩)
end
theorem pure_end {P : Program} {fn : Func} {G : Gd} {Γ0 Γ' : Ctx} {s : AS} {a : Act} {w0 w' : World} {res : AV} (h1 : G.w = w0) (h2 : G.pr = prOf Γ0 (ofH []) w0) (h3 : G.I = Γ0.I) (hC' : Conc G Γ' s a w') (hr : evRes P fn s = some res) (hno : res.no = true) :
    ∃ v, (results fn a.tmps).run P w' = Result.ok v w' ∧ ∃ v1 Γ'', Ending.returned v = .returned v1 ∧ MV Γ'' H0 w' res v1 ∧ HeapOk Γ'' H0 w' ∧ GOk ⟨w0, prOf Γ0 (ofH []) w0, Γ0.I, Γ0.ρ, Γ0.η, []⟩ Γ'' H0 w' ∧
      Agree (fun id => H0 id ≠ none ∧ H0 id = none) Γ0 Γ'' := by
  obtain ⟨v, e1, e2, e3⟩ := res_ok (P := P) (fn := fn) hC' hr
  have hh' := heap0 hC'.heap
  have hg' := hC'.g.sub_obj (obj' := H0) (fun _ _ h => by cases h)
  let Γ2 : Ctx := ⟨Γ'.I, Γ0.ρ, Γ0.η⟩
  have hx : Ext (fun _ => True) Γ' w' Γ2 w' := ⟨fun b hb => hb, fun b hb => rfl, fun id h => absurd trivial h⟩
  refine ⟨v, e1, v, Γ2, rfl, MV.ext hx (fun id o h => absurd trivial h) (AV.no_has res hno) (plain_obj (obj' := H0) e3 e2), ⟨fun _ _ h => (by cases h), fun _ _ _ h => (by cases h), fun _ _ _ _ _ h => (by cases h), hh'.ilt, hh'.glob⟩, ?_, fun _ _ => ⟨rfl, rfl⟩⟩
  subst h1
  exact ⟨hg'.os, hg'.tape, hg'.output, hg'.size, fun b hb => hg'.prlt b (by rw [h2]; exact hb), fun b hb => hg'.keep b (by rw [h2]; exact hb), fun b hb => hg'.sub b (by rw [h3]; exact hb), fun b hb hi => by have := hg'.bak b (by rw [h2]; exact hb) hi; rwa [h3] at this, fun _ _ _ h => (by cases h)⟩
end AL
namespace AL.Reply
open Go Go.Proofs AL
set_option linter.unusedVariables false
set_option linter.unusedSimpArgs false
def ZR : List AC := [.s (u8 0), .s (i6 0), .s (i6 0), .s (st []), .s .nilsl, .s (i6 0), .s (bo false), .s (i6 0), .s .nilsl, .s (bo false)]
theorem f40_body : Tryd.f40.body = some (.seq (.region 0 (rg Tryd.f40 0) false) (.cond (.tmp 3) (.region 1 (rg Tryd.f40 1) false) .skip)) := by kernel_rfl
set_option maxHeartbeats 1600000 in
theorem clo_idle (p1 p2 : Value) (w : World) :
    CallsD Tryd.prog 40 #[p1, p2] .returning w fun e u' w' => e = .returned (.tuple #[]) ∧ u' = .returning ∧ w' = w := by
  refine callsD_of_wpS Tryd.func40 rfl fun c₀ cs hu => ?_
  apply wpS_seq
  apply wpS_region
  simp [wpOpsS, go_sem, recoverD, hu, Tryd.ntmps40, Exit.thenS]
  refine wpS_cond (t := false) (by simp [Act.eval, Array.replicate]) ?_
  simp only [Bool.false_eq_true, if_false]
  refine wpS_of_wp (wp_skip ?_)
  cases c₀
  simp_all [bodyPostS, results, Tryd.results40]
set_option maxHeartbeats 1600000 in
theorem clo_pan (p1 p2 : Value) (w : World) (u : TypeId) (pv : Value) {G : Gd} {Γ : Ctx} {c0 c1 c2 c3 c4 c5 c6 c7 c8 c9 d0 : AC} (hG : G.df = [])
    (hC : ∀ a2 : Act, a2.tmps.size = 5 → a2.defers = [] → a2.tmps.getD 0 undef = p1 → a2.tmps.getD 1 undef = p2 → Conc G Γ (AS.lst 5 [(0, vp 34 0), (1, vp 35 0)] [(34, .row [c0, c1, c2, c3, c4, c5, c6, c7, c8, c9]), (35, .row [d0])]) a2 w) :
    CallsD Tryd.prog 40 #[p1, p2] (.panicking [{ v := .iface u pv, recovered := false }]) w fun e u' w' =>
      e = .returned (.tuple #[]) ∧ u' = .panicking [{ v := .iface u pv, recovered := true }] ∧ ∃ a' Γ', Conc G Γ' (AS.lst 5 [(0, vp 34 0), (1, vp 35 0)] [(34, .row ZR), (35, .row [.s (i6 4)])]) a' w' := by
  refine callsD_of_wpS Tryd.func40 rfl fun c₀ cs hu => ?_
  apply wpS_seq
  apply wpS_region
  simp [wpOpsS, go_sem, recoverD, hu, Tryd.ntmps40, Exit.thenS]
  refine wpS_cond (t := true) (by simp [Act.eval, Array.replicate]) ?_
  simp only [if_true]
  refine wpS_of_wp ?_
  have h : AMx Tryd.prog (fun e s => e = .normal ∧ s = AS.lst 5 [(0, vp 34 0), (1, vp 35 0)] [(34, .row ZR), (35, .row [.s (i6 4)])]) [.code (.region 1 (rg Tryd.f40 1) false)] .normal (AS.lst 5 [(0, vp 34 0), (1, vp 35 0)] [(34, .row [c0, c1, c2, c3, c4, c5, c6, c7, c8, c9]), (35, .row [d0])]) :=
    gR [] [] 5 [(0, vp 34 0), (1, vp 35 0)] [(34, .row ZR), (35, .row [.s (i6 4)])] trivial ⟨rfl, rfl⟩
  refine wp_mono (h G Γ _ _ (hC _ (by simp) rfl (by simp) (by simp))) ?_
  rintro e a' w' ⟨s', Γ', ⟨rfl, rfl⟩, hC'⟩
  exact ⟨hC'.defers.trans hG, _, rfl, .tuple #[], by unfold results; rw [Tryd.results40]; simp, rfl, rfl, a', Γ', hC'⟩
theorem run_clo (p1 p2 : Value) (w : World) : (invoke (.fn (.func 40) #[p1, p2]) #[]).run Tryd.prog w = Result.ok (.enter 40 #[p1, p2]) w := by
  have hn : Tryd.f40.name ≠ "runtime.NumGoroutine" := by decide +kernel
  have hb : Tryd.f40.body ≠ none := by rw [f40_body]; simp
  simp [invoke, callFunc, Tryd.func40, hn, hb]
def mkf : Oper := { dst := some 5, op := .makeFunc (.func 40) #[] #[.tmp 2, .tmp 3], type := 1, pos := "reply.go:244", after := #[], guard := none }
def dfr : Oper := { dst := none, op := .defer { callee := .value (.tmp 5), args := #[], argTypes := #[] }, type := 0, pos := "reply.go:244", after := #[{ on := 0, ground := .data }], guard := none }
theorem rg1 : rg Tryd.f17 1 = #[mkf, dfr] := by kernel_rfl
set_option maxRecDepth 100000 in
set_option maxHeartbeats 4000000 in
theorem parse_of {s : Bytes} {c : Code} {ok : Prop} {c0 c1 c2 c3 c4 c5 c6 c7 c8 c9 : SC} {res : AV} (hb : Tryd.f17.body = some (.seq (.region 0 (rg Tryd.f17 0) false) (.seq (.region 1 (rg Tryd.f17 1) false) c)))
    (h : AMx Tryd.prog (RetB 34 ok [.s c0, .s c1, .s c2, .s c3, .s c4, .s c5, .s c6, .s c7, .s c8, .s c9] [.s (i6 0)]) [.code c] .normal (AS.lst 34 [(0, vc (st s)), (2, vp 34 0), (3, vp 35 0)] [(34, .row ZR), (35, .row [.s (i6 0)])]))
    (hy : ok → res = .tup [.agg [.s c0, .s c1, .s c2, .s c3, .s c4, .s c5, .s c6, .s c7, .s c8, .s c9], tc (i6 0)]) (hn : ¬ ok → AV.le (.tup [.agg ZR, tc (i6 4)]) res) : Pure Tryd.prog 17 [tc (st s)] res := by
  refine ⟨⟨_, Tryd.func17, by rw [hb]; rfl, by kernel_rfl⟩, fun Γ w cargs hh hm => ?_⟩
  refine calls_of_wp_defers Tryd.func17 hb ?_
  have hC := body_start (P := Tryd.prog) (H := []) Tryd.ntmps17 (by kernel_rfl) hh hm
  have h0 : AMx Tryd.prog (fun e s' => e = .normal ∧ s' = AS.lst 34 [(0, vc (st s)), (2, vp 2 0), (3, vp 3 0)] [(2, .row ZR), (3, .row [.s (i6 0)])]) [.code (.region 0 (rg Tryd.f17 0) false)] .normal (AS.lst 34 (argRegs 0 [tc (st s)]) []) :=
    gR [] [] 34 [(0, vc (st s)), (2, vp 2 0), (3, vp 3 0)] [(2, .row ZR), (3, .row [.s (i6 0)])] trivial ⟨rfl, rfl⟩
  refine wp_seq (wp_mono (h0 _ _ _ _ hC) ?_)
  rintro e a1 w1 ⟨s1, Γ1, ⟨rfl, rfl⟩, hC1⟩
  refine wp_seq (wp_region ?_)
  rw [rg1, show List.range (#[mkf, dfr] : Array Oper).size = [0, 1] from rfl, wpOps_cons, wpO_eq (o := mkf) rfl]
  refine evOp_ok (s' := AS.set (AS.lst 34 [(0, vc (st s)), (2, vp 2 0), (3, vp 3 0)] [(2, .row ZR), (3, .row [.s (i6 0)])]) (some 5) (.t (.c (.fn 40 [.ptr 2 0, .ptr 3 0])))) (cs := []) (ce := none) (by kernel_rfl) trivial _ Γ1 a1 w1 _ _ hC1 fun Γ2 a2 w2 hC2 => ?_
  rw [wpOps_cons, wpO_eq (o := dfr) rfl]
  unfold wpO
  rw [if_pos (wanted_none rfl)]
  left
  unfold Oper.wp
  have h5 : ∃ cs : Array Value, a2.tmps.getD 5 undef = .func (.func 40) #[] cs ∧ MCaps Γ2 w2 [.ptr 2 0, .ptr 3 0] cs.toList := hC2.regs 5
  obtain ⟨cs, hcs, hcaps⟩ := h5
  obtain rfl : cs = #[.pointer (some ⟨Γ2.ρ 2, 0, none⟩), .pointer (some ⟨Γ2.ρ 3, 0, none⟩)] := by
    match cs, hcaps with
    | ⟨[u, v]⟩, hcaps =>
      obtain ⟨h1, h2, _⟩ := hcaps
      have h1 : u = .pointer (some ⟨Γ2.ρ 2, 0, none⟩) := h1
      have h2 : v = .pointer (some ⟨Γ2.ρ 3, 0, none⟩) := h2
      rw [h1, h2]
    | ⟨[]⟩, h => exact h.elim
    | ⟨[_]⟩, h => exact h.2.elim
    | ⟨_ :: _ :: _ :: _⟩, h => exact h.2.2.elim
  have hrun : (execOp a2.eval dfr).run Tryd.prog w2 = Result.ok (.defer { target := .fn (.func 40) #[.pointer (some ⟨Γ2.ρ 2, 0, none⟩), .pointer (some ⟨Γ2.ρ 3, 0, none⟩)], args := #[] }) w2 := by
    have he : a2.eval (.tmp 5) = .func (.func 40) #[] #[.pointer (some ⟨Γ2.ρ 2, 0, none⟩), .pointer (some ⟨Γ2.ρ 3, 0, none⟩)] := hcs
    unfold execOp
    simp [dfr, resolve, he, Deferred.ofValue]
  rw [hrun, Oper.upon_defer]
  have hd2 : a2.defers = [] := hC2.defers
  have hCB := conc_boxes (x := st s) (i := 2) (j := 3) (N := 34) [{ target := .fn (.func 40) #[.pointer (some ⟨Γ2.ρ 2, 0, none⟩), .pointer (some ⟨Γ2.ρ 3, 0, none⟩)], args := #[] }] hC2 rfl rfl rfl rfl rfl rfl rfl rfl (by decide)
  have key := h _ _ _ _ hCB
  rw [hd2]
  refine wp_mono key ?_
  rintro e a' w' ⟨s', Γ', hR, hC'⟩
  have hdf : a'.defers = [{ target := .fn (.func 40) #[.pointer (some ⟨Γ2.ρ 2, 0, none⟩), .pointer (some ⟨Γ2.ρ 3, 0, none⟩)], args := #[] }] := hC'.defers
  cases e with
  | ret =>
    obtain ⟨hok, hnn, ho2, ho3, hr2, hr3⟩ := hR
    have hp : a'.tmps.getD 2 undef = .pointer (some ⟨Γ'.ρ 34, 0, none⟩) := by have := hC'.regs 2; rw [hr2] at this; exact this
    have hq : a'.tmps.getD 3 undef = .pointer (some ⟨Γ'.ρ 35, 0, none⟩) := by have := hC'.regs 3; rw [hr3] at this; exact this
    show Leaves _ _ _ _ a'.defers .returning w'
    rw [hdf]
    refine leaves_cons (by simp) (run_clo _ _ w') ?_
    refine (clo_idle _ _ w').mono ?_
    rintro e u' w'' ⟨rfl, rfl, rfl⟩
    have hC4 := conc_two (n := s'.n) (p := 2) (q := 3) (a2 := { a' with defers := [] }) hC' ho2 ho3 hC'.size rfl hp hq
    rw [hy hok]
    have hend := pure_end (P := Tryd.prog) (fn := Tryd.f17) (Γ0 := Γ) (w0 := w) (res := .tup [.agg [.s c0, .s c1, .s c2, .s c3, .s c4, .s c5, .s c6, .s c7, .s c8, .s c9], tc (i6 0)]) rfl rfl rfl hC4 (by kernel_rfl) rfl
    exact hend
  | panic chain =>
    obtain ⟨hok, ⟨u, pv, rfl⟩, l', m', ⟨hnn, ho2, ho3, hr2, hr3⟩, hl, hm⟩ := hR
    have hp : a'.tmps.getD 2 undef = .pointer (some ⟨Γ'.ρ 34, 0, none⟩) := by have := hC'.regs 2; rw [hr2] at this; exact this
    have hq : a'.tmps.getD 3 undef = .pointer (some ⟨Γ'.ρ 35, 0, none⟩) := by have := hC'.regs 3; rw [hr3] at this; exact this
    have p2 : Γ'.ρ 34 = Γ2.ρ 2 := (hC'.ids 34 hnn).1.trans (rhoB_1 Γ2 2 3 34)
    have p3 : Γ'.ρ 35 = Γ2.ρ 3 := (hC'.ids 35 (by omega)).1.trans (rhoB_2 Γ2 2 3 34)
    show Leaves _ _ _ _ a'.defers (.panicking _) w'
    rw [hdf]
    refine leaves_cons (by simp) (run_clo _ _ w') ?_
    match l', hl, ho2, m', hm, ho3 with
    | [x0, x1, x2, x3, x4, x5, x6, x7, x8, x9], _, ho2, [y0], _, ho3 =>
      refine (clo_pan _ _ w' u pv rfl (fun a2 hsz hdf hp hq => conc_two hC' ho2 ho3 hsz hdf (by rw [hp, p2]) (by rw [hq, p3]))).mono ?_
      rintro e u' w'' ⟨rfl, rfl, a3, Γ3, hC3⟩
      have q2 : Γ3.ρ 34 = Γ'.ρ 34 := (hC3.ids 34 (by decide)).1
      have q3 : Γ3.ρ 35 = Γ'.ρ 35 := (hC3.ids 35 (by decide)).1
      have hC4 := conc_two (N := 34) (l := ZR) (m := [.s (i6 4)]) (n := s'.n) (p := 2) (q := 3) (a2 := { a' with defers := [] }) hC3 rfl rfl hC'.size rfl (by rw [q2]; exact hp) (by rw [q3]; exact hq)
      have hend := pure_end (P := Tryd.prog) (fn := Tryd.f17) (Γ0 := Γ) (w0 := w) (res := .tup [.agg ZR, tc (i6 4)]) rfl rfl rfl hC4 (by kernel_rfl) rfl
      obtain ⟨v, e1, v1, Γ5, q1, q2, q3⟩ := hend
      exact ⟨v, e1, v1, Γ5, q1, hn hok _ _ _ _ q2, q3⟩
  | _ => exact hR.elim
end AL.Reply
namespace AL.Secret
open Go Go.Proofs AL AL.Fnv
set_option linter.unusedVariables false
set_option linter.unusedSimpArgs false
theorem f63_body : Tryd.f63.body = some (.seq (.region 0 (rg Tryd.f63 0) false) (.seq (.seq (.region 1 (rg Tryd.f63 1) false) (.cond (.tmp 10) (.seq (.region 2 (rg Tryd.f63 2) false) (.ret)) (.skip))) (.seq (.seq (.region 3 (rg Tryd.f63 3) false) (.block 0 (.loop (.seq (.region 4 (rg Tryd.f63 4) false) (.seq (.cond (.tmp 14) (.skip) (.exit 0)) (.seq (.block 1 (.seq (.region 5 (rg Tryd.f63 5) false) (.seq (.region 6 (rg Tryd.f63 6) true) (.cond (.tmp 24) (.seq (.region 7 (rg Tryd.f63 7) false) (.ret)) (.skip))))) (.region 8 (rg Tryd.f63 8) false))))))) (.seq (.region 9 (rg Tryd.f63 9) false) (.ret))))) := by kernel_rfl
set_option maxRecDepth 100000 in
set_option maxHeartbeats 8000000 in
theorem EqualR_c (a b : List RowV) : Pure Tryd.prog 63 [tc (slR a), tc (slR b)] (vc (bo (decide (a = b)))) := by
 refine Pure.of_body Tryd.func63 f63_body (by kernel_rfl) Tryd.ntmps63 (by kernel_rfl) (by kernel_rfl) ?_
 refine AMx.sl 0 (l := a) rfl (fun hl => ?_)
 simp only [maxLen] at hl
 refine gS [] [] 26 [(0, vc (slR a)), (1, vc (slR b))] [] trivial ?_
 refine gQ ?_
 refine gS [] [] 26 [(0, vc (slR a)), (1, vc (slR b)), (10, vc (bo (!decide ((List.length a : Int) = (List.length b : Int)))))] [] trivial ?_
 refine gN ((List.length a : Int) = (List.length b : Int)) (fun hc1 => ?_) fun hc1 => ?_
 ·
  refine gS [] [] 26 [(4, vc (bo false))] [] trivial ?_
  exact gT (vc (bo false)) (by rw [decide_eq_false (fun h => by subst h; simp_all)])
 ·
  refine AMx.skip ?_
  refine gQ ?_
  refine gS [] [] 26 [(0, vc (slR a)), (1, vc (slR b)), (12, vc (i6 (List.length a : Int))), (13, vc (i6 0))] [] trivial ?_
  refine AMx.block ?_
  refine AMx.ent (s' := AS.lst 26 [(0, vc (slR a)), (1, vc (slR b)), (12, vc (i6 (List.length a : Int))), (13, vc (i6 0))] []) (ent_proj [0, 1, 12, 13] []) ?_
  refine AMx.loop (fun mm ss => ∃ (i : Nat), (i ≤ a.length ∧ List.take i a = List.take i b) ∧ mm = a.length - i ∧ ss = AS.lst 26 [(0, vc (slR a)), (1, vc (slR b)), (12, vc (i6 (List.length a : Int))), (13, vc (i6 (i : Int)))] []) ⟨0, ?_, rfl, ?_⟩ ?_
  · exact ⟨by omega, rfl⟩
  · rfl
  rintro mm ss ⟨i, ⟨hI, hE⟩, rfl, rfl⟩
  refine gS [] [] 26 [(0, vc (slR a)), (1, vc (slR b)), (12, vc (i6 (List.length a : Int))), (13, vc (i6 (i : Int))), (14, vc (bo (decide ((i : Int) < (List.length a : Int)))))] [] trivial ?_
  refine gQ ?_
  refine gC ((i : Int) < (List.length a : Int)) (fun hc2 => ?_) fun hc2 => ?_
  ·
   refine AMx.skip ?_
   refine gQ ?_
   refine AMx.block ?_
   refine gS [] [] 26 [(0, vc (slR a)), (1, vc (slR b)), (5, vc (i6 (i : Int))), (12, vc (i6 (List.length a : Int))), (13, vc (i6 (i : Int)))] [] trivial ?_
   refine gY [] [] [(0 : Int) ≤ (i : Int), (i : Int) < List.length a, (0 : Int) ≤ (i : Int), (i : Int) < List.length b] 26 [(0, vc (slR a)), (1, vc (slR b)), (12, vc (i6 (List.length a : Int))), (13, vc (i6 (i : Int))), (24, vc (bo (!(decide ((List.getD a i (0, false, false)).1 = (List.getD b i (0, false, false)).1) && ((((List.getD a i (0, false, false)).2.1) == ((List.getD b i (0, false, false)).2.1)) && ((((List.getD a i (0, false, false)).2.2) == ((List.getD b i (0, false, false)).2.2)) && true))))))] [] mixed ⟨(show (0 : Int) ≤ (i : Int) from (by omega)), (show (i : Int) < List.length a from (by omega)), (show (0 : Int) ≤ (i : Int) from (by omega)), (show (i : Int) < List.length b from (by omega))⟩ ?_
   refine gB (!(decide ((List.getD a i (0, false, false)).1 = (List.getD b i (0, false, false)).1) && ((((List.getD a i (0, false, false)).2.1) == ((List.getD b i (0, false, false)).2.1)) && ((((List.getD a i (0, false, false)).2.2) == ((List.getD b i (0, false, false)).2.2)) && true)))) (fun hc3 => ?_) fun hc3 => ?_
   ·
    try simp only [xT, xF, xA, xB, xN, xM] at hc3
    refine gS [] [] 26 [(4, vc (bo false))] [] trivial ?_
    exact gT (vc (bo false)) (by rw [decide_eq_false (fun h => by subst h; simp_all)])
   ·
    try simp only [xT, xF, xA, xB, xN, xM] at hc3
    refine AMx.skip ?_
    refine AMx.blk ?_
    refine gR [] [InR .i64 ((i : Int) + 1)] 26 [(0, vc (slR a)), (1, vc (slR b)), (12, vc (i6 (List.length a : Int))), (13, vc (i6 ((i : Int) + 1)))] [] (show InR .i64 ((i : Int) + 1) from (inR64 (by omega) (by omega))) ?_
    refine AMx.ent_inv (s' := AS.lst 26 [(0, vc (slR a)), (1, vc (slR b)), (12, vc (i6 (List.length a : Int))), (13, vc (i6 ((i : Int) + 1)))] []) (ent_proj [0, 1, 12, 13] []) ?_
    refine AMx.inv ⟨_, ?_, i + 1, ?_, rfl, ?_⟩
    rotate_left
    · exact ⟨by omega, Lib.same_step (0, false, false) a b i (by omega) (by omega) hE (by grind)⟩
    · rfl
    · omega
  ·
   refine AMx.exit ?_
   refine AMx.code_exit ?_
   refine AMx.inv_exit ?_
   refine AMx.blk_exit ?_
   refine gS [] [] 26 [(4, vc (bo true))] [] trivial ?_
   exact gT (vc (bo true)) (by rw [decide_eq_true (Lib.same_end a b i (by omega) (by omega) hE)])
theorem f38_body : Tryd.f38.body = some (.seq (.region 0 (rg Tryd.f38 0) false) (.seq (.region 1 (rg Tryd.f38 1) false) (.ret))) := by kernel_rfl
set_option maxRecDepth 100000 in
set_option maxHeartbeats 8000000 in
theorem Same_c (a b : Sec) : Pure Tryd.prog 38 [TV.agg [.s (i6 a.1), .s (bo a.2.1), .s (i6 a.2.2.1), .s (slR a.2.2.2)], TV.agg [.s (i6 b.1), .s (bo b.2.1), .s (i6 b.2.2.1), .s (slR b.2.2.2)]] (vc (bo (decide (a = b)))) := by
 refine Pure.of_body Tryd.func38 f38_body (by kernel_rfl) Tryd.ntmps38 (by kernel_rfl) (by kernel_rfl) ?_
 refine gS [] [] 31 [(2, vp 2 0), (3, vp 3 0)] [(2, AObj.row [.s (i6 a.1), .s (bo a.2.1), .s (i6 a.2.2.1), .s (slR a.2.2.2)]), (3, AObj.row [.s (i6 b.1), .s (bo b.2.1), .s (i6 b.2.2.1), .s (slR b.2.2.2)])] trivial ?_
 refine gS [(24, CE.call [] [] (vc (bo (decide (a.2.2.2 = b.2.2.2)))) [])] [((decide (a.1 = b.1)) = true) → allP [], ((decide (a.1 = b.1)) = true) → allP [(decide (a.1 = b.1)) = true], ((decide (a.1 = b.1)) = true) → allP [], ((decide (a.1 = b.1)) = true) → allP [(decide (a.1 = b.1)) = true], ((decide (a.1 = b.1)) = true) → allP [(decide (a.1 = b.1)) = true, (decide (a.1 = b.1)) = true], (decide (a.1 = b.1)) = true → allP [(decide (a.1 = b.1)) = true], (((decide (a.1 = b.1)) && (a.2.1 == b.2.1)) = true) → allP [], (((decide (a.1 = b.1)) && (a.2.1 == b.2.1)) = true) → allP [((decide (a.1 = b.1)) && (a.2.1 == b.2.1)) = true], (((decide (a.1 = b.1)) && (a.2.1 == b.2.1)) = true) → allP [], (((decide (a.1 = b.1)) && (a.2.1 == b.2.1)) = true) → allP [((decide (a.1 = b.1)) && (a.2.1 == b.2.1)) = true], (((decide (a.1 = b.1)) && (a.2.1 == b.2.1)) = true) → allP [((decide (a.1 = b.1)) && (a.2.1 == b.2.1)) = true, ((decide (a.1 = b.1)) && (a.2.1 == b.2.1)) = true], ((decide (a.1 = b.1)) && (a.2.1 == b.2.1)) = true → allP [((decide (a.1 = b.1)) && (a.2.1 == b.2.1)) = true], ((((decide (a.1 = b.1)) && (a.2.1 == b.2.1)) && (decide (a.2.2.1 = b.2.2.1))) = true) → allP [], ((((decide (a.1 = b.1)) && (a.2.1 == b.2.1)) && (decide (a.2.2.1 = b.2.2.1))) = true) → allP [(((decide (a.1 = b.1)) && (a.2.1 == b.2.1)) && (decide (a.2.2.1 = b.2.2.1))) = true], ((((decide (a.1 = b.1)) && (a.2.1 == b.2.1)) && (decide (a.2.2.1 = b.2.2.1))) = true) → allP [], ((((decide (a.1 = b.1)) && (a.2.1 == b.2.1)) && (decide (a.2.2.1 = b.2.2.1))) = true) → allP [(((decide (a.1 = b.1)) && (a.2.1 == b.2.1)) && (decide (a.2.2.1 = b.2.2.1))) = true], ((((decide (a.1 = b.1)) && (a.2.1 == b.2.1)) && (decide (a.2.2.1 = b.2.2.1))) = true) → allP [(((decide (a.1 = b.1)) && (a.2.1 == b.2.1)) && (decide (a.2.2.1 = b.2.2.1))) = true, (((decide (a.1 = b.1)) && (a.2.1 == b.2.1)) && (decide (a.2.2.1 = b.2.2.1))) = true, Spec Tryd.prog 63 [tc (slR a.2.2.2), tc (slR b.2.2.2)] (ofH []) (vc (bo (decide (a.2.2.2 = b.2.2.2)))) (ofH [])], (((decide (a.1 = b.1)) && (a.2.1 == b.2.1)) && (decide (a.2.2.1 = b.2.2.1))) = true → allP [(((decide (a.1 = b.1)) && (a.2.1 == b.2.1)) && (decide (a.2.2.1 = b.2.2.1))) = true]] 31 [(4, vc (bo ((((decide (a.1 = b.1)) && (a.2.1 == b.2.1)) && (decide (a.2.2.1 = b.2.2.1))) && (decide (a.2.2.2 = b.2.2.2)))))] [] ⟨(fun _ => trivial), (fun hp => hp), (fun _ => trivial), (fun hp => hp), (fun hp => ⟨hp, hp⟩), (fun hp2 => (by first | exact hp2 | exact ⟨hp, hp2⟩)), (fun _ => trivial), (fun hp => hp), (fun _ => trivial), (fun hp => hp), (fun hp => ⟨hp, hp⟩), (fun hp2 => (by first | exact hp2 | exact ⟨hp, hp2⟩)), (fun _ => trivial), (fun hp => hp), (fun _ => trivial), (fun hp => hp), (fun hp => by have hq := hp; (try simp only [decide_eq_true_eq, decide_eq_false_iff_not, Bool.and_eq_true, Bool.or_eq_true, Bool.and_eq_false_iff, Bool.or_eq_false_iff, Bool.not_eq_true', Bool.not_eq_false', Bool.not_eq_true, Bool.not_eq_false] at hq); exact ⟨hp, hp, (EqualR_c a.2.2.2 b.2.2.2)⟩), (fun hp2 => (by first | exact hp2 | exact ⟨hp, hp2⟩))⟩ ?_
 exact gT (vc (bo ((((decide (a.1 = b.1)) && (a.2.1 == b.2.1)) && (decide (a.2.2.1 = b.2.2.1))) && (decide (a.2.2.2 = b.2.2.2))))) (by rw [show decide (a = b) = ((((decide (a.1 = b.1)) && (a.2.1 == b.2.1)) && (decide (a.2.2.1 = b.2.2.1))) && (decide (a.2.2.2 = b.2.2.2))) from same_eq a b])
theorem f22_body : Tryd.f22.body = some (.seq (.region 0 (rg Tryd.f22 0) false) (.seq (.region 1 (rg Tryd.f22 1) false) (.seq (.seq (.region 2 (rg Tryd.f22 2) false) (.block 0 (.loop (.seq (.seq (.region 3 (rg Tryd.f22 3) false) (.cond (.tmp 16) (.skip) (.exit 0))) (.seq (.block 1 (.region 5 (rg Tryd.f22 5) true)) (.region 4 (rg Tryd.f22 4) false)))))) (.seq (.region 6 (rg Tryd.f22 6) false) (.ret))))) := by kernel_rfl
set_option maxRecDepth 100000 in
set_option maxHeartbeats 8000000 in
theorem Own_c (s : Sec) (hb : s.2.2.2.length ≤ 1000) : Pure Tryd.prog 22 [TV.agg [.s (i6 s.1), .s (bo s.2.1), .s (i6 s.2.2.1), .s (slR s.2.2.2)]] (AV.t (TV.agg [.s (i6 s.1), .s (bo s.2.1), .s (i6 s.2.2.1), .s (slR s.2.2.2)])) := by
 refine Pure.of_body Tryd.func22 f22_body (by kernel_rfl) Tryd.ntmps22 (by kernel_rfl) (by kernel_rfl) ?_
 refine gS [] [] 30 [(1, vp 1 0), (2, vp 2 0)] [(1, AObj.row [.s (i6 s.1), .s (bo s.2.1), .s (i6 s.2.2.1), .s (slR s.2.2.2)]), (2, AObj.row [.s (i6 0), .s (bo false), .s (i6 0), .s (SC.nilsl)])] trivial ?_
 refine gS [] [] 30 [(1, vp 1 0), (2, vp 2 0), (3, vp 3 0)] [(1, AObj.row [.s (i6 s.1), .s (bo s.2.1), .s (i6 s.2.2.1), .s (slR s.2.2.2)]), (2, AObj.row [.s (i6 0), .s (bo false), .s (i6 0), .s (SC.nilsl)]), (3, AObj.row [.s (i6 s.1), .s (bo s.2.1), .s (i6 s.2.2.1), .s (SC.nilsl)])] trivial ?_
 refine gQ ?_
 refine gS [] [] 30 [(1, vp 1 0), (2, vp 2 0), (3, vp 3 0), (4, vc (i6 0))] [(1, AObj.row [.s (i6 s.1), .s (bo s.2.1), .s (i6 s.2.2.1), .s (slR s.2.2.2)]), (2, AObj.row [.s (i6 0), .s (bo false), .s (i6 0), .s (SC.nilsl)]), (3, AObj.row [.s (i6 s.1), .s (bo s.2.1), .s (i6 s.2.2.1), .s (SC.nilsl)])] trivial ?_
 refine AMx.block ?_
 refine AMx.ent (ent_adoptO 3 19 [.s (i6 s.1), .s (bo s.2.1), .s (i6 s.2.2.1)] [] 91 3 RowV (0, false, false) rowR (by kernel_rfl) (by kernel_rfl) (by kernel_rfl) (by kernel_rfl)) ?_
 refine AMx.ent (s' := AS.lst 30 [(1, vp 1 0), (2, vp 2 0), (3, vp 3 0), (4, vc (i6 0))] [(1, AObj.row [.s (i6 s.1), .s (bo s.2.1), .s (i6 s.2.2.1), .s (slR s.2.2.2)]), (2, AObj.row [.s (i6 0), .s (bo false), .s (i6 0), .s (SC.nilsl)]), (3, AObj.row [.s (i6 s.1), .s (bo s.2.1), .s (i6 s.2.2.1), .own 19]), (19, AObj.grow 91 3 RowV (0, false, false) rowR [])]) (ent_proj [1, 2, 3, 4] [1, 2, 3, 19]) ?_
 refine AMx.ent (s' := AS.lst 30 [(1, vp 1 0), (2, vp 2 0), (3, vp 3 0), (4, vc (i6 0))] [(1, AObj.row [.s (i6 s.1), .s (bo s.2.1), .s (i6 s.2.2.1), .s (slR s.2.2.2)]), (2, AObj.row [.s (i6 0), .s (bo false), .s (i6 0), .s (SC.nilsl)]), (3, AObj.row [.s (i6 s.1), .s (bo s.2.1), .s (i6 s.2.2.1), .own 19]), (19, AObj.grow 91 3 RowV (0, false, false) rowR [])]) (ent_proj [1, 2, 3, 4] [1, 2, 3, 19]) ?_
 refine AMx.loop (fun mm ss => ∃ (i : Nat), (i ≤ s.2.2.2.length) ∧ mm = s.2.2.2.length - i ∧ ss = AS.lst 30 [(1, vp 1 0), (2, vp 2 0), (3, vp 3 0), (4, vc (i6 (i : Int)))] [(1, AObj.row [.s (i6 s.1), .s (bo s.2.1), .s (i6 s.2.2.1), .s (slR s.2.2.2)]), (2, AObj.row [.s (i6 0), .s (bo false), .s (i6 0), .s (SC.nilsl)]), (3, AObj.row [.s (i6 s.1), .s (bo s.2.1), .s (i6 s.2.2.1), .own 19]), (19, AObj.grow 91 3 RowV (0, false, false) rowR (List.take i s.2.2.2))]) ⟨0, ?_, rfl, ?_⟩ ?_
 · omega
 · rfl
 rintro mm ss ⟨i, hI, rfl, rfl⟩
 refine gQ ?_
 refine gS [] [] 30 [(1, vp 1 0), (2, vp 2 0), (3, vp 3 0), (4, vc (i6 (i : Int))), (16, vc (bo (decide ((i : Int) < (List.length s.2.2.2 : Int)))))] [(1, AObj.row [.s (i6 s.1), .s (bo s.2.1), .s (i6 s.2.2.1), .s (slR s.2.2.2)]), (2, AObj.row [.s (i6 0), .s (bo false), .s (i6 0), .s (SC.nilsl)]), (3, AObj.row [.s (i6 s.1), .s (bo s.2.1), .s (i6 s.2.2.1), .own 19]), (19, AObj.grow 91 3 RowV (0, false, false) rowR (List.take i s.2.2.2))] trivial ?_
 refine gC ((i : Int) < (List.length s.2.2.2 : Int)) (fun hc1 => ?_) fun hc1 => ?_
 ·
  refine AMx.skip ?_
  refine gQ ?_
  refine AMx.block ?_
  refine gX [(7, CE.obj (AObj.grow 91 3 RowV (0, false, false) rowR [(List.getD s.2.2.2 i (0, false, false))])), (8, CE.obj (AObj.grow 91 3 RowV (0, false, false) rowR ((List.take i s.2.2.2) ++ [(List.getD s.2.2.2 i (0, false, false))])))] [(1, [3]), (3, [1]), (8, [19, 26]), (10, [3])] [(0 : Int) ≤ (i : Int), (i : Int) < List.length s.2.2.2, flat 3 rowR [(List.getD s.2.2.2 i (0, false, false))] = [.s (i6 ((List.getD s.2.2.2 i (0, false, false)).1)), .s (bo ((List.getD s.2.2.2 i (0, false, false)).2.1)), .s (bo ((List.getD s.2.2.2 i (0, false, false)).2.2))], List.length ([(List.getD s.2.2.2 i (0, false, false))] : List RowV) = 1, AppC (flat 3 rowR [(List.getD s.2.2.2 i (0, false, false))]) (List.length ([(List.getD s.2.2.2 i (0, false, false))] : List RowV)) 16 (AObj.grow 91 3 RowV (0, false, false) rowR (List.take i s.2.2.2)) (AObj.grow 91 3 RowV (0, false, false) rowR ((List.take i s.2.2.2) ++ [(List.getD s.2.2.2 i (0, false, false))]))] 30 [(1, vp 1 0), (2, vp 2 0), (3, vp 3 0), (4, vc (i6 (i : Int)))] [(1, AObj.row [.s (i6 s.1), .s (bo s.2.1), .s (i6 s.2.2.1), .s (slR s.2.2.2)]), (2, AObj.row [.s (i6 0), .s (bo false), .s (i6 0), .s (SC.nilsl)]), (3, AObj.row [.s (i6 s.1), .s (bo s.2.1), .s (i6 s.2.2.1), .own 27]), (27, AObj.grow 91 3 RowV (0, false, false) rowR ((List.take i s.2.2.2) ++ [(List.getD s.2.2.2 i (0, false, false))]))] mixed ⟨(show (0 : Int) ≤ (i : Int) from (by omega)), (show (i : Int) < List.length s.2.2.2 from (by omega)), rfl, rfl, (⟨_, rfl, rfl, rfl, by simp only [List.length_take, List.length_cons, List.length_nil]; omega, by simp only [maxLen, List.length_take, List.length_cons, List.length_nil]; omega⟩)⟩ ?_
  refine AMx.blk ?_
  refine gR [] [InR .i64 ((i : Int) + 1)] 30 [(1, vp 1 0), (2, vp 2 0), (3, vp 3 0), (4, vc (i6 ((i : Int) + 1)))] [(1, AObj.row [.s (i6 s.1), .s (bo s.2.1), .s (i6 s.2.2.1), .s (slR s.2.2.2)]), (2, AObj.row [.s (i6 0), .s (bo false), .s (i6 0), .s (SC.nilsl)]), (3, AObj.row [.s (i6 s.1), .s (bo s.2.1), .s (i6 s.2.2.1), .own 27]), (27, AObj.grow 91 3 RowV (0, false, false) rowR ((List.take i s.2.2.2) ++ [(List.getD s.2.2.2 i (0, false, false))]))] (show InR .i64 ((i : Int) + 1) from (inR64 (by omega) (by omega))) ?_
  refine AMx.ent_inv (s' := AS.lst 30 [(1, vp 1 0), (2, vp 2 0), (3, vp 3 0), (4, vc (i6 ((i : Int) + 1)))] [(1, AObj.row [.s (i6 s.1), .s (bo s.2.1), .s (i6 s.2.2.1), .s (slR s.2.2.2)]), (2, AObj.row [.s (i6 0), .s (bo false), .s (i6 0), .s (SC.nilsl)]), (3, AObj.row [.s (i6 s.1), .s (bo s.2.1), .s (i6 s.2.2.1), .own 19]), (19, AObj.grow 91 3 RowV (0, false, false) rowR ((List.take i s.2.2.2) ++ [(List.getD s.2.2.2 i (0, false, false))]))]) (ent_swap 27 19 (by kernel_rfl) (by kernel_rfl)) ?_
  refine AMx.ent_inv (s' := AS.lst 30 [(1, vp 1 0), (2, vp 2 0), (3, vp 3 0), (4, vc (i6 ((i : Int) + 1)))] [(1, AObj.row [.s (i6 s.1), .s (bo s.2.1), .s (i6 s.2.2.1), .s (slR s.2.2.2)]), (2, AObj.row [.s (i6 0), .s (bo false), .s (i6 0), .s (SC.nilsl)]), (3, AObj.row [.s (i6 s.1), .s (bo s.2.1), .s (i6 s.2.2.1), .own 19]), (19, AObj.grow 91 3 RowV (0, false, false) rowR ((List.take i s.2.2.2) ++ [(List.getD s.2.2.2 i (0, false, false))]))]) (ent_proj [1, 2, 3, 4] [1, 2, 3, 19]) ?_
  refine AMx.inv ⟨_, ?_, i + 1, ?_, rfl, ?_⟩
  rotate_left
  · omega
  · rw [Lib.take_succ (0, false, false) s.2.2.2 i (by omega)]; rfl
  · omega
 ·
  refine AMx.exit ?_
  refine AMx.code_exit ?_
  refine AMx.inv_exit ?_
  refine AMx.blk_exit ?_
  refine gS [] [] 30 [(2, vp 2 0)] [(2, AObj.row [.s (i6 s.1), .s (bo s.2.1), .s (i6 s.2.2.1), .own 19]), (19, AObj.grow 91 3 RowV (0, false, false) rowR (List.take i s.2.2.2))] trivial ?_
  refine AMx.ent (s' := AS.lst 30 [(2, vp 2 0)] [(2, AObj.row [.s (i6 s.1), .s (bo s.2.1), .s (i6 s.2.2.1), .s (slR (List.take i s.2.2.2))])]) (ent_freeze (id := 19) (T := 91) (by kernel_rfl)) ?_
  exact gT (AV.t (TV.agg [.s (i6 s.1), .s (bo s.2.1), .s (i6 s.2.2.1), .s (slR (List.take i s.2.2.2))])) (by rw [List.take_of_length_le (by omega)])
end AL.Secret
namespace AL.Reply
open Go Go.Proofs AL
set_option linter.unusedVariables false
set_option linter.unusedSimpArgs false
theorem f32_body : Tryd.f32.body = some (.seq (.region 0 (rg Tryd.f32 0) false) (.seq (.region 1 (rg Tryd.f32 1) false) (.ret))) := by kernel_rfl
set_option maxRecDepth 100000 in
set_option maxHeartbeats 8000000 in
theorem name_c (s : Bytes) : Pure Tryd.prog 32 [tc (st s)] (vc (bo (nameS s))) := by
 refine Pure.of_body Tryd.func32 f32_body (by kernel_rfl) Tryd.ntmps32 (by kernel_rfl) (by kernel_rfl) ?_
 refine gS [] [] 24 [(0, vc (st s))] [] trivial ?_
 refine gS [(13, CE.call [] [] (vc (bo (decide (0 ≤ Go.Lib.indexByte s 32)))) []), (18, CE.call [] [] (vc (bo (decide (0 ≤ Go.Lib.indexByte s 44)))) [])] [((!decide (s = [])) = true) → allP [], ((!decide (s = [])) = true) → allP [(!decide (s = [])) = true], (!decide (s = [])) = true → allP [(!decide (s = [])) = true], (((!decide (s = [])) && (!decide (s = [45]))) = true) → allP [], (((!decide (s = [])) && (!decide (s = [45]))) = true) → allP [((!decide (s = [])) && (!decide (s = [45]))) = true], (((!decide (s = [])) && (!decide (s = [45]))) = true) → allP [((!decide (s = [])) && (!decide (s = [45]))) = true], ((!decide (s = [])) && (!decide (s = [45]))) = true → allP [((!decide (s = [])) && (!decide (s = [45]))) = true], ((((!decide (s = [])) && (!decide (s = [45]))) && (decide ((List.length s : Int) ≤ 64))) = true) → allP [], ((((!decide (s = [])) && (!decide (s = [45]))) && (decide ((List.length s : Int) ≤ 64))) = true) → allP [(((!decide (s = [])) && (!decide (s = [45]))) && (decide ((List.length s : Int) ≤ 64))) = true, Spec Tryd.prog 61 [tc (st s), tc (st [32])] (ofH []) (vc (bo (decide (0 ≤ Go.Lib.indexByte s 32)))) (ofH [])], ((((!decide (s = [])) && (!decide (s = [45]))) && (decide ((List.length s : Int) ≤ 64))) = true) → allP [(((!decide (s = [])) && (!decide (s = [45]))) && (decide ((List.length s : Int) ≤ 64))) = true], (((!decide (s = [])) && (!decide (s = [45]))) && (decide ((List.length s : Int) ≤ 64))) = true → allP [(((!decide (s = [])) && (!decide (s = [45]))) && (decide ((List.length s : Int) ≤ 64))) = true], (((((!decide (s = [])) && (!decide (s = [45]))) && (decide ((List.length s : Int) ≤ 64))) && (!(decide (0 ≤ Go.Lib.indexByte s 32)))) = true) → allP [], (((((!decide (s = [])) && (!decide (s = [45]))) && (decide ((List.length s : Int) ≤ 64))) && (!(decide (0 ≤ Go.Lib.indexByte s 32)))) = true) → allP [((((!decide (s = [])) && (!decide (s = [45]))) && (decide ((List.length s : Int) ≤ 64))) && (!(decide (0 ≤ Go.Lib.indexByte s 32)))) = true, Spec Tryd.prog 61 [tc (st s), tc (st [44])] (ofH []) (vc (bo (decide (0 ≤ Go.Lib.indexByte s 44)))) (ofH [])], (((((!decide (s = [])) && (!decide (s = [45]))) && (decide ((List.length s : Int) ≤ 64))) && (!(decide (0 ≤ Go.Lib.indexByte s 32)))) = true) → allP [((((!decide (s = [])) && (!decide (s = [45]))) && (decide ((List.length s : Int) ≤ 64))) && (!(decide (0 ≤ Go.Lib.indexByte s 32)))) = true], ((((!decide (s = [])) && (!decide (s = [45]))) && (decide ((List.length s : Int) ≤ 64))) && (!(decide (0 ≤ Go.Lib.indexByte s 32)))) = true → allP [((((!decide (s = [])) && (!decide (s = [45]))) && (decide ((List.length s : Int) ≤ 64))) && (!(decide (0 ≤ Go.Lib.indexByte s 32)))) = true]] 24 [(2, vc (bo (((((!decide (s = [])) && (!decide (s = [45]))) && (decide ((List.length s : Int) ≤ 64))) && (!(decide (0 ≤ Go.Lib.indexByte s 32)))) && (!(decide (0 ≤ Go.Lib.indexByte s 44))))))] [] ⟨(fun _ => trivial), (fun hp => hp), (fun hp2 => (by first | exact hp2 | exact ⟨hp, hp2⟩)), (fun _ => trivial), (fun hp => hp), (fun hp => hp), (fun hp2 => (by first | exact hp2 | exact ⟨hp, hp2⟩)), (fun _ => trivial), (fun hp => by have hq := hp; (try simp only [decide_eq_true_eq, decide_eq_false_iff_not, Bool.and_eq_true, Bool.or_eq_true, Bool.and_eq_false_iff, Bool.or_eq_false_iff, Bool.not_eq_true', Bool.not_eq_false', Bool.not_eq_true, Bool.not_eq_false] at hq); exact ⟨hp, (Contains_c 32 s)⟩), (fun hp => hp), (fun hp2 => (by first | exact hp2 | exact ⟨hp, hp2⟩)), (fun _ => trivial), (fun hp => by have hq := hp; (try simp only [decide_eq_true_eq, decide_eq_false_iff_not, Bool.and_eq_true, Bool.or_eq_true, Bool.and_eq_false_iff, Bool.or_eq_false_iff, Bool.not_eq_true', Bool.not_eq_false', Bool.not_eq_true, Bool.not_eq_false] at hq); exact ⟨hp, (Contains_c 44 s)⟩), (fun hp => hp), (fun hp2 => (by first | exact hp2 | exact ⟨hp, hp2⟩))⟩ ?_
 exact gT (vc (bo (((((!decide (s = [])) && (!decide (s = [45]))) && (decide ((List.length s : Int) ≤ 64))) && (!(decide (0 ≤ Go.Lib.indexByte s 32)))) && (!(decide (0 ≤ Go.Lib.indexByte s 44)))))) rfl
theorem f31_body : Tryd.f31.body = some (.seq (.region 0 (rg Tryd.f31 0) false) (.seq (.region 1 (rg Tryd.f31 1) false) (.ret))) := by kernel_rfl
set_option maxRecDepth 100000 in
set_option maxHeartbeats 8000000 in
theorem nameC_c (s : Bytes) : Pure Tryd.prog 31 [tc (st s)] (vc (bo (!(nameS s)))) := by
 refine Pure.of_body Tryd.func31 f31_body (by kernel_rfl) Tryd.ntmps31 (by kernel_rfl) (by kernel_rfl) ?_
 refine gS [] [] 6 [(0, vc (st s))] [] trivial ?_
 refine gS [(1, CE.call [] [] (vc (bo (nameS s))) [])] [Spec Tryd.prog 32 [tc (st s)] (ofH []) (vc (bo (nameS s))) (ofH [])] 6 [(2, vc (bo (!(nameS s))))] [] (name_c s) ?_
 exact gT (vc (bo (!(nameS s)))) rfl
theorem f37_body : Tryd.f37.body = some (.seq (.region 0 (rg Tryd.f37 0) false) (.seq (.seq (.region 1 (rg Tryd.f37 1) false) (.cond (.tmp 10) (.seq (.region 2 (rg Tryd.f37 2) false) (.ret)) (.skip))) (.seq (.seq (.region 3 (rg Tryd.f37 3) false) (.block 0 (.loop (.seq (.region 4 (rg Tryd.f37 4) false) (.seq (.cond (.tmp 14) (.skip) (.exit 0)) (.seq (.block 1 (.seq (.region 5 (rg Tryd.f37 5) false) (.seq (.region 6 (rg Tryd.f37 6) true) (.cond (.tmp 24) (.seq (.region 7 (rg Tryd.f37 7) false) (.ret)) (.skip))))) (.region 8 (rg Tryd.f37 8) false))))))) (.seq (.region 9 (rg Tryd.f37 9) false) (.ret))))) := by kernel_rfl
set_option maxRecDepth 100000 in
set_option maxHeartbeats 8000000 in
theorem EqualT_c (a b : List Bytes) : Pure Tryd.prog 37 [tc (AL.Fnv.slS a), tc (AL.Fnv.slS b)] (vc (bo (decide (a = b)))) := by
 refine Pure.of_body Tryd.func37 f37_body (by kernel_rfl) Tryd.ntmps37 (by kernel_rfl) (by kernel_rfl) ?_
 refine AMx.sl 0 (l := a) rfl (fun hl => ?_)
 simp only [maxLen] at hl
 refine gS [] [] 26 [(0, vc (AL.Fnv.slS a)), (1, vc (AL.Fnv.slS b))] [] trivial ?_
 refine gQ ?_
 refine gS [] [] 26 [(0, vc (AL.Fnv.slS a)), (1, vc (AL.Fnv.slS b)), (10, vc (bo (!decide ((List.length a : Int) = (List.length b : Int)))))] [] trivial ?_
 refine gN ((List.length a : Int) = (List.length b : Int)) (fun hc1 => ?_) fun hc1 => ?_
 ·
  refine gS [] [] 26 [(4, vc (bo false))] [] trivial ?_
  exact gT (vc (bo false)) (by rw [decide_eq_false (fun h => by subst h; simp_all)])
 ·
  refine AMx.skip ?_
  refine gQ ?_
  refine gS [] [] 26 [(0, vc (AL.Fnv.slS a)), (1, vc (AL.Fnv.slS b)), (12, vc (i6 (List.length a : Int))), (13, vc (i6 0))] [] trivial ?_
  refine AMx.block ?_
  refine AMx.ent (s' := AS.lst 26 [(0, vc (AL.Fnv.slS a)), (1, vc (AL.Fnv.slS b)), (12, vc (i6 (List.length a : Int))), (13, vc (i6 0))] []) (ent_proj [0, 1, 12, 13] []) ?_
  refine AMx.loop (fun mm ss => ∃ (i : Nat), (i ≤ a.length ∧ List.take i a = List.take i b) ∧ mm = a.length - i ∧ ss = AS.lst 26 [(0, vc (AL.Fnv.slS a)), (1, vc (AL.Fnv.slS b)), (12, vc (i6 (List.length a : Int))), (13, vc (i6 (i : Int)))] []) ⟨0, ?_, rfl, ?_⟩ ?_
  · exact ⟨by omega, rfl⟩
  · rfl
  rintro mm ss ⟨i, ⟨hI, hE⟩, rfl, rfl⟩
  refine gS [] [] 26 [(0, vc (AL.Fnv.slS a)), (1, vc (AL.Fnv.slS b)), (12, vc (i6 (List.length a : Int))), (13, vc (i6 (i : Int))), (14, vc (bo (decide ((i : Int) < (List.length a : Int)))))] [] trivial ?_
  refine gQ ?_
  refine gC ((i : Int) < (List.length a : Int)) (fun hc2 => ?_) fun hc2 => ?_
  ·
   refine AMx.skip ?_
   refine gQ ?_
   refine AMx.block ?_
   refine gS [] [] 26 [(0, vc (AL.Fnv.slS a)), (1, vc (AL.Fnv.slS b)), (5, vc (i6 (i : Int))), (12, vc (i6 (List.length a : Int))), (13, vc (i6 (i : Int)))] [] trivial ?_
   refine gY [] [] [(0 : Int) ≤ (i : Int), (i : Int) < List.length a, (0 : Int) ≤ (i : Int), (i : Int) < List.length b] 26 [(0, vc (AL.Fnv.slS a)), (1, vc (AL.Fnv.slS b)), (12, vc (i6 (List.length a : Int))), (13, vc (i6 (i : Int))), (24, vc (bo (!decide ((List.getD a i []) = (List.getD b i [])))))] [] mixed ⟨(show (0 : Int) ≤ (i : Int) from (by omega)), (show (i : Int) < List.length a from (by omega)), (show (0 : Int) ≤ (i : Int) from (by omega)), (show (i : Int) < List.length b from (by omega))⟩ ?_
   refine gN ((List.getD a i []) = (List.getD b i [])) (fun hc3 => ?_) fun hc3 => ?_
   ·
    refine gS [] [] 26 [(4, vc (bo false))] [] trivial ?_
    exact gT (vc (bo false)) (by rw [decide_eq_false (fun h => by subst h; simp_all)])
   ·
    refine AMx.skip ?_
    refine AMx.blk ?_
    refine gR [] [InR .i64 ((i : Int) + 1)] 26 [(0, vc (AL.Fnv.slS a)), (1, vc (AL.Fnv.slS b)), (12, vc (i6 (List.length a : Int))), (13, vc (i6 ((i : Int) + 1)))] [] (show InR .i64 ((i : Int) + 1) from (inR64 (by omega) (by omega))) ?_
    refine AMx.ent_inv (s' := AS.lst 26 [(0, vc (AL.Fnv.slS a)), (1, vc (AL.Fnv.slS b)), (12, vc (i6 (List.length a : Int))), (13, vc (i6 ((i : Int) + 1)))] []) (ent_proj [0, 1, 12, 13] []) ?_
    refine AMx.inv ⟨_, ?_, i + 1, ?_, rfl, ?_⟩
    rotate_left
    · exact ⟨by omega, Lib.same_step [] a b i (by omega) (by omega) hE (by assumption)⟩
    · rfl
    · omega
  ·
   refine AMx.exit ?_
   refine AMx.code_exit ?_
   refine AMx.inv_exit ?_
   refine AMx.blk_exit ?_
   refine gS [] [] 26 [(4, vc (bo true))] [] trivial ?_
   exact gT (vc (bo true)) (by rw [decide_eq_true (Lib.same_end a b i (by omega) (by omega) hE)])
theorem f60_body : Tryd.f60.body = some (.seq (.region 0 (rg Tryd.f60 0) false) (.seq (.seq (.region 1 (rg Tryd.f60 1) false) (.block 0 (.loop (.seq (.region 2 (rg Tryd.f60 2) false) (.seq (.cond (.tmp 9) (.skip) (.exit 0)) (.seq (.block 1 (.seq (.region 3 (rg Tryd.f60 3) false) (.seq (.region 4 (rg Tryd.f60 4) false) (.cond (.tmp 16) (.seq (.region 5 (rg Tryd.f60 5) false) (.ret)) (.skip))))) (.region 6 (rg Tryd.f60 6) false))))))) (.seq (.region 7 (rg Tryd.f60 7) false) (.ret)))) := by kernel_rfl
set_option maxRecDepth 100000 in
set_option maxHeartbeats 8000000 in
theorem IndexT_c (f : FuncId) (caps : List Cap) (p : Bytes → Bool) (hf : ∀ x : Bytes, Pure Tryd.prog f ([tc (st x)] ++ List.map capT caps) (vc (bo (p x)))) (l : List Bytes) : Pure Tryd.prog 60 [tc (AL.Fnv.slS l), TV.c (.fn f caps)] (vc (i6 (Lib.idxS p l))) := by
 refine Pure.of_body Tryd.func60 f60_body (by kernel_rfl) Tryd.ntmps60 (by kernel_rfl) (by kernel_rfl) ?_
 refine AMx.sl 0 (l := l) rfl (fun hl => ?_)
 simp only [maxLen] at hl
 refine gS [] [] 19 [(0, vc (AL.Fnv.slS l)), (1, AV.t (TV.c (.fn f caps)))] [] trivial ?_
 refine gQ ?_
 refine gS [] [] 19 [(0, vc (AL.Fnv.slS l)), (1, AV.t (TV.c (.fn f caps))), (7, vc (i6 (List.length l : Int))), (8, vc (i6 0))] [] trivial ?_
 refine AMx.block ?_
 refine AMx.ent (s' := AS.lst 19 [(0, vc (AL.Fnv.slS l)), (1, AV.t (TV.c (.fn f caps))), (7, vc (i6 (List.length l : Int))), (8, vc (i6 0))] []) (ent_proj [0, 1, 7, 8] []) ?_
 refine AMx.loop (fun mm ss => ∃ (k : Nat), (k ≤ l.length ∧ ∀ x ∈ List.take k l, p x = false) ∧ mm = l.length - k ∧ ss = AS.lst 19 [(0, vc (AL.Fnv.slS l)), (1, AV.t (TV.c (.fn f caps))), (7, vc (i6 (List.length l : Int))), (8, vc (i6 (k : Int)))] []) ⟨0, ?_, rfl, ?_⟩ ?_
 · exact ⟨by omega, fun x hx => by simp at hx⟩
 · rfl
 rintro mm ss ⟨k, ⟨hI, hN⟩, rfl, rfl⟩
 refine gS [] [] 19 [(0, vc (AL.Fnv.slS l)), (1, AV.t (TV.c (.fn f caps))), (7, vc (i6 (List.length l : Int))), (8, vc (i6 (k : Int))), (9, vc (bo (decide ((k : Int) < (List.length l : Int)))))] [] trivial ?_
 refine gQ ?_
 refine gC ((k : Int) < (List.length l : Int)) (fun hc1 => ?_) fun hc1 => ?_
 ·
  refine AMx.skip ?_
  refine gQ ?_
  refine AMx.block ?_
  refine gS [] [] 19 [(0, vc (AL.Fnv.slS l)), (1, AV.t (TV.c (.fn f caps))), (5, vc (i6 (k : Int))), (7, vc (i6 (List.length l : Int))), (8, vc (i6 (k : Int)))] [] trivial ?_
  refine gS [(5, CE.call [] [] (vc (bo (p (List.getD l k [])))) [])] [(0 : Int) ≤ (k : Int), (k : Int) < List.length l, Spec Tryd.prog f ([tc (st (List.getD l k []))] ++ List.map capT caps) (ofH []) (vc (bo (p (List.getD l k [])))) (ofH [])] 19 [(0, vc (AL.Fnv.slS l)), (1, AV.t (TV.c (.fn f caps))), (5, vc (i6 (k : Int))), (7, vc (i6 (List.length l : Int))), (8, vc (i6 (k : Int))), (16, vc (bo (p (List.getD l k []))))] [] ⟨(show (0 : Int) ≤ (k : Int) from (by omega)), (show (k : Int) < List.length l from (by omega)), (hf (List.getD l k []))⟩ ?_
  refine gB (p (List.getD l k [])) (fun hc2 => ?_) fun hc2 => ?_
  ·
   try simp only [xT, xF] at hc2
   refine gS [] [] 19 [(4, vc (i6 (k : Int)))] [] trivial ?_
   exact gT (vc (i6 (k : Int))) (by rw [Lib.idx_hit [] l k (by omega) hN (by assumption)])
  ·
   try simp only [xT, xF] at hc2
   refine AMx.skip ?_
   refine AMx.blk ?_
   refine gR [] [InR .i64 ((k : Int) + 1)] 19 [(0, vc (AL.Fnv.slS l)), (1, AV.t (TV.c (.fn f caps))), (7, vc (i6 (List.length l : Int))), (8, vc (i6 ((k : Int) + 1)))] [] (show InR .i64 ((k : Int) + 1) from (inR64 (by omega) (by omega))) ?_
   refine AMx.ent_inv (s' := AS.lst 19 [(0, vc (AL.Fnv.slS l)), (1, AV.t (TV.c (.fn f caps))), (7, vc (i6 (List.length l : Int))), (8, vc (i6 ((k : Int) + 1)))] []) (ent_proj [0, 1, 7, 8] []) ?_
   refine AMx.inv ⟨_, ?_, k + 1, ?_, rfl, ?_⟩
   rotate_left
   · exact ⟨by omega, Lib.all_step [] l k (by omega) hN (by assumption)⟩
   · rfl
   · omega
 ·
  refine AMx.exit ?_
  refine AMx.code_exit ?_
  refine AMx.inv_exit ?_
  refine AMx.blk_exit ?_
  refine gS [] [] 19 [(4, vc (i6 (-1)))] [] trivial ?_
  exact gT (vc (i6 (-1))) (by rw [Lib.idx_none (fun x hx => hN x (by rwa [List.take_of_length_le (by omega)]))])
theorem f30_body : Tryd.f30.body = some (.seq (.region 0 (rg Tryd.f30 0) false) (.seq (.region 1 (rg Tryd.f30 1) false) (.ret))) := by kernel_rfl
set_option maxRecDepth 100000 in
set_option maxHeartbeats 8000000 in
theorem ContainsT_c (f : FuncId) (caps : List Cap) (p : Bytes → Bool) (hf : ∀ x : Bytes, Pure Tryd.prog f ([tc (st x)] ++ List.map capT caps) (vc (bo (p x)))) (l : List Bytes) : Pure Tryd.prog 30 [tc (AL.Fnv.slS l), TV.c (.fn f caps)] (vc (bo (decide (0 ≤ Lib.idxS p l)))) := by
 refine Pure.of_body Tryd.func30 f30_body (by kernel_rfl) Tryd.ntmps30 (by kernel_rfl) (by kernel_rfl) ?_
 refine gS [] [] 9 [(0, vc (AL.Fnv.slS l)), (1, AV.t (TV.c (.fn f caps)))] [] trivial ?_
 refine gS [(2, CE.call [] [] (vc (i6 (Lib.idxS p l))) [])] [Spec Tryd.prog 60 [tc (AL.Fnv.slS l), TV.c (.fn f caps)] (ofH []) (vc (i6 (Lib.idxS p l))) (ofH [])] 9 [(4, vc (bo (decide (0 ≤ Lib.idxS p l))))] [] (IndexT_c f caps p hf l) ?_
 exact gT (vc (bo (decide (0 ≤ Lib.idxS p l)))) rfl
theorem f28_body : Tryd.f28.body = some (.seq (.region 0 (rg Tryd.f28 0) false) (.seq (.seq (.region 1 (rg Tryd.f28 1) false) (.block 0 (.seq (.region 2 (rg Tryd.f28 2) false) (.cond (.tmp 5) (.seq (.region 3 (rg Tryd.f28 3) false) (.ret)) (.seq (.region 4 (rg Tryd.f28 4) false) (.cond (.tmp 12) (.seq (.region 5 (rg Tryd.f28 5) false) (.ret)) (.seq (.region 6 (rg Tryd.f28 6) false) (.cond (.tmp 19) (.seq (.region 7 (rg Tryd.f28 7) false) (.ret)) (.seq (.region 8 (rg Tryd.f28 8) false) (.cond (.tmp 28) (.seq (.region 9 (rg Tryd.f28 9) false) (.ret)) (.seq (.region 10 (rg Tryd.f28 10) false) (.cond (.tmp 35) (.seq (.region 11 (rg Tryd.f28 11) false) (.ret)) (.seq (.region 12 (rg Tryd.f28 12) false) (.cond (.tmp 42) (.seq (.region 13 (rg Tryd.f28 13) false) (.ret)) (.skip))))))))))))))) (.seq (.region 14 (rg Tryd.f28 14) false) (.ret)))) := by kernel_rfl
set_option maxRecDepth 100000 in
set_option maxHeartbeats 8000000 in
theorem parts_c (r : RepV) : Pure Tryd.prog 28 [TV.agg [.s (u8 r.kind), .s (i6 r.err), .s (i6 r.n), .s (st r.data), .s (AL.Fnv.slS r.names), .s (i6 r.sec.1), .s (bo r.sec.2.1), .s (i6 r.sec.2.2.1), .s (Secret.slR r.sec.2.2.2), .s (bo r.flag)]] (AV.t (TV.agg [.s (u8 ((partsS r).kind)), .s (i6 ((partsS r).err)), .s (i6 ((partsS r).n)), .s (st ((partsS r).data)), .s (AL.Fnv.slS ((partsS r).names)), .s (i6 (((partsS r).sec).1)), .s (bo (((partsS r).sec).2.1)), .s (i6 (((partsS r).sec).2.2.1)), .s (Secret.slR (((partsS r).sec).2.2.2)), .s (bo ((partsS r).flag))])) := by
 refine Pure.of_body Tryd.func28 f28_body (by kernel_rfl) Tryd.ntmps28 (by kernel_rfl) (by kernel_rfl) ?_
 refine gS [] [] 52 [(1, vp 1 0), (2, vp 2 0)] [(1, AObj.row [.s (u8 r.kind), .s (i6 r.err), .s (i6 r.n), .s (st r.data), .s (AL.Fnv.slS r.names), .s (i6 r.sec.1), .s (bo r.sec.2.1), .s (i6 r.sec.2.2.1), .s (Secret.slR r.sec.2.2.2), .s (bo r.flag)]), (2, AObj.row [.s (u8 0), .s (i6 0), .s (i6 0), .s (st []), .s (SC.nilsl), .s (i6 0), .s (bo false), .s (i6 0), .s (SC.nilsl), .s (bo false)])] trivial ?_
 refine gQ ?_
 refine gS [] [] 52 [(1, vp 1 0), (2, vp 2 0), (4, vc (u8 r.kind))] [(1, AObj.row [.s (u8 r.kind), .s (i6 r.err), .s (i6 r.n), .s (st r.data), .s (AL.Fnv.slS r.names), .s (i6 r.sec.1), .s (bo r.sec.2.1), .s (i6 r.sec.2.2.1), .s (Secret.slR r.sec.2.2.2), .s (bo r.flag)]), (2, AObj.row [.s (u8 0), .s (i6 0), .s (i6 0), .s (st []), .s (SC.nilsl), .s (i6 0), .s (bo false), .s (i6 0), .s (SC.nilsl), .s (bo false)])] trivial ?_
 refine AMx.block ?_
 refine gS [] [] 52 [(1, vp 1 0), (2, vp 2 0), (4, vc (u8 r.kind)), (5, vc (bo (decide (r.kind = 0))))] [(1, AObj.row [.s (u8 r.kind), .s (i6 r.err), .s (i6 r.n), .s (st r.data), .s (AL.Fnv.slS r.names), .s (i6 r.sec.1), .s (bo r.sec.2.1), .s (i6 r.sec.2.2.1), .s (Secret.slR r.sec.2.2.2), .s (bo r.flag)]), (2, AObj.row [.s (u8 0), .s (i6 0), .s (i6 0), .s (st []), .s (SC.nilsl), .s (i6 0), .s (bo false), .s (i6 0), .s (SC.nilsl), .s (bo false)])] trivial ?_
 refine gC (r.kind = 0) (fun hc1 => ?_) fun hc1 => ?_
 ·
  refine gS [] [] 52 [(2, vp 2 0)] [(2, AObj.row [.s (u8 r.kind), .s (i6 r.err), .s (i6 0), .s (st []), .s (SC.nilsl), .s (i6 0), .s (bo false), .s (i6 0), .s (SC.nilsl), .s (bo false)])] trivial ?_
  refine AMx.ent (ent_row 2 (l := [.s (u8 r.kind), .s (i6 r.err), .s (i6 0), .s (st []), .s (SC.nilsl), .s (i6 0), .s (bo false), .s (i6 0), .s (SC.nilsl), .s (bo false)]) (m := [.s (u8 r.kind), .s (i6 r.err), .s (i6 0), .s (st []), .s (AL.Fnv.slS []), .s (i6 0), .s (bo false), .s (i6 0), .s (Secret.slR []), .s (bo false)]) (by kernel_rfl) ⟨AC.le_rfl, AC.le_rfl, AC.le_rfl, AC.le_rfl, AC.le_nil, AC.le_rfl, AC.le_rfl, AC.le_rfl, AC.le_nil, AC.le_rfl, trivial⟩) ?_
  exact gT (AV.t (TV.agg [.s (u8 r.kind), .s (i6 r.err), .s (i6 0), .s (st []), .s (AL.Fnv.slS []), .s (i6 0), .s (bo false), .s (i6 0), .s (Secret.slR []), .s (bo false)])) (by rw [show partsS r = (⟨r.kind, r.err, 0, [], [], ((0, false, 0, []) : Secret.Sec), false⟩ : RepV) from by unfold partsS; grind])
 ·
  refine gS [] [] 52 [(1, vp 1 0), (2, vp 2 0), (4, vc (u8 r.kind)), (12, vc (bo (decide (r.kind = 2))))] [(1, AObj.row [.s (u8 r.kind), .s (i6 r.err), .s (i6 r.n), .s (st r.data), .s (AL.Fnv.slS r.names), .s (i6 r.sec.1), .s (bo r.sec.2.1), .s (i6 r.sec.2.2.1), .s (Secret.slR r.sec.2.2.2), .s (bo r.flag)]), (2, AObj.row [.s (u8 0), .s (i6 0), .s (i6 0), .s (st []), .s (SC.nilsl), .s (i6 0), .s (bo false), .s (i6 0), .s (SC.nilsl), .s (bo false)])] trivial ?_
  refine gC (r.kind = 2) (fun hc2 => ?_) fun hc2 => ?_
  ·
   refine gS [] [] 52 [(2, vp 2 0)] [(2, AObj.row [.s (u8 r.kind), .s (i6 0), .s (i6 r.n), .s (st []), .s (SC.nilsl), .s (i6 0), .s (bo false), .s (i6 0), .s (SC.nilsl), .s (bo false)])] trivial ?_
   refine AMx.ent (ent_row 2 (l := [.s (u8 r.kind), .s (i6 0), .s (i6 r.n), .s (st []), .s (SC.nilsl), .s (i6 0), .s (bo false), .s (i6 0), .s (SC.nilsl), .s (bo false)]) (m := [.s (u8 r.kind), .s (i6 0), .s (i6 r.n), .s (st []), .s (AL.Fnv.slS []), .s (i6 0), .s (bo false), .s (i6 0), .s (Secret.slR []), .s (bo false)]) (by kernel_rfl) ⟨AC.le_rfl, AC.le_rfl, AC.le_rfl, AC.le_rfl, AC.le_nil, AC.le_rfl, AC.le_rfl, AC.le_rfl, AC.le_nil, AC.le_rfl, trivial⟩) ?_
   exact gT (AV.t (TV.agg [.s (u8 r.kind), .s (i6 0), .s (i6 r.n), .s (st []), .s (AL.Fnv.slS []), .s (i6 0), .s (bo false), .s (i6 0), .s (Secret.slR []), .s (bo false)])) (by rw [show partsS r = (⟨r.kind, 0, r.n, [], [], ((0, false, 0, []) : Secret.Sec), false⟩ : RepV) from by unfold partsS; grind])
  ·
   refine gS [] [] 52 [(1, vp 1 0), (2, vp 2 0), (4, vc (u8 r.kind)), (19, vc (bo (decide (r.kind = 3))))] [(1, AObj.row [.s (u8 r.kind), .s (i6 r.err), .s (i6 r.n), .s (st r.data), .s (AL.Fnv.slS r.names), .s (i6 r.sec.1), .s (bo r.sec.2.1), .s (i6 r.sec.2.2.1), .s (Secret.slR r.sec.2.2.2), .s (bo r.flag)]), (2, AObj.row [.s (u8 0), .s (i6 0), .s (i6 0), .s (st []), .s (SC.nilsl), .s (i6 0), .s (bo false), .s (i6 0), .s (SC.nilsl), .s (bo false)])] trivial ?_
   refine gC (r.kind = 3) (fun hc3 => ?_) fun hc3 => ?_
   ·
    refine gS [] [] 52 [(2, vp 2 0)] [(2, AObj.row [.s (u8 r.kind), .s (i6 0), .s (i6 r.n), .s (st r.data), .s (SC.nilsl), .s (i6 0), .s (bo false), .s (i6 0), .s (SC.nilsl), .s (bo false)])] trivial ?_
    refine AMx.ent (ent_row 2 (l := [.s (u8 r.kind), .s (i6 0), .s (i6 r.n), .s (st r.data), .s (SC.nilsl), .s (i6 0), .s (bo false), .s (i6 0), .s (SC.nilsl), .s (bo false)]) (m := [.s (u8 r.kind), .s (i6 0), .s (i6 r.n), .s (st r.data), .s (AL.Fnv.slS []), .s (i6 0), .s (bo false), .s (i6 0), .s (Secret.slR []), .s (bo false)]) (by kernel_rfl) ⟨AC.le_rfl, AC.le_rfl, AC.le_rfl, AC.le_rfl, AC.le_nil, AC.le_rfl, AC.le_rfl, AC.le_rfl, AC.le_nil, AC.le_rfl, trivial⟩) ?_
    exact gT (AV.t (TV.agg [.s (u8 r.kind), .s (i6 0), .s (i6 r.n), .s (st r.data), .s (AL.Fnv.slS []), .s (i6 0), .s (bo false), .s (i6 0), .s (Secret.slR []), .s (bo false)])) (by rw [show partsS r = (⟨r.kind, 0, r.n, r.data, [], ((0, false, 0, []) : Secret.Sec), false⟩ : RepV) from by unfold partsS; grind])
   ·
    refine gS [] [] 52 [(1, vp 1 0), (2, vp 2 0), (4, vc (u8 r.kind)), (28, vc (bo (decide (r.kind = 4))))] [(1, AObj.row [.s (u8 r.kind), .s (i6 r.err), .s (i6 r.n), .s (st r.data), .s (AL.Fnv.slS r.names), .s (i6 r.sec.1), .s (bo r.sec.2.1), .s (i6 r.sec.2.2.1), .s (Secret.slR r.sec.2.2.2), .s (bo r.flag)]), (2, AObj.row [.s (u8 0), .s (i6 0), .s (i6 0), .s (st []), .s (SC.nilsl), .s (i6 0), .s (bo false), .s (i6 0), .s (SC.nilsl), .s (bo false)])] trivial ?_
    refine gC (r.kind = 4) (fun hc4 => ?_) fun hc4 => ?_
    ·
     refine gS [] [] 52 [(2, vp 2 0)] [(2, AObj.row [.s (u8 r.kind), .s (i6 0), .s (i6 0), .s (st []), .s (SC.nilsl), .s (i6 r.sec.1), .s (bo r.sec.2.1), .s (i6 r.sec.2.2.1), .s (Secret.slR r.sec.2.2.2), .s (bo false)])] trivial ?_
     refine AMx.ent (ent_row 2 (l := [.s (u8 r.kind), .s (i6 0), .s (i6 0), .s (st []), .s (SC.nilsl), .s (i6 r.sec.1), .s (bo r.sec.2.1), .s (i6 r.sec.2.2.1), .s (Secret.slR r.sec.2.2.2), .s (bo false)]) (m := [.s (u8 r.kind), .s (i6 0), .s (i6 0), .s (st []), .s (AL.Fnv.slS []), .s (i6 r.sec.1), .s (bo r.sec.2.1), .s (i6 r.sec.2.2.1), .s (Secret.slR r.sec.2.2.2), .s (bo false)]) (by kernel_rfl) ⟨AC.le_rfl, AC.le_rfl, AC.le_rfl, AC.le_rfl, AC.le_nil, AC.le_rfl, AC.le_rfl, AC.le_rfl, AC.le_rfl, AC.le_rfl, trivial⟩) ?_
     exact gT (AV.t (TV.agg [.s (u8 r.kind), .s (i6 0), .s (i6 0), .s (st []), .s (AL.Fnv.slS []), .s (i6 r.sec.1), .s (bo r.sec.2.1), .s (i6 r.sec.2.2.1), .s (Secret.slR r.sec.2.2.2), .s (bo false)])) (by rw [show partsS r = (⟨r.kind, 0, 0, [], [], r.sec, false⟩ : RepV) from by unfold partsS; grind])
    ·
     refine gS [] [] 52 [(1, vp 1 0), (2, vp 2 0), (4, vc (u8 r.kind)), (35, vc (bo (decide (r.kind = 5))))] [(1, AObj.row [.s (u8 r.kind), .s (i6 r.err), .s (i6 r.n), .s (st r.data), .s (AL.Fnv.slS r.names), .s (i6 r.sec.1), .s (bo r.sec.2.1), .s (i6 r.sec.2.2.1), .s (Secret.slR r.sec.2.2.2), .s (bo r.flag)]), (2, AObj.row [.s (u8 0), .s (i6 0), .s (i6 0), .s (st []), .s (SC.nilsl), .s (i6 0), .s (bo false), .s (i6 0), .s (SC.nilsl), .s (bo false)])] trivial ?_
     refine gC (r.kind = 5) (fun hc5 => ?_) fun hc5 => ?_
     ·
      refine gS [] [] 52 [(2, vp 2 0)] [(2, AObj.row [.s (u8 r.kind), .s (i6 0), .s (i6 0), .s (st []), .s (AL.Fnv.slS r.names), .s (i6 0), .s (bo false), .s (i6 0), .s (SC.nilsl), .s (bo false)])] trivial ?_
      refine AMx.ent (ent_row 2 (l := [.s (u8 r.kind), .s (i6 0), .s (i6 0), .s (st []), .s (AL.Fnv.slS r.names), .s (i6 0), .s (bo false), .s (i6 0), .s (SC.nilsl), .s (bo false)]) (m := [.s (u8 r.kind), .s (i6 0), .s (i6 0), .s (st []), .s (AL.Fnv.slS r.names), .s (i6 0), .s (bo false), .s (i6 0), .s (Secret.slR []), .s (bo false)]) (by kernel_rfl) ⟨AC.le_rfl, AC.le_rfl, AC.le_rfl, AC.le_rfl, AC.le_rfl, AC.le_rfl, AC.le_rfl, AC.le_rfl, AC.le_nil, AC.le_rfl, trivial⟩) ?_
      exact gT (AV.t (TV.agg [.s (u8 r.kind), .s (i6 0), .s (i6 0), .s (st []), .s (AL.Fnv.slS r.names), .s (i6 0), .s (bo false), .s (i6 0), .s (Secret.slR []), .s (bo false)])) (by rw [show partsS r = (⟨r.kind, 0, 0, [], r.names, ((0, false, 0, []) : Secret.Sec), false⟩ : RepV) from by unfold partsS; grind])
     ·
      refine gS [] [] 52 [(1, vp 1 0), (2, vp 2 0), (42, vc (bo (decide (r.kind = 6))))] [(1, AObj.row [.s (u8 r.kind), .s (i6 r.err), .s (i6 r.n), .s (st r.data), .s (AL.Fnv.slS r.names), .s (i6 r.sec.1), .s (bo r.sec.2.1), .s (i6 r.sec.2.2.1), .s (Secret.slR r.sec.2.2.2), .s (bo r.flag)]), (2, AObj.row [.s (u8 0), .s (i6 0), .s (i6 0), .s (st []), .s (SC.nilsl), .s (i6 0), .s (bo false), .s (i6 0), .s (SC.nilsl), .s (bo false)])] trivial ?_
      refine gC (r.kind = 6) (fun hc6 => ?_) fun hc6 => ?_
      ·
       refine gS [] [] 52 [(2, vp 2 0)] [(2, AObj.row [.s (u8 r.kind), .s (i6 0), .s (i6 0), .s (st []), .s (SC.nilsl), .s (i6 0), .s (bo false), .s (i6 0), .s (SC.nilsl), .s (bo r.flag)])] trivial ?_
       refine AMx.ent (ent_row 2 (l := [.s (u8 r.kind), .s (i6 0), .s (i6 0), .s (st []), .s (SC.nilsl), .s (i6 0), .s (bo false), .s (i6 0), .s (SC.nilsl), .s (bo r.flag)]) (m := [.s (u8 r.kind), .s (i6 0), .s (i6 0), .s (st []), .s (AL.Fnv.slS []), .s (i6 0), .s (bo false), .s (i6 0), .s (Secret.slR []), .s (bo r.flag)]) (by kernel_rfl) ⟨AC.le_rfl, AC.le_rfl, AC.le_rfl, AC.le_rfl, AC.le_nil, AC.le_rfl, AC.le_rfl, AC.le_rfl, AC.le_nil, AC.le_rfl, trivial⟩) ?_
       exact gT (AV.t (TV.agg [.s (u8 r.kind), .s (i6 0), .s (i6 0), .s (st []), .s (AL.Fnv.slS []), .s (i6 0), .s (bo false), .s (i6 0), .s (Secret.slR []), .s (bo r.flag)])) (by rw [show partsS r = (⟨r.kind, 0, 0, [], [], ((0, false, 0, []) : Secret.Sec), r.flag⟩ : RepV) from by unfold partsS; grind])
      ·
       refine AMx.skip ?_
       refine AMx.blk ?_
       refine gS [] [] 52 [(2, vp 2 0)] [(2, AObj.row [.s (u8 r.kind), .s (i6 0), .s (i6 0), .s (st []), .s (SC.nilsl), .s (i6 0), .s (bo false), .s (i6 0), .s (SC.nilsl), .s (bo false)])] trivial ?_
       refine AMx.ent (ent_row 2 (l := [.s (u8 r.kind), .s (i6 0), .s (i6 0), .s (st []), .s (SC.nilsl), .s (i6 0), .s (bo false), .s (i6 0), .s (SC.nilsl), .s (bo false)]) (m := [.s (u8 r.kind), .s (i6 0), .s (i6 0), .s (st []), .s (AL.Fnv.slS []), .s (i6 0), .s (bo false), .s (i6 0), .s (Secret.slR []), .s (bo false)]) (by kernel_rfl) ⟨AC.le_rfl, AC.le_rfl, AC.le_rfl, AC.le_rfl, AC.le_nil, AC.le_rfl, AC.le_rfl, AC.le_rfl, AC.le_nil, AC.le_rfl, trivial⟩) ?_
       exact gT (AV.t (TV.agg [.s (u8 r.kind), .s (i6 0), .s (i6 0), .s (st []), .s (AL.Fnv.slS []), .s (i6 0), .s (bo false), .s (i6 0), .s (Secret.slR []), .s (bo false)])) (by rw [show partsS r = (⟨r.kind, 0, 0, [], [], ((0, false, 0, []) : Secret.Sec), false⟩ : RepV) from by unfold partsS; grind])
theorem f13_body : Tryd.f13.body = some (.seq (.region 0 (rg Tryd.f13 0) false) (.seq (.seq (.region 1 (rg Tryd.f13 1) false) (.cond (.tmp 18) (.seq (.region 2 (rg Tryd.f13 2) false) (.ret)) (.skip))) (.seq (.region 3 (rg Tryd.f13 3) false) (.ret)))) := by kernel_rfl
set_option maxRecDepth 100000 in
set_option maxHeartbeats 8000000 in
theorem Same_c (a b : RepV) : Pure Tryd.prog 13 [TV.agg [.s (u8 a.kind), .s (i6 a.err), .s (i6 a.n), .s (st a.data), .s (AL.Fnv.slS a.names), .s (i6 a.sec.1), .s (bo a.sec.2.1), .s (i6 a.sec.2.2.1), .s (Secret.slR a.sec.2.2.2), .s (bo a.flag)], TV.agg [.s (u8 b.kind), .s (i6 b.err), .s (i6 b.n), .s (st b.data), .s (AL.Fnv.slS b.names), .s (i6 b.sec.1), .s (bo b.sec.2.1), .s (i6 b.sec.2.2.1), .s (Secret.slR b.sec.2.2.2), .s (bo b.flag)]] (vc (bo (decide (a = b)))) := by
 refine Pure.of_body Tryd.func13 f13_body (by kernel_rfl) Tryd.ntmps13 (by kernel_rfl) (by kernel_rfl) ?_
 refine gS [] [] 52 [(2, vp 2 0), (3, vp 3 0)] [(2, AObj.row [.s (u8 a.kind), .s (i6 a.err), .s (i6 a.n), .s (st a.data), .s (AL.Fnv.slS a.names), .s (i6 a.sec.1), .s (bo a.sec.2.1), .s (i6 a.sec.2.2.1), .s (Secret.slR a.sec.2.2.2), .s (bo a.flag)]), (3, AObj.row [.s (u8 b.kind), .s (i6 b.err), .s (i6 b.n), .s (st b.data), .s (AL.Fnv.slS b.names), .s (i6 b.sec.1), .s (bo b.sec.2.1), .s (i6 b.sec.2.2.1), .s (Secret.slR b.sec.2.2.2), .s (bo b.flag)])] trivial ?_
 refine gQ ?_
 refine gS [(4, CE.call [] [] (vc (bo (decide (a.names = b.names)))) []), (11, CE.call [] [] (vc (bo (decide (a.sec = b.sec)))) [])] [Spec Tryd.prog 37 [tc (AL.Fnv.slS a.names), tc (AL.Fnv.slS b.names)] (ofH []) (vc (bo (decide (a.names = b.names)))) (ofH []), ((!(decide (a.names = b.names))) = false) → allP [], ((!(decide (a.names = b.names))) = false) → allP [(!(decide (a.names = b.names))) = false], ((!(decide (a.names = b.names))) = false) → allP [], ((!(decide (a.names = b.names))) = false) → allP [(!(decide (a.names = b.names))) = false], ((!(decide (a.names = b.names))) = false) → allP [(!(decide (a.names = b.names))) = false, (!(decide (a.names = b.names))) = false, Spec Tryd.prog 38 [TV.agg [.s (i6 a.sec.1), .s (bo a.sec.2.1), .s (i6 a.sec.2.2.1), .s (Secret.slR a.sec.2.2.2)], TV.agg [.s (i6 b.sec.1), .s (bo b.sec.2.1), .s (i6 b.sec.2.2.1), .s (Secret.slR b.sec.2.2.2)]] (ofH []) (vc (bo (decide (a.sec = b.sec)))) (ofH [])], ((!(decide (a.names = b.names))) = false) → allP [(!(decide (a.names = b.names))) = false], (!(decide (a.names = b.names))) = false → allP [(!(decide (a.names = b.names))) = false]] 52 [(2, vp 2 0), (3, vp 3 0), (18, vc (bo ((!(decide (a.names = b.names))) || (!(decide (a.sec = b.sec))))))] [(2, AObj.row [.s (u8 a.kind), .s (i6 a.err), .s (i6 a.n), .s (st a.data), .s (AL.Fnv.slS a.names), .s (i6 a.sec.1), .s (bo a.sec.2.1), .s (i6 a.sec.2.2.1), .s (Secret.slR a.sec.2.2.2), .s (bo a.flag)]), (3, AObj.row [.s (u8 b.kind), .s (i6 b.err), .s (i6 b.n), .s (st b.data), .s (AL.Fnv.slS b.names), .s (i6 b.sec.1), .s (bo b.sec.2.1), .s (i6 b.sec.2.2.1), .s (Secret.slR b.sec.2.2.2), .s (bo b.flag)])] ⟨(EqualT_c a.names b.names), (fun _ => trivial), (fun hp => hp), (fun _ => trivial), (fun hp => hp), (fun hp => by have hq := hp; (try simp only [decide_eq_true_eq, decide_eq_false_iff_not, Bool.and_eq_true, Bool.or_eq_true, Bool.and_eq_false_iff, Bool.or_eq_false_iff, Bool.not_eq_true', Bool.not_eq_false', Bool.not_eq_true, Bool.not_eq_false] at hq); exact ⟨hp, hp, (Secret.Same_c a.sec b.sec)⟩), (fun hp => hp), (fun hp2 => (by first | exact hp2 | exact ⟨hp, hp2⟩))⟩ ?_
 refine gB (((!(decide (a.names = b.names))) || (!(decide (a.sec = b.sec))))) (fun hc1 => ?_) fun hc1 => ?_
 ·
  try simp only [xT, xF, xO, xP, xN, xM] at hc1
  refine gS [] [] 52 [(4, vc (bo false))] [] trivial ?_
  exact gT (vc (bo false)) (by rw [same_no hc1])
 ·
  try simp only [xT, xF, xO, xP, xN, xM] at hc1
  refine AMx.skip ?_
  refine gS [] [((decide (a.kind = b.kind)) = true) → allP [], ((decide (a.kind = b.kind)) = true) → allP [(decide (a.kind = b.kind)) = true], ((decide (a.kind = b.kind)) = true) → allP [], ((decide (a.kind = b.kind)) = true) → allP [(decide (a.kind = b.kind)) = true], ((decide (a.kind = b.kind)) = true) → allP [(decide (a.kind = b.kind)) = true, (decide (a.kind = b.kind)) = true], (decide (a.kind = b.kind)) = true → allP [(decide (a.kind = b.kind)) = true], (((decide (a.kind = b.kind)) && (decide (a.err = b.err))) = true) → allP [], (((decide (a.kind = b.kind)) && (decide (a.err = b.err))) = true) → allP [((decide (a.kind = b.kind)) && (decide (a.err = b.err))) = true], (((decide (a.kind = b.kind)) && (decide (a.err = b.err))) = true) → allP [], (((decide (a.kind = b.kind)) && (decide (a.err = b.err))) = true) → allP [((decide (a.kind = b.kind)) && (decide (a.err = b.err))) = true], (((decide (a.kind = b.kind)) && (decide (a.err = b.err))) = true) → allP [((decide (a.kind = b.kind)) && (decide (a.err = b.err))) = true, ((decide (a.kind = b.kind)) && (decide (a.err = b.err))) = true], ((decide (a.kind = b.kind)) && (decide (a.err = b.err))) = true → allP [((decide (a.kind = b.kind)) && (decide (a.err = b.err))) = true], ((((decide (a.kind = b.kind)) && (decide (a.err = b.err))) && (decide (a.n = b.n))) = true) → allP [], ((((decide (a.kind = b.kind)) && (decide (a.err = b.err))) && (decide (a.n = b.n))) = true) → allP [(((decide (a.kind = b.kind)) && (decide (a.err = b.err))) && (decide (a.n = b.n))) = true], ((((decide (a.kind = b.kind)) && (decide (a.err = b.err))) && (decide (a.n = b.n))) = true) → allP [], ((((decide (a.kind = b.kind)) && (decide (a.err = b.err))) && (decide (a.n = b.n))) = true) → allP [(((decide (a.kind = b.kind)) && (decide (a.err = b.err))) && (decide (a.n = b.n))) = true], ((((decide (a.kind = b.kind)) && (decide (a.err = b.err))) && (decide (a.n = b.n))) = true) → allP [(((decide (a.kind = b.kind)) && (decide (a.err = b.err))) && (decide (a.n = b.n))) = true, (((decide (a.kind = b.kind)) && (decide (a.err = b.err))) && (decide (a.n = b.n))) = true], (((decide (a.kind = b.kind)) && (decide (a.err = b.err))) && (decide (a.n = b.n))) = true → allP [(((decide (a.kind = b.kind)) && (decide (a.err = b.err))) && (decide (a.n = b.n))) = true], (((((decide (a.kind = b.kind)) && (decide (a.err = b.err))) && (decide (a.n = b.n))) && (decide (a.data = b.data))) = true) → allP [], (((((decide (a.kind = b.kind)) && (decide (a.err = b.err))) && (decide (a.n = b.n))) && (decide (a.data = b.data))) = true) → allP [((((decide (a.kind = b.kind)) && (decide (a.err = b.err))) && (decide (a.n = b.n))) && (decide (a.data = b.data))) = true], (((((decide (a.kind = b.kind)) && (decide (a.err = b.err))) && (decide (a.n = b.n))) && (decide (a.data = b.data))) = true) → allP [], (((((decide (a.kind = b.kind)) && (decide (a.err = b.err))) && (decide (a.n = b.n))) && (decide (a.data = b.data))) = true) → allP [((((decide (a.kind = b.kind)) && (decide (a.err = b.err))) && (decide (a.n = b.n))) && (decide (a.data = b.data))) = true], (((((decide (a.kind = b.kind)) && (decide (a.err = b.err))) && (decide (a.n = b.n))) && (decide (a.data = b.data))) = true) → allP [((((decide (a.kind = b.kind)) && (decide (a.err = b.err))) && (decide (a.n = b.n))) && (decide (a.data = b.data))) = true, ((((decide (a.kind = b.kind)) && (decide (a.err = b.err))) && (decide (a.n = b.n))) && (decide (a.data = b.data))) = true], ((((decide (a.kind = b.kind)) && (decide (a.err = b.err))) && (decide (a.n = b.n))) && (decide (a.data = b.data))) = true → allP [((((decide (a.kind = b.kind)) && (decide (a.err = b.err))) && (decide (a.n = b.n))) && (decide (a.data = b.data))) = true]] 52 [(4, vc (bo (((((decide (a.kind = b.kind)) && (decide (a.err = b.err))) && (decide (a.n = b.n))) && (decide (a.data = b.data))) && (a.flag == b.flag))))] [] ⟨(fun _ => trivial), (fun hp => hp), (fun _ => trivial), (fun hp => hp), (fun hp => ⟨hp, hp⟩), (fun hp2 => (by first | exact hp2 | exact ⟨hp, hp2⟩)), (fun _ => trivial), (fun hp => hp), (fun _ => trivial), (fun hp => hp), (fun hp => ⟨hp, hp⟩), (fun hp2 => (by first | exact hp2 | exact ⟨hp, hp2⟩)), (fun _ => trivial), (fun hp => hp), (fun _ => trivial), (fun hp => hp), (fun hp => ⟨hp, hp⟩), (fun hp2 => (by first | exact hp2 | exact ⟨hp, hp2⟩)), (fun _ => trivial), (fun hp => hp), (fun _ => trivial), (fun hp => hp), (fun hp => ⟨hp, hp⟩), (fun hp2 => (by first | exact hp2 | exact ⟨hp, hp2⟩))⟩ ?_
  exact gT (vc (bo (((((decide (a.kind = b.kind)) && (decide (a.err = b.err))) && (decide (a.n = b.n))) && (decide (a.data = b.data))) && (a.flag == b.flag)))) (by rw [same_eq hc1])
theorem f11_body : Tryd.f11.body = some (.seq (.region 0 (rg Tryd.f11 0) false) (.seq (.seq (.region 1 (rg Tryd.f11 1) false) (.cond (.tmp 6) (.seq (.region 2 (rg Tryd.f11 2) false) (.ret)) (.skip))) (.seq (.region 3 (rg Tryd.f11 3) true) (.seq (.seq (.region 4 (rg Tryd.f11 4) false) (.block 0 (.seq (.region 5 (rg Tryd.f11 5) false) (.cond (.tmp 13) (.region 6 (rg Tryd.f11 6) false) (.seq (.seq (.region 7 (rg Tryd.f11 7) false) (.cond (.tmp 26) (.skip) (.region 8 (rg Tryd.f11 8) false))) (.cond (.tmp 26) (.region 9 (rg Tryd.f11 9) false) (.seq (.region 10 (rg Tryd.f11 10) false) (.cond (.tmp 46) (.region 11 (rg Tryd.f11 11) false) (.seq (.region 12 (rg Tryd.f11 12) false) (.cond (.tmp 56) (.region 13 (rg Tryd.f11 13) false) (.skip))))))))))) (.seq (.seq (.region 14 (rg Tryd.f11 14) false) (.cond (.tmp 72) (.seq (.region 15 (rg Tryd.f11 15) false) (.ret)) (.skip))) (.seq (.region 16 (rg Tryd.f11 16) false) (.ret))))))) := by kernel_rfl
set_option maxRecDepth 100000 in
set_option maxHeartbeats 8000000 in
theorem Check_c (r : RepV) : Pure Tryd.prog 11 [TV.agg [.s (u8 r.kind), .s (i6 r.err), .s (i6 r.n), .s (st r.data), .s (AL.Fnv.slS r.names), .s (i6 r.sec.1), .s (bo r.sec.2.1), .s (i6 r.sec.2.2.1), .s (Secret.slR r.sec.2.2.2), .s (bo r.flag)]] (vc (i6 (checkR r))) := by
 refine Pure.of_body Tryd.func11 f11_body (by kernel_rfl) Tryd.ntmps11 (by kernel_rfl) (by kernel_rfl) ?_
 skip
 refine gS [] [] 73 [(1, vp 1 0)] [(1, AObj.row [.s (u8 r.kind), .s (i6 r.err), .s (i6 r.n), .s (st r.data), .s (AL.Fnv.slS r.names), .s (i6 r.sec.1), .s (bo r.sec.2.1), .s (i6 r.sec.2.2.1), .s (Secret.slR r.sec.2.2.2), .s (bo r.flag)])] trivial ?_
 refine gQ ?_
 refine gS [] [] 73 [(1, vp 1 0), (6, vc (bo (decide (6 < r.kind))))] [(1, AObj.row [.s (u8 r.kind), .s (i6 r.err), .s (i6 r.n), .s (st r.data), .s (AL.Fnv.slS r.names), .s (i6 r.sec.1), .s (bo r.sec.2.1), .s (i6 r.sec.2.2.1), .s (Secret.slR r.sec.2.2.2), .s (bo r.flag)])] trivial ?_
 refine gC (6 < r.kind) (fun hc1 => ?_) fun hc1 => ?_
 ·
  refine gS [] [] 73 [(2, vc (i6 22))] [] trivial ?_
  exact gT (vc (i6 22)) (by rw [show checkR r = 22 from check_22 hc1])
 ·
  refine AMx.skip ?_
  refine gY [(2, CE.call [] [] (AV.t (TV.agg [.s (u8 ((partsS r).kind)), .s (i6 ((partsS r).err)), .s (i6 ((partsS r).n)), .s (st ((partsS r).data)), .s (AL.Fnv.slS ((partsS r).names)), .s (i6 (((partsS r).sec).1)), .s (bo (((partsS r).sec).2.1)), .s (i6 (((partsS r).sec).2.2.1)), .s (Secret.slR (((partsS r).sec).2.2.2)), .s (bo ((partsS r).flag))])) []), (3, CE.call [] [] (vc (bo (decide (r = (partsS r))))) [])] [(0, [1]), (1, [1])] [Spec Tryd.prog 28 [TV.agg [.s (u8 r.kind), .s (i6 r.err), .s (i6 r.n), .s (st r.data), .s (AL.Fnv.slS r.names), .s (i6 r.sec.1), .s (bo r.sec.2.1), .s (i6 r.sec.2.2.1), .s (Secret.slR r.sec.2.2.2), .s (bo r.flag)]] (ofH []) (AV.t (TV.agg [.s (u8 ((partsS r).kind)), .s (i6 ((partsS r).err)), .s (i6 ((partsS r).n)), .s (st ((partsS r).data)), .s (AL.Fnv.slS ((partsS r).names)), .s (i6 (((partsS r).sec).1)), .s (bo (((partsS r).sec).2.1)), .s (i6 (((partsS r).sec).2.2.1)), .s (Secret.slR (((partsS r).sec).2.2.2)), .s (bo ((partsS r).flag))])) (ofH []), Spec Tryd.prog 13 [TV.agg [.s (u8 r.kind), .s (i6 r.err), .s (i6 r.n), .s (st r.data), .s (AL.Fnv.slS r.names), .s (i6 r.sec.1), .s (bo r.sec.2.1), .s (i6 r.sec.2.2.1), .s (Secret.slR r.sec.2.2.2), .s (bo r.flag)], TV.agg [.s (u8 ((partsS r).kind)), .s (i6 ((partsS r).err)), .s (i6 ((partsS r).n)), .s (st ((partsS r).data)), .s (AL.Fnv.slS ((partsS r).names)), .s (i6 (((partsS r).sec).1)), .s (bo (((partsS r).sec).2.1)), .s (i6 (((partsS r).sec).2.2.1)), .s (Secret.slR (((partsS r).sec).2.2.2)), .s (bo ((partsS r).flag))]] (ofH []) (vc (bo (decide (r = (partsS r))))) (ofH [])] 73 [(1, vp 1 0), (3, vc (bo (decide (r = (partsS r)))))] [(1, AObj.row [.s (u8 r.kind), .s (i6 r.err), .s (i6 r.n), .s (st r.data), .s (AL.Fnv.slS r.names), .s (i6 r.sec.1), .s (bo r.sec.2.1), .s (i6 r.sec.2.2.1), .s (Secret.slR r.sec.2.2.2), .s (bo r.flag)])] mixed ⟨(parts_c r), (Same_c r (partsS r))⟩ ?_
  refine gQ ?_
  refine gS [] [] 73 [(1, vp 1 0), (3, vc (bo (decide (r = (partsS r))))), (12, vc (u8 r.kind))] [(1, AObj.row [.s (u8 r.kind), .s (i6 r.err), .s (i6 r.n), .s (st r.data), .s (AL.Fnv.slS r.names), .s (i6 r.sec.1), .s (bo r.sec.2.1), .s (i6 r.sec.2.2.1), .s (Secret.slR r.sec.2.2.2), .s (bo r.flag)])] trivial ?_
  refine AMx.block ?_
  refine gS [] [] 73 [(1, vp 1 0), (3, vc (bo (decide (r = (partsS r))))), (12, vc (u8 r.kind)), (13, vc (bo (decide (r.kind = 0))))] [(1, AObj.row [.s (u8 r.kind), .s (i6 r.err), .s (i6 r.n), .s (st r.data), .s (AL.Fnv.slS r.names), .s (i6 r.sec.1), .s (bo r.sec.2.1), .s (i6 r.sec.2.2.1), .s (Secret.slR r.sec.2.2.2), .s (bo r.flag)])] trivial ?_
  refine gC (r.kind = 0) (fun hc2 => ?_) fun hc2 => ?_
  ·
   refine gR [] [((decide (r = (partsS r))) = true) → allP [], ((decide (r = (partsS r))) = true) → allP [(decide (r = (partsS r))) = true], ((decide (r = (partsS r))) = true) → allP [(decide (r = (partsS r))) = true], (decide (r = (partsS r))) = true → allP [(decide (r = (partsS r))) = true], (((decide (r = (partsS r))) && (decide (1 ≤ r.err))) = true) → allP [], (((decide (r = (partsS r))) && (decide (1 ≤ r.err))) = true) → allP [((decide (r = (partsS r))) && (decide (1 ≤ r.err))) = true], (((decide (r = (partsS r))) && (decide (1 ≤ r.err))) = true) → allP [((decide (r = (partsS r))) && (decide (1 ≤ r.err))) = true], ((decide (r = (partsS r))) && (decide (1 ≤ r.err))) = true → allP [((decide (r = (partsS r))) && (decide (1 ≤ r.err))) = true]] 73 [(3, vc (bo (((decide (r = (partsS r))) && (decide (1 ≤ r.err))) && (decide (r.err ≤ 99)))))] [] ⟨(fun _ => trivial), (fun hp => hp), (fun hp => hp), (fun hp2 => (by first | exact hp2 | exact ⟨hp, hp2⟩)), (fun _ => trivial), (fun hp => hp), (fun hp => hp), (fun hp2 => (by first | exact hp2 | exact ⟨hp, hp2⟩))⟩ ?_
   refine AMx.blk ?_
   refine gQ ?_
   refine gS [] [] 73 [(72, vc (bo (!(((decide (r = (partsS r))) && (decide (1 ≤ r.err))) && (decide (r.err ≤ 99))))))] [] trivial ?_
   refine gB (!(((decide (r = (partsS r))) && (decide (1 ≤ r.err))) && (decide (r.err ≤ 99)))) (fun hc3 => ?_) fun hc3 => ?_
   ·
    try simp only [xT, xF, xA, xB, xN, xM] at hc3
    refine gS [] [] 73 [(2, vc (i6 2))] [] trivial ?_
    exact gT (vc (i6 2)) (by rw [show checkR r = 2 from check_2 hc1 (by unfold FitR; grind)])
   ·
    try simp only [xT, xF, xA, xB, xN, xM] at hc3
    refine AMx.skip ?_
    refine gS [] [] 73 [(2, vc (i6 0))] [] trivial ?_
    exact gT (vc (i6 0)) (by rw [show checkR r = 0 from check_0 hc1 (by grind) (by unfold FitR; grind)])
  ·
   refine gQ ?_
   refine gS [] [] 73 [(1, vp 1 0), (3, vc (bo (decide (r = (partsS r))))), (12, vc (u8 r.kind)), (26, vc (bo (decide (r.kind = 2))))] [(1, AObj.row [.s (u8 r.kind), .s (i6 r.err), .s (i6 r.n), .s (st r.data), .s (AL.Fnv.slS r.names), .s (i6 r.sec.1), .s (bo r.sec.2.1), .s (i6 r.sec.2.2.1), .s (Secret.slR r.sec.2.2.2), .s (bo r.flag)])] trivial ?_
   refine gC (r.kind = 2) (fun hc4 => ?_) fun hc4 => ?_
   ·
    refine AMx.skip ?_
    refine gC (r.kind = 2) (fun hc5 => ?_) fun hc5 => ?_
    ·
     refine gR [] [((decide (r = (partsS r))) = true) → allP [], ((decide (r = (partsS r))) = true) → allP [(decide (r = (partsS r))) = true], ((decide (r = (partsS r))) = true) → allP [(decide (r = (partsS r))) = true], (decide (r = (partsS r))) = true → allP [(decide (r = (partsS r))) = true], (((decide (r = (partsS r))) && (decide (0 ≤ r.n))) = true) → allP [], (((decide (r = (partsS r))) && (decide (0 ≤ r.n))) = true) → allP [((decide (r = (partsS r))) && (decide (0 ≤ r.n))) = true], (((decide (r = (partsS r))) && (decide (0 ≤ r.n))) = true) → allP [((decide (r = (partsS r))) && (decide (0 ≤ r.n))) = true], ((decide (r = (partsS r))) && (decide (0 ≤ r.n))) = true → allP [((decide (r = (partsS r))) && (decide (0 ≤ r.n))) = true], ((((decide (r = (partsS r))) && (decide (0 ≤ r.n))) && (decide (r.n ≤ 999))) = true) → allP [], ((((decide (r = (partsS r))) && (decide (0 ≤ r.n))) && (decide (r.n ≤ 999))) = true) → allP [(((decide (r = (partsS r))) && (decide (0 ≤ r.n))) && (decide (r.n ≤ 999))) = true], ((((decide (r = (partsS r))) && (decide (0 ≤ r.n))) && (decide (r.n ≤ 999))) = true) → allP [(((decide (r = (partsS r))) && (decide (0 ≤ r.n))) && (decide (r.n ≤ 999))) = true], ((((decide (r = (partsS r))) && (decide (0 ≤ r.n))) && (decide (r.n ≤ 999))) = true) → allP [(((decide (r = (partsS r))) && (decide (0 ≤ r.n))) && (decide (r.n ≤ 999))) = true], (((decide (r = (partsS r))) && (decide (0 ≤ r.n))) && (decide (r.n ≤ 999))) = true → allP [(((decide (r = (partsS r))) && (decide (0 ≤ r.n))) && (decide (r.n ≤ 999))) = true]] 73 [(3, vc (bo ((((decide (r = (partsS r))) && (decide (0 ≤ r.n))) && (decide (r.n ≤ 999))) && (decide ((List.length r.data : Int) ≤ 400)))))] [] ⟨(fun _ => trivial), (fun hp => hp), (fun hp => hp), (fun hp2 => (by first | exact hp2 | exact ⟨hp, hp2⟩)), (fun _ => trivial), (fun hp => hp), (fun hp => hp), (fun hp2 => (by first | exact hp2 | exact ⟨hp, hp2⟩)), (fun _ => trivial), (fun hp => hp), (fun hp => hp), (fun hp => hp), (fun hp2 => (by first | exact hp2 | exact ⟨hp, hp2⟩))⟩ ?_
     refine AMx.blk ?_
     refine gQ ?_
     refine gS [] [] 73 [(72, vc (bo (!((((decide (r = (partsS r))) && (decide (0 ≤ r.n))) && (decide (r.n ≤ 999))) && (decide ((List.length r.data : Int) ≤ 400))))))] [] trivial ?_
     refine gB (!((((decide (r = (partsS r))) && (decide (0 ≤ r.n))) && (decide (r.n ≤ 999))) && (decide ((List.length r.data : Int) ≤ 400)))) (fun hc6 => ?_) fun hc6 => ?_
     ·
      try simp only [xT, xF, xA, xB, xN, xM] at hc6
      refine gS [] [] 73 [(2, vc (i6 2))] [] trivial ?_
      exact gT (vc (i6 2)) (by rw [show checkR r = 2 from check_2 hc1 (by unfold FitR; grind)])
     ·
      try simp only [xT, xF, xA, xB, xN, xM] at hc6
      refine AMx.skip ?_
      refine gS [] [] 73 [(2, vc (i6 0))] [] trivial ?_
      exact gT (vc (i6 0)) (by rw [show checkR r = 0 from check_0 hc1 (by grind) (by unfold FitR; grind)])
    ·
     refine gS [] [] 73 [(1, vp 1 0), (3, vc (bo (decide (r = (partsS r))))), (12, vc (u8 r.kind)), (46, vc (bo (decide (r.kind = 4))))] [(1, AObj.row [.s (u8 r.kind), .s (i6 r.err), .s (i6 r.n), .s (st r.data), .s (AL.Fnv.slS r.names), .s (i6 r.sec.1), .s (bo r.sec.2.1), .s (i6 r.sec.2.2.1), .s (Secret.slR r.sec.2.2.2), .s (bo r.flag)])] trivial ?_
     refine gC (r.kind = 4) (fun hc7 => ?_) fun hc7 => ?_
     ·
      refine gR [(5, CE.call [] [] (vc (i6 (Secret.checkS r.sec ((6, false) : Secret.Rul)))) [])] [((decide (r = (partsS r))) = true) → allP [], ((decide (r = (partsS r))) = true) → allP [(decide (r = (partsS r))) = true], ((decide (r = (partsS r))) = true) → allP [], ((decide (r = (partsS r))) = true) → allP [(decide (r = (partsS r))) = true, (decide (r = (partsS r))) = true, Spec Tryd.prog 29 [TV.agg [.s (i6 r.sec.1), .s (bo r.sec.2.1), .s (i6 r.sec.2.2.1), .s (Secret.slR r.sec.2.2.2)], TV.agg [.s (i6 6), .s (bo false)]] (ofH []) (vc (i6 (Secret.checkS r.sec ((6, false) : Secret.Rul)))) (ofH [])], ((decide (r = (partsS r))) = true) → allP [(decide (r = (partsS r))) = true], (decide (r = (partsS r))) = true → allP [(decide (r = (partsS r))) = true]] 73 [(3, vc (bo ((decide (r = (partsS r))) && (decide (Secret.checkS r.sec ((6, false) : Secret.Rul) = 0)))))] [] ⟨(fun _ => trivial), (fun hp => hp), (fun _ => trivial), (fun hp => by have hq := hp; (try simp only [decide_eq_true_eq, decide_eq_false_iff_not, Bool.and_eq_true, Bool.or_eq_true, Bool.and_eq_false_iff, Bool.or_eq_false_iff, Bool.not_eq_true', Bool.not_eq_false', Bool.not_eq_true, Bool.not_eq_false] at hq); exact ⟨hp, hp, (Secret.Check_c r.sec ((6, false) : Secret.Rul))⟩), (fun hp => hp), (fun hp2 => (by first | exact hp2 | exact ⟨hp, hp2⟩))⟩ ?_
      refine AMx.blk ?_
      refine gQ ?_
      refine gS [] [] 73 [(72, vc (bo (!((decide (r = (partsS r))) && (decide (Secret.checkS r.sec ((6, false) : Secret.Rul) = 0))))))] [] trivial ?_
      refine gB (!((decide (r = (partsS r))) && (decide (Secret.checkS r.sec ((6, false) : Secret.Rul) = 0)))) (fun hc8 => ?_) fun hc8 => ?_
      ·
       try simp only [xT, xF, xA, xB, xN, xM] at hc8
       refine gS [] [] 73 [(2, vc (i6 2))] [] trivial ?_
       exact gT (vc (i6 2)) (by rw [show checkR r = 2 from check_2 hc1 (by unfold FitR; grind)])
      ·
       try simp only [xT, xF, xA, xB, xN, xM] at hc8
       refine AMx.skip ?_
       refine gS [] [] 73 [(2, vc (i6 0))] [] trivial ?_
       exact gT (vc (i6 0)) (by rw [show checkR r = 0 from check_0 hc1 (by grind) (by unfold FitR; grind)])
     ·
      refine gS [] [] 73 [(1, vp 1 0), (3, vc (bo (decide (r = (partsS r))))), (56, vc (bo (decide (r.kind = 5))))] [(1, AObj.row [.s (u8 r.kind), .s (i6 r.err), .s (i6 r.n), .s (st r.data), .s (AL.Fnv.slS r.names), .s (i6 r.sec.1), .s (bo r.sec.2.1), .s (i6 r.sec.2.2.1), .s (Secret.slR r.sec.2.2.2), .s (bo r.flag)])] trivial ?_
      refine gC (r.kind = 5) (fun hc9 => ?_) fun hc9 => ?_
      ·
       refine gR [(10, CE.call [] [] (vc (bo (decide (0 ≤ Lib.idxS (fun x : Bytes => !(nameS x)) r.names)))) [])] [((decide (r = (partsS r))) = true) → allP [], ((decide (r = (partsS r))) = true) → allP [(decide (r = (partsS r))) = true], ((decide (r = (partsS r))) = true) → allP [(decide (r = (partsS r))) = true], ((decide (r = (partsS r))) = true) → allP [(decide (r = (partsS r))) = true], (decide (r = (partsS r))) = true → allP [(decide (r = (partsS r))) = true], (((decide (r = (partsS r))) && (decide ((List.length r.names : Int) ≤ 64))) = true) → allP [], (((decide (r = (partsS r))) && (decide ((List.length r.names : Int) ≤ 64))) = true) → allP [((decide (r = (partsS r))) && (decide ((List.length r.names : Int) ≤ 64))) = true], (((decide (r = (partsS r))) && (decide ((List.length r.names : Int) ≤ 64))) = true) → allP [((decide (r = (partsS r))) && (decide ((List.length r.names : Int) ≤ 64))) = true, Spec Tryd.prog 30 [tc (AL.Fnv.slS r.names), TV.c (.fn 31 [])] (ofH []) (vc (bo (decide (0 ≤ Lib.idxS (fun x : Bytes => !(nameS x)) r.names)))) (ofH [])], (((decide (r = (partsS r))) && (decide ((List.length r.names : Int) ≤ 64))) = true) → allP [((decide (r = (partsS r))) && (decide ((List.length r.names : Int) ≤ 64))) = true], ((decide (r = (partsS r))) && (decide ((List.length r.names : Int) ≤ 64))) = true → allP [((decide (r = (partsS r))) && (decide ((List.length r.names : Int) ≤ 64))) = true]] 73 [(3, vc (bo (((decide (r = (partsS r))) && (decide ((List.length r.names : Int) ≤ 64))) && (!(decide (0 ≤ Lib.idxS (fun x : Bytes => !(nameS x)) r.names))))))] [] ⟨(fun _ => trivial), (fun hp => hp), (fun hp => hp), (fun hp => hp), (fun hp2 => (by first | exact hp2 | exact ⟨hp, hp2⟩)), (fun _ => trivial), (fun hp => hp), (fun hp => by have hq := hp; (try simp only [decide_eq_true_eq, decide_eq_false_iff_not, Bool.and_eq_true, Bool.or_eq_true, Bool.and_eq_false_iff, Bool.or_eq_false_iff, Bool.not_eq_true', Bool.not_eq_false', Bool.not_eq_true, Bool.not_eq_false] at hq); exact ⟨hp, (ContainsT_c 31 [] (fun x : Bytes => !(nameS x)) (fun x => nameC_c x) r.names)⟩), (fun hp => hp), (fun hp2 => (by first | exact hp2 | exact ⟨hp, hp2⟩))⟩ ?_
       refine AMx.blk ?_
       refine gQ ?_
       refine gS [] [] 73 [(72, vc (bo (!(((decide (r = (partsS r))) && (decide ((List.length r.names : Int) ≤ 64))) && (!(decide (0 ≤ Lib.idxS (fun x : Bytes => !(nameS x)) r.names)))))))] [] trivial ?_
       refine gB (!(((decide (r = (partsS r))) && (decide ((List.length r.names : Int) ≤ 64))) && (!(decide (0 ≤ Lib.idxS (fun x : Bytes => !(nameS x)) r.names))))) (fun hc10 => ?_) fun hc10 => ?_
       ·
        try simp only [xT, xF, xA, xB, xN, xM] at hc10
        refine gS [] [] 73 [(2, vc (i6 2))] [] trivial ?_
        exact gT (vc (i6 2)) (by rw [show checkR r = 2 from check_2 hc1 (by unfold FitR; grind)])
       ·
        try simp only [xT, xF, xA, xB, xN, xM] at hc10
        refine AMx.skip ?_
        refine gS [] [] 73 [(2, vc (i6 0))] [] trivial ?_
        exact gT (vc (i6 0)) (by rw [show checkR r = 0 from check_0 hc1 (by grind) (by unfold FitR; grind)])
      ·
       refine AMx.skip ?_
       refine AMx.blk ?_
       refine gQ ?_
       refine gS [] [] 73 [(72, vc (bo (!(decide (r = (partsS r))))))] [] trivial ?_
       refine gB (!(decide (r = (partsS r)))) (fun hc11 => ?_) fun hc11 => ?_
       ·
        try simp only [xT, xF, xN, xM] at hc11
        refine gS [] [] 73 [(2, vc (i6 2))] [] trivial ?_
        exact gT (vc (i6 2)) (by rw [show checkR r = 2 from check_2 hc1 (by unfold FitR; grind)])
       ·
        try simp only [xT, xF, xN, xM] at hc11
        refine AMx.skip ?_
        refine gS [] [] 73 [(2, vc (i6 0))] [] trivial ?_
        exact gT (vc (i6 0)) (by rw [show checkR r = 0 from check_0 hc1 (by grind) (by unfold FitR; grind)])
   ·
    refine gR [] [] 73 [(1, vp 1 0), (3, vc (bo (decide (r = (partsS r))))), (12, vc (u8 r.kind)), (26, vc (bo (decide (r.kind = 3))))] [(1, AObj.row [.s (u8 r.kind), .s (i6 r.err), .s (i6 r.n), .s (st r.data), .s (AL.Fnv.slS r.names), .s (i6 r.sec.1), .s (bo r.sec.2.1), .s (i6 r.sec.2.2.1), .s (Secret.slR r.sec.2.2.2), .s (bo r.flag)])] trivial ?_
    refine gC (r.kind = 3) (fun hc12 => ?_) fun hc12 => ?_
    ·
     refine gR [] [((decide (r = (partsS r))) = true) → allP [], ((decide (r = (partsS r))) = true) → allP [(decide (r = (partsS r))) = true], ((decide (r = (partsS r))) = true) → allP [(decide (r = (partsS r))) = true], (decide (r = (partsS r))) = true → allP [(decide (r = (partsS r))) = true], (((decide (r = (partsS r))) && (decide (0 ≤ r.n))) = true) → allP [], (((decide (r = (partsS r))) && (decide (0 ≤ r.n))) = true) → allP [((decide (r = (partsS r))) && (decide (0 ≤ r.n))) = true], (((decide (r = (partsS r))) && (decide (0 ≤ r.n))) = true) → allP [((decide (r = (partsS r))) && (decide (0 ≤ r.n))) = true], ((decide (r = (partsS r))) && (decide (0 ≤ r.n))) = true → allP [((decide (r = (partsS r))) && (decide (0 ≤ r.n))) = true], ((((decide (r = (partsS r))) && (decide (0 ≤ r.n))) && (decide (r.n ≤ 999))) = true) → allP [], ((((decide (r = (partsS r))) && (decide (0 ≤ r.n))) && (decide (r.n ≤ 999))) = true) → allP [(((decide (r = (partsS r))) && (decide (0 ≤ r.n))) && (decide (r.n ≤ 999))) = true], ((((decide (r = (partsS r))) && (decide (0 ≤ r.n))) && (decide (r.n ≤ 999))) = true) → allP [(((decide (r = (partsS r))) && (decide (0 ≤ r.n))) && (decide (r.n ≤ 999))) = true], ((((decide (r = (partsS r))) && (decide (0 ≤ r.n))) && (decide (r.n ≤ 999))) = true) → allP [(((decide (r = (partsS r))) && (decide (0 ≤ r.n))) && (decide (r.n ≤ 999))) = true], (((decide (r = (partsS r))) && (decide (0 ≤ r.n))) && (decide (r.n ≤ 999))) = true → allP [(((decide (r = (partsS r))) && (decide (0 ≤ r.n))) && (decide (r.n ≤ 999))) = true]] 73 [(3, vc (bo ((((decide (r = (partsS r))) && (decide (0 ≤ r.n))) && (decide (r.n ≤ 999))) && (decide ((List.length r.data : Int) ≤ 400)))))] [] ⟨(fun _ => trivial), (fun hp => hp), (fun hp => hp), (fun hp2 => (by first | exact hp2 | exact ⟨hp, hp2⟩)), (fun _ => trivial), (fun hp => hp), (fun hp => hp), (fun hp2 => (by first | exact hp2 | exact ⟨hp, hp2⟩)), (fun _ => trivial), (fun hp => hp), (fun hp => hp), (fun hp => hp), (fun hp2 => (by first | exact hp2 | exact ⟨hp, hp2⟩))⟩ ?_
     refine AMx.blk ?_
     refine gQ ?_
     refine gS [] [] 73 [(72, vc (bo (!((((decide (r = (partsS r))) && (decide (0 ≤ r.n))) && (decide (r.n ≤ 999))) && (decide ((List.length r.data : Int) ≤ 400))))))] [] trivial ?_
     refine gB (!((((decide (r = (partsS r))) && (decide (0 ≤ r.n))) && (decide (r.n ≤ 999))) && (decide ((List.length r.data : Int) ≤ 400)))) (fun hc13 => ?_) fun hc13 => ?_
     ·
      try simp only [xT, xF, xA, xB, xN, xM] at hc13
      refine gS [] [] 73 [(2, vc (i6 2))] [] trivial ?_
      exact gT (vc (i6 2)) (by rw [show checkR r = 2 from check_2 hc1 (by unfold FitR; grind)])
     ·
      try simp only [xT, xF, xA, xB, xN, xM] at hc13
      refine AMx.skip ?_
      refine gS [] [] 73 [(2, vc (i6 0))] [] trivial ?_
      exact gT (vc (i6 0)) (by rw [show checkR r = 0 from check_0 hc1 (by grind) (by unfold FitR; grind)])
    ·
     refine gS [] [] 73 [(1, vp 1 0), (3, vc (bo (decide (r = (partsS r))))), (12, vc (u8 r.kind)), (46, vc (bo (decide (r.kind = 4))))] [(1, AObj.row [.s (u8 r.kind), .s (i6 r.err), .s (i6 r.n), .s (st r.data), .s (AL.Fnv.slS r.names), .s (i6 r.sec.1), .s (bo r.sec.2.1), .s (i6 r.sec.2.2.1), .s (Secret.slR r.sec.2.2.2), .s (bo r.flag)])] trivial ?_
     refine gC (r.kind = 4) (fun hc14 => ?_) fun hc14 => ?_
     ·
      refine gR [(5, CE.call [] [] (vc (i6 (Secret.checkS r.sec ((6, false) : Secret.Rul)))) [])] [((decide (r = (partsS r))) = true) → allP [], ((decide (r = (partsS r))) = true) → allP [(decide (r = (partsS r))) = true], ((decide (r = (partsS r))) = true) → allP [], ((decide (r = (partsS r))) = true) → allP [(decide (r = (partsS r))) = true, (decide (r = (partsS r))) = true, Spec Tryd.prog 29 [TV.agg [.s (i6 r.sec.1), .s (bo r.sec.2.1), .s (i6 r.sec.2.2.1), .s (Secret.slR r.sec.2.2.2)], TV.agg [.s (i6 6), .s (bo false)]] (ofH []) (vc (i6 (Secret.checkS r.sec ((6, false) : Secret.Rul)))) (ofH [])], ((decide (r = (partsS r))) = true) → allP [(decide (r = (partsS r))) = true], (decide (r = (partsS r))) = true → allP [(decide (r = (partsS r))) = true]] 73 [(3, vc (bo ((decide (r = (partsS r))) && (decide (Secret.checkS r.sec ((6, false) : Secret.Rul) = 0)))))] [] ⟨(fun _ => trivial), (fun hp => hp), (fun _ => trivial), (fun hp => by have hq := hp; (try simp only [decide_eq_true_eq, decide_eq_false_iff_not, Bool.and_eq_true, Bool.or_eq_true, Bool.and_eq_false_iff, Bool.or_eq_false_iff, Bool.not_eq_true', Bool.not_eq_false', Bool.not_eq_true, Bool.not_eq_false] at hq); exact ⟨hp, hp, (Secret.Check_c r.sec ((6, false) : Secret.Rul))⟩), (fun hp => hp), (fun hp2 => (by first | exact hp2 | exact ⟨hp, hp2⟩))⟩ ?_
      refine AMx.blk ?_
      refine gQ ?_
      refine gS [] [] 73 [(72, vc (bo (!((decide (r = (partsS r))) && (decide (Secret.checkS r.sec ((6, false) : Secret.Rul) = 0))))))] [] trivial ?_
      refine gB (!((decide (r = (partsS r))) && (decide (Secret.checkS r.sec ((6, false) : Secret.Rul) = 0)))) (fun hc15 => ?_) fun hc15 => ?_
      ·
       try simp only [xT, xF, xA, xB, xN, xM] at hc15
       refine gS [] [] 73 [(2, vc (i6 2))] [] trivial ?_
       exact gT (vc (i6 2)) (by rw [show checkR r = 2 from check_2 hc1 (by unfold FitR; grind)])
      ·
       try simp only [xT, xF, xA, xB, xN, xM] at hc15
       refine AMx.skip ?_
       refine gS [] [] 73 [(2, vc (i6 0))] [] trivial ?_
       exact gT (vc (i6 0)) (by rw [show checkR r = 0 from check_0 hc1 (by grind) (by unfold FitR; grind)])
     ·
      refine gS [] [] 73 [(1, vp 1 0), (3, vc (bo (decide (r = (partsS r))))), (56, vc (bo (decide (r.kind = 5))))] [(1, AObj.row [.s (u8 r.kind), .s (i6 r.err), .s (i6 r.n), .s (st r.data), .s (AL.Fnv.slS r.names), .s (i6 r.sec.1), .s (bo r.sec.2.1), .s (i6 r.sec.2.2.1), .s (Secret.slR r.sec.2.2.2), .s (bo r.flag)])] trivial ?_
      refine gC (r.kind = 5) (fun hc16 => ?_) fun hc16 => ?_
      ·
       refine gR [(10, CE.call [] [] (vc (bo (decide (0 ≤ Lib.idxS (fun x : Bytes => !(nameS x)) r.names)))) [])] [((decide (r = (partsS r))) = true) → allP [], ((decide (r = (partsS r))) = true) → allP [(decide (r = (partsS r))) = true], ((decide (r = (partsS r))) = true) → allP [(decide (r = (partsS r))) = true], ((decide (r = (partsS r))) = true) → allP [(decide (r = (partsS r))) = true], (decide (r = (partsS r))) = true → allP [(decide (r = (partsS r))) = true], (((decide (r = (partsS r))) && (decide ((List.length r.names : Int) ≤ 64))) = true) → allP [], (((decide (r = (partsS r))) && (decide ((List.length r.names : Int) ≤ 64))) = true) → allP [((decide (r = (partsS r))) && (decide ((List.length r.names : Int) ≤ 64))) = true], (((decide (r = (partsS r))) && (decide ((List.length r.names : Int) ≤ 64))) = true) → allP [((decide (r = (partsS r))) && (decide ((List.length r.names : Int) ≤ 64))) = true, Spec Tryd.prog 30 [tc (AL.Fnv.slS r.names), TV.c (.fn 31 [])] (ofH []) (vc (bo (decide (0 ≤ Lib.idxS (fun x : Bytes => !(nameS x)) r.names)))) (ofH [])], (((decide (r = (partsS r))) && (decide ((List.length r.names : Int) ≤ 64))) = true) → allP [((decide (r = (partsS r))) && (decide ((List.length r.names : Int) ≤ 64))) = true], ((decide (r = (partsS r))) && (decide ((List.length r.names : Int) ≤ 64))) = true → allP [((decide (r = (partsS r))) && (decide ((List.length r.names : Int) ≤ 64))) = true]] 73 [(3, vc (bo (((decide (r = (partsS r))) && (decide ((List.length r.names : Int) ≤ 64))) && (!(decide (0 ≤ Lib.idxS (fun x : Bytes => !(nameS x)) r.names))))))] [] ⟨(fun _ => trivial), (fun hp => hp), (fun hp => hp), (fun hp => hp), (fun hp2 => (by first | exact hp2 | exact ⟨hp, hp2⟩)), (fun _ => trivial), (fun hp => hp), (fun hp => by have hq := hp; (try simp only [decide_eq_true_eq, decide_eq_false_iff_not, Bool.and_eq_true, Bool.or_eq_true, Bool.and_eq_false_iff, Bool.or_eq_false_iff, Bool.not_eq_true', Bool.not_eq_false', Bool.not_eq_true, Bool.not_eq_false] at hq); exact ⟨hp, (ContainsT_c 31 [] (fun x : Bytes => !(nameS x)) (fun x => nameC_c x) r.names)⟩), (fun hp => hp), (fun hp2 => (by first | exact hp2 | exact ⟨hp, hp2⟩))⟩ ?_
       refine AMx.blk ?_
       refine gQ ?_
       refine gS [] [] 73 [(72, vc (bo (!(((decide (r = (partsS r))) && (decide ((List.length r.names : Int) ≤ 64))) && (!(decide (0 ≤ Lib.idxS (fun x : Bytes => !(nameS x)) r.names)))))))] [] trivial ?_
       refine gB (!(((decide (r = (partsS r))) && (decide ((List.length r.names : Int) ≤ 64))) && (!(decide (0 ≤ Lib.idxS (fun x : Bytes => !(nameS x)) r.names))))) (fun hc17 => ?_) fun hc17 => ?_
       ·
        try simp only [xT, xF, xA, xB, xN, xM] at hc17
        refine gS [] [] 73 [(2, vc (i6 2))] [] trivial ?_
        exact gT (vc (i6 2)) (by rw [show checkR r = 2 from check_2 hc1 (by unfold FitR; grind)])
       ·
        try simp only [xT, xF, xA, xB, xN, xM] at hc17
        refine AMx.skip ?_
        refine gS [] [] 73 [(2, vc (i6 0))] [] trivial ?_
        exact gT (vc (i6 0)) (by rw [show checkR r = 0 from check_0 hc1 (by grind) (by unfold FitR; grind)])
      ·
       refine AMx.skip ?_
       refine AMx.blk ?_
       refine gQ ?_
       refine gS [] [] 73 [(72, vc (bo (!(decide (r = (partsS r))))))] [] trivial ?_
       refine gB (!(decide (r = (partsS r)))) (fun hc18 => ?_) fun hc18 => ?_
       ·
        try simp only [xT, xF, xN, xM] at hc18
        refine gS [] [] 73 [(2, vc (i6 2))] [] trivial ?_
        exact gT (vc (i6 2)) (by rw [show checkR r = 2 from check_2 hc1 (by unfold FitR; grind)])
       ·
        try simp only [xT, xF, xN, xM] at hc18
        refine AMx.skip ?_
        refine gS [] [] 73 [(2, vc (i6 0))] [] trivial ?_
        exact gT (vc (i6 0)) (by rw [show checkR r = 0 from check_0 hc1 (by grind) (by unfold FitR; grind)])
end AL.Reply
namespace AL.Reply
open Go Go.Proofs AL
set_option linter.unusedVariables false
set_option linter.unusedSimpArgs false
open AL.Ask (scanN valS sizeB digB numS hexS unhexS)
theorem f17_body : Tryd.f17.body = some (.seq (.region 0 (rg Tryd.f17 0) false) (.seq (.region 1 (rg Tryd.f17 1) false) (.seq (.region 2 (rg Tryd.f17 2) false) (.seq (.seq (.region 3 (rg Tryd.f17 3) false) (.cond (.tmp 11) (.seq (.region 4 (rg Tryd.f17 4) false) (.region 5 (rg Tryd.f17 5) false)) (.seq (.region 6 (rg Tryd.f17 6) false) (.region 7 (rg Tryd.f17 7) false)))) (.seq (.region 8 (rg Tryd.f17 8) false) (.seq (.region 9 (rg Tryd.f17 9) false) (.ret))))))) := by kernel_rfl
set_option maxRecDepth 100000 in
set_option maxHeartbeats 8000000 in
theorem parse_rest (s : Bytes) (hs : s.length ≤ 100000) : AMx Tryd.prog (RetB 34 (parseOk s) [.s (u8 ((valP s).kind)), .s (i6 ((valP s).err)), .s (i6 ((valP s).n)), .s (st ((valP s).data)), .s (AL.Fnv.slS ((valP s).names)), .s (i6 (((valP s).sec).1)), .s (bo (((valP s).sec).2.1)), .s (i6 (((valP s).sec).2.2.1)), .s (Secret.slR (((valP s).sec).2.2.2)), .s (bo ((valP s).flag))] [.s (i6 0)]) [.code (.seq (.region 2 (rg Tryd.f17 2) false) (.seq (.seq (.region 3 (rg Tryd.f17 3) false) (.cond (.tmp 11) (.seq (.region 4 (rg Tryd.f17 4) false) (.region 5 (rg Tryd.f17 5) false)) (.seq (.region 6 (rg Tryd.f17 6) false) (.region 7 (rg Tryd.f17 7) false)))) (.seq (.region 8 (rg Tryd.f17 8) false) (.seq (.region 9 (rg Tryd.f17 9) false) (.ret)))))] .normal (AS.lst 34 [(0, vc (st s)), (2, vp 34 0), (3, vp 35 0)] [(34, AObj.row [.s (u8 0), .s (i6 0), .s (i6 0), .s (st []), .s (SC.nilsl), .s (i6 0), .s (bo false), .s (i6 0), .s (SC.nilsl), .s (bo false)]), (35, AObj.row [.s (i6 0)])]) := by
 have hsp := split_pos s
 have hsl := Policy.split_le 32 s
 refine gS [(1, CE.call [] [] (vc (AL.Fnv.slS (AL.Sep.splitC 32 s))) [])] [Spec Tryd.prog 41 [tc (st s), tc (st [32])] (ofH []) (vc (AL.Fnv.slS (AL.Sep.splitC 32 s))) (ofH [])] 34 [(2, vp 34 0), (3, vp 35 0), (4, vc (AL.Fnv.slS (AL.Sep.splitC 32 s)))] [(34, AObj.row [.s (u8 0), .s (i6 0), .s (i6 0), .s (st []), .s (SC.nilsl), .s (i6 0), .s (bo false), .s (i6 0), .s (SC.nilsl), .s (bo false)]), (35, AObj.row [.s (i6 0)])] (AL.Sep.Split_c 32 s (by omega)) ?_
 refine gQ ?_
 refine gS [] [(0 : Int) ≤ 0, (0 : Int) < List.length (AL.Sep.splitC 32 s : List Bytes)] 34 [(2, vp 34 0), (3, vp 35 0), (4, vc (AL.Fnv.slS (AL.Sep.splitC 32 s))), (11, vc (bo (decide ((List.getD (AL.Sep.splitC 32 s) 0 []) = [101, 114, 114, 111, 114]))))] [(34, AObj.row [.s (u8 0), .s (i6 0), .s (i6 0), .s (st []), .s (SC.nilsl), .s (i6 0), .s (bo false), .s (i6 0), .s (SC.nilsl), .s (bo false)]), (35, AObj.row [.s (i6 0)])] ⟨(show (0 : Int) ≤ 0 from (by omega)), (show (0 : Int) < List.length (AL.Sep.splitC 32 s : List Bytes) from (by omega))⟩ ?_
 refine gC ((List.getD (AL.Sep.splitC 32 s) 0 []) = [101, 114, 114, 111, 114]) (fun hc1 => ?_) fun hc1 => ?_
 ·
  refine gSc [(3, CE.call [] [] (AV.tup []) [])] [(3, (decide ((List.length (AL.Sep.splitC 32 s : List Bytes) : Int) = 2)) = true)] [PureX Tryd.prog 42 [tc (bo (decide ((List.length (AL.Sep.splitC 32 s : List Bytes) : Int) = 2)))] (AV.tup []) ((decide ((List.length (AL.Sep.splitC 32 s : List Bytes) : Int) = 2)) = true)] 34 [(2, vp 34 0), (3, vp 35 0), (4, vc (AL.Fnv.slS (AL.Sep.splitC 32 s)))] [(34, AObj.row [.s (u8 0), .s (i6 0), .s (i6 0), .s (st []), .s (SC.nilsl), .s (i6 0), .s (bo false), .s (i6 0), .s (SC.nilsl), .s (bo false)]), (35, AObj.row [.s (i6 0)])] (must_c (decide ((List.length (AL.Sep.splitC 32 s : List Bytes) : Int) = 2))) (fun hok => (show ((decide ((List.length (AL.Sep.splitC 32 s : List Bytes) : Int) = 2)) = true) by rw [parseOk, if_pos hc1] at hok; exact decide_eq_true hok.1.1)) (fun hx1 => ?_)
  replace hx1 : ((decide ((List.length (AL.Sep.splitC 32 s : List Bytes) : Int) = 2)) = true) := hx1
  try simp only [decide_eq_true_eq] at hx1
  refine gRc [(3, CE.call [] [] (vc (i6 (scanN (List.getD (AL.Sep.splitC 32 s) 1 [])))) [])] [(3, 0 ≤ scanN (List.getD (AL.Sep.splitC 32 s) 1 []))] [(0 : Int) ≤ 1, (1 : Int) < List.length (AL.Sep.splitC 32 s : List Bytes), PureX Tryd.prog 43 [tc (st (List.getD (AL.Sep.splitC 32 s) 1 []))] (vc (i6 (scanN (List.getD (AL.Sep.splitC 32 s) 1 [])))) (0 ≤ scanN (List.getD (AL.Sep.splitC 32 s) 1 []))] 34 [(2, vp 34 0), (3, vp 35 0)] [(34, AObj.row [.s (u8 0), .s (i6 (scanN (List.getD (AL.Sep.splitC 32 s) 1 []))), .s (i6 0), .s (st []), .s (SC.nilsl), .s (i6 0), .s (bo false), .s (i6 0), .s (SC.nilsl), .s (bo false)]), (35, AObj.row [.s (i6 0)])] ⟨(show (0 : Int) ≤ 1 from (by omega)), (show (1 : Int) < List.length (AL.Sep.splitC 32 s : List Bytes) from (by omega)), (num_c (List.getD (AL.Sep.splitC 32 s) 1 []))⟩ (fun hok => (show (0 ≤ scanN (List.getD (AL.Sep.splitC 32 s) 1 [])) by rw [parseOk, if_pos hc1] at hok; exact hok.1.2)) (fun hx2 => ?_)
  replace hx2 : (0 ≤ scanN (List.getD (AL.Sep.splitC 32 s) 1 [])) := hx2
  try simp only [decide_eq_true_eq] at hx2
  refine gSc [(1, CE.call [] [] (vc (i6 (checkR (⟨0, scanN (List.getD (AL.Sep.splitC 32 s) 1 []), 0, [], [], ((0, false, 0, []) : Secret.Sec), false⟩ : RepV)))) []), (3, CE.call [] [] (AV.tup []) [])] [(3, (decide (checkR (⟨0, scanN (List.getD (AL.Sep.splitC 32 s) 1 []), 0, [], [], ((0, false, 0, []) : Secret.Sec), false⟩ : RepV) = 0)) = true)] [Spec Tryd.prog 11 [TV.agg [.s (u8 0), .s (i6 (scanN (List.getD (AL.Sep.splitC 32 s) 1 []))), .s (i6 0), .s (st []), .s (SC.nilsl), .s (i6 0), .s (bo false), .s (i6 0), .s (SC.nilsl), .s (bo false)]] (ofH []) (vc (i6 (checkR (⟨0, scanN (List.getD (AL.Sep.splitC 32 s) 1 []), 0, [], [], ((0, false, 0, []) : Secret.Sec), false⟩ : RepV)))) (ofH []), PureX Tryd.prog 42 [tc (bo (decide (checkR (⟨0, scanN (List.getD (AL.Sep.splitC 32 s) 1 []), 0, [], [], ((0, false, 0, []) : Secret.Sec), false⟩ : RepV) = 0)))] (AV.tup []) ((decide (checkR (⟨0, scanN (List.getD (AL.Sep.splitC 32 s) 1 []), 0, [], [], ((0, false, 0, []) : Secret.Sec), false⟩ : RepV) = 0)) = true)] 34 [(2, vp 34 0), (3, vp 35 0)] [(34, AObj.row [.s (u8 0), .s (i6 (scanN (List.getD (AL.Sep.splitC 32 s) 1 []))), .s (i6 0), .s (st []), .s (SC.nilsl), .s (i6 0), .s (bo false), .s (i6 0), .s (SC.nilsl), .s (bo false)]), (35, AObj.row [.s (i6 0)])] ⟨(Spec.weak (args' := [TV.agg [.s (u8 0), .s (i6 (scanN (List.getD (AL.Sep.splitC 32 s) 1 []))), .s (i6 0), .s (st []), .s (AL.Fnv.slS []), .s (i6 0), .s (bo false), .s (i6 0), .s (Secret.slR []), .s (bo false)]]) ⟨(TV.le_agg (l := [.s (u8 0), .s (i6 (scanN (List.getD (AL.Sep.splitC 32 s) 1 []))), .s (i6 0), .s (st []), .s (SC.nilsl), .s (i6 0), .s (bo false), .s (i6 0), .s (SC.nilsl), .s (bo false)]) (m := [.s (u8 ((⟨0, scanN (List.getD (AL.Sep.splitC 32 s) 1 []), 0, [], [], ((0, false, 0, []) : Secret.Sec), false⟩ : RepV).kind)), .s (i6 ((⟨0, scanN (List.getD (AL.Sep.splitC 32 s) 1 []), 0, [], [], ((0, false, 0, []) : Secret.Sec), false⟩ : RepV).err)), .s (i6 ((⟨0, scanN (List.getD (AL.Sep.splitC 32 s) 1 []), 0, [], [], ((0, false, 0, []) : Secret.Sec), false⟩ : RepV).n)), .s (st ((⟨0, scanN (List.getD (AL.Sep.splitC 32 s) 1 []), 0, [], [], ((0, false, 0, []) : Secret.Sec), false⟩ : RepV).data)), .s (AL.Fnv.slS ((⟨0, scanN (List.getD (AL.Sep.splitC 32 s) 1 []), 0, [], [], ((0, false, 0, []) : Secret.Sec), false⟩ : RepV).names)), .s (i6 (((⟨0, scanN (List.getD (AL.Sep.splitC 32 s) 1 []), 0, [], [], ((0, false, 0, []) : Secret.Sec), false⟩ : RepV).sec).1)), .s (bo (((⟨0, scanN (List.getD (AL.Sep.splitC 32 s) 1 []), 0, [], [], ((0, false, 0, []) : Secret.Sec), false⟩ : RepV).sec).2.1)), .s (i6 (((⟨0, scanN (List.getD (AL.Sep.splitC 32 s) 1 []), 0, [], [], ((0, false, 0, []) : Secret.Sec), false⟩ : RepV).sec).2.2.1)), .s (Secret.slR (((⟨0, scanN (List.getD (AL.Sep.splitC 32 s) 1 []), 0, [], [], ((0, false, 0, []) : Secret.Sec), false⟩ : RepV).sec).2.2.2)), .s (bo ((⟨0, scanN (List.getD (AL.Sep.splitC 32 s) 1 []), 0, [], [], ((0, false, 0, []) : Secret.Sec), false⟩ : RepV).flag))]) ⟨AC.le_rfl, AC.le_rfl, AC.le_rfl, AC.le_rfl, AC.le_nil, AC.le_rfl, AC.le_rfl, AC.le_rfl, AC.le_nil, AC.le_rfl, trivial⟩), trivial⟩ (Check_c (⟨0, scanN (List.getD (AL.Sep.splitC 32 s) 1 []), 0, [], [], ((0, false, 0, []) : Secret.Sec), false⟩ : RepV))), (must_c (decide (checkR (⟨0, scanN (List.getD (AL.Sep.splitC 32 s) 1 []), 0, [], [], ((0, false, 0, []) : Secret.Sec), false⟩ : RepV) = 0)))⟩ (fun hok => (show ((decide (checkR (⟨0, scanN (List.getD (AL.Sep.splitC 32 s) 1 []), 0, [], [], ((0, false, 0, []) : Secret.Sec), false⟩ : RepV) = 0)) = true) by first | (rw [parseOk, if_pos hc1] at hok; exact decide_eq_true hok.2) | (rw [parseOk, if_neg hc1] at hok; exact decide_eq_true hok.2))) (fun hx3 => ?_)
  replace hx3 : ((decide (checkR (⟨0, scanN (List.getD (AL.Sep.splitC 32 s) 1 []), 0, [], [], ((0, false, 0, []) : Secret.Sec), false⟩ : RepV) = 0)) = true) := hx3
  try simp only [decide_eq_true_eq] at hx3
  refine gS [] [] 34 [(2, vp 34 0), (3, vp 35 0)] [(34, AObj.row [.s (u8 0), .s (i6 (scanN (List.getD (AL.Sep.splitC 32 s) 1 []))), .s (i6 0), .s (st []), .s (SC.nilsl), .s (i6 0), .s (bo false), .s (i6 0), .s (SC.nilsl), .s (bo false)]), (35, AObj.row [.s (i6 0)])] trivial ?_
  refine AMx.ent (ent_row 34 (l := [.s (u8 0), .s (i6 (scanN (List.getD (AL.Sep.splitC 32 s) 1 []))), .s (i6 0), .s (st []), .s (SC.nilsl), .s (i6 0), .s (bo false), .s (i6 0), .s (SC.nilsl), .s (bo false)]) (m := [.s (u8 0), .s (i6 (scanN (List.getD (AL.Sep.splitC 32 s) 1 []))), .s (i6 0), .s (st []), .s (AL.Fnv.slS []), .s (i6 0), .s (bo false), .s (i6 0), .s (Secret.slR []), .s (bo false)]) (by kernel_rfl) ⟨AC.le_rfl, AC.le_rfl, AC.le_rfl, AC.le_rfl, AC.le_nil, AC.le_rfl, AC.le_rfl, AC.le_rfl, AC.le_nil, AC.le_rfl, trivial⟩) ?_
  exact gTc (by first | (rw [parseOk, if_pos hc1]; exact ⟨⟨hx1, hx2⟩, hx3⟩) | (rw [parseOk, if_neg hc1]; exact ⟨⟨hx4, hx5⟩, hx6⟩)) (l' := [.s (u8 0), .s (i6 (scanN (List.getD (AL.Sep.splitC 32 s) 1 []))), .s (i6 0), .s (st []), .s (AL.Fnv.slS []), .s (i6 0), .s (bo false), .s (i6 0), .s (Secret.slR []), .s (bo false)]) (m' := [.s (i6 0)]) (by kernel_rfl) (by kernel_rfl) rfl rfl rfl (by unfold valP; first | (rw [if_pos hc1]; rfl) | (rw [if_neg hc1])) rfl
 ·
  refine gSc [(4, CE.call [] [] (AV.tup []) [])] [(4, (decide ((List.getD (AL.Sep.splitC 32 s) 0 []) = [111, 107])) = true)] [(0 : Int) ≤ 0, (0 : Int) < List.length (AL.Sep.splitC 32 s : List Bytes), PureX Tryd.prog 42 [tc (bo (decide ((List.getD (AL.Sep.splitC 32 s) 0 []) = [111, 107])))] (AV.tup []) ((decide ((List.getD (AL.Sep.splitC 32 s) 0 []) = [111, 107])) = true)] 34 [(2, vp 34 0), (3, vp 35 0), (4, vc (AL.Fnv.slS (AL.Sep.splitC 32 s)))] [(34, AObj.row [.s (u8 0), .s (i6 0), .s (i6 0), .s (st []), .s (SC.nilsl), .s (i6 0), .s (bo false), .s (i6 0), .s (SC.nilsl), .s (bo false)]), (35, AObj.row [.s (i6 0)])] ⟨(show (0 : Int) ≤ 0 from (by omega)), (show (0 : Int) < List.length (AL.Sep.splitC 32 s : List Bytes) from (by omega)), (must_c (decide ((List.getD (AL.Sep.splitC 32 s) 0 []) = [111, 107])))⟩ (fun hok => (show ((decide ((List.getD (AL.Sep.splitC 32 s) 0 []) = [111, 107])) = true) by rw [parseOk, if_neg hc1] at hok; exact decide_eq_true hok.1.1)) (fun hx4 => ?_)
  replace hx4 : ((decide ((List.getD (AL.Sep.splitC 32 s) 0 []) = [111, 107])) = true) := hx4
  try simp only [decide_eq_true_eq] at hx4
  refine gRc [(2, CE.call [] [] (AV.t (TV.agg [.s (u8 ((readS (List.drop 1 (AL.Sep.splitC 32 s))).kind)), .s (i6 ((readS (List.drop 1 (AL.Sep.splitC 32 s))).err)), .s (i6 ((readS (List.drop 1 (AL.Sep.splitC 32 s))).n)), .s (st ((readS (List.drop 1 (AL.Sep.splitC 32 s))).data)), .s (AL.Fnv.slS ((readS (List.drop 1 (AL.Sep.splitC 32 s))).names)), .s (i6 (((readS (List.drop 1 (AL.Sep.splitC 32 s))).sec).1)), .s (bo (((readS (List.drop 1 (AL.Sep.splitC 32 s))).sec).2.1)), .s (i6 (((readS (List.drop 1 (AL.Sep.splitC 32 s))).sec).2.2.1)), .s (Secret.slR (((readS (List.drop 1 (AL.Sep.splitC 32 s))).sec).2.2.2)), .s (bo ((readS (List.drop 1 (AL.Sep.splitC 32 s))).flag))])) [])] [(2, readOk (List.drop 1 (AL.Sep.splitC 32 s)))] [0 ≤ (1 : Int), (1 : Int) ≤ List.length (AL.Sep.splitC 32 s : List Bytes), PureX Tryd.prog 44 [tc (AL.Fnv.slS (List.drop 1 (AL.Sep.splitC 32 s)))] (AV.t (TV.agg [.s (u8 ((readS (List.drop 1 (AL.Sep.splitC 32 s))).kind)), .s (i6 ((readS (List.drop 1 (AL.Sep.splitC 32 s))).err)), .s (i6 ((readS (List.drop 1 (AL.Sep.splitC 32 s))).n)), .s (st ((readS (List.drop 1 (AL.Sep.splitC 32 s))).data)), .s (AL.Fnv.slS ((readS (List.drop 1 (AL.Sep.splitC 32 s))).names)), .s (i6 (((readS (List.drop 1 (AL.Sep.splitC 32 s))).sec).1)), .s (bo (((readS (List.drop 1 (AL.Sep.splitC 32 s))).sec).2.1)), .s (i6 (((readS (List.drop 1 (AL.Sep.splitC 32 s))).sec).2.2.1)), .s (Secret.slR (((readS (List.drop 1 (AL.Sep.splitC 32 s))).sec).2.2.2)), .s (bo ((readS (List.drop 1 (AL.Sep.splitC 32 s))).flag))])) (readOk (List.drop 1 (AL.Sep.splitC 32 s)))] 34 [(2, vp 34 0), (3, vp 35 0)] [(34, AObj.row [.s (u8 ((readS (List.drop 1 (AL.Sep.splitC 32 s))).kind)), .s (i6 ((readS (List.drop 1 (AL.Sep.splitC 32 s))).err)), .s (i6 ((readS (List.drop 1 (AL.Sep.splitC 32 s))).n)), .s (st ((readS (List.drop 1 (AL.Sep.splitC 32 s))).data)), .s (AL.Fnv.slS ((readS (List.drop 1 (AL.Sep.splitC 32 s))).names)), .s (i6 (((readS (List.drop 1 (AL.Sep.splitC 32 s))).sec).1)), .s (bo (((readS (List.drop 1 (AL.Sep.splitC 32 s))).sec).2.1)), .s (i6 (((readS (List.drop 1 (AL.Sep.splitC 32 s))).sec).2.2.1)), .s (Secret.slR (((readS (List.drop 1 (AL.Sep.splitC 32 s))).sec).2.2.2)), .s (bo ((readS (List.drop 1 (AL.Sep.splitC 32 s))).flag))]), (35, AObj.row [.s (i6 0)])] ⟨(show 0 ≤ (1 : Int) from (by omega)), (show (1 : Int) ≤ List.length (AL.Sep.splitC 32 s : List Bytes) from (by omega)), (read_c (List.drop 1 (AL.Sep.splitC 32 s)) (words_le hs))⟩ (fun hok => (show (readOk (List.drop 1 (AL.Sep.splitC 32 s))) by rw [parseOk, if_neg hc1] at hok; exact hok.1.2)) (fun hx5 => ?_)
  replace hx5 : (readOk (List.drop 1 (AL.Sep.splitC 32 s))) := hx5
  try simp only [decide_eq_true_eq] at hx5
  refine gSc [(1, CE.call [] [] (vc (i6 (checkR (readS (List.drop 1 (AL.Sep.splitC 32 s)))))) []), (3, CE.call [] [] (AV.tup []) [])] [(3, (decide (checkR (readS (List.drop 1 (AL.Sep.splitC 32 s))) = 0)) = true)] [Spec Tryd.prog 11 [TV.agg [.s (u8 ((readS (List.drop 1 (AL.Sep.splitC 32 s))).kind)), .s (i6 ((readS (List.drop 1 (AL.Sep.splitC 32 s))).err)), .s (i6 ((readS (List.drop 1 (AL.Sep.splitC 32 s))).n)), .s (st ((readS (List.drop 1 (AL.Sep.splitC 32 s))).data)), .s (AL.Fnv.slS ((readS (List.drop 1 (AL.Sep.splitC 32 s))).names)), .s (i6 (((readS (List.drop 1 (AL.Sep.splitC 32 s))).sec).1)), .s (bo (((readS (List.drop 1 (AL.Sep.splitC 32 s))).sec).2.1)), .s (i6 (((readS (List.drop 1 (AL.Sep.splitC 32 s))).sec).2.2.1)), .s (Secret.slR (((readS (List.drop 1 (AL.Sep.splitC 32 s))).sec).2.2.2)), .s (bo ((readS (List.drop 1 (AL.Sep.splitC 32 s))).flag))]] (ofH []) (vc (i6 (checkR (readS (List.drop 1 (AL.Sep.splitC 32 s)))))) (ofH []), PureX Tryd.prog 42 [tc (bo (decide (checkR (readS (List.drop 1 (AL.Sep.splitC 32 s))) = 0)))] (AV.tup []) ((decide (checkR (readS (List.drop 1 (AL.Sep.splitC 32 s))) = 0)) = true)] 34 [(2, vp 34 0), (3, vp 35 0)] [(34, AObj.row [.s (u8 ((readS (List.drop 1 (AL.Sep.splitC 32 s))).kind)), .s (i6 ((readS (List.drop 1 (AL.Sep.splitC 32 s))).err)), .s (i6 ((readS (List.drop 1 (AL.Sep.splitC 32 s))).n)), .s (st ((readS (List.drop 1 (AL.Sep.splitC 32 s))).data)), .s (AL.Fnv.slS ((readS (List.drop 1 (AL.Sep.splitC 32 s))).names)), .s (i6 (((readS (List.drop 1 (AL.Sep.splitC 32 s))).sec).1)), .s (bo (((readS (List.drop 1 (AL.Sep.splitC 32 s))).sec).2.1)), .s (i6 (((readS (List.drop 1 (AL.Sep.splitC 32 s))).sec).2.2.1)), .s (Secret.slR (((readS (List.drop 1 (AL.Sep.splitC 32 s))).sec).2.2.2)), .s (bo ((readS (List.drop 1 (AL.Sep.splitC 32 s))).flag))]), (35, AObj.row [.s (i6 0)])] ⟨(Check_c (readS (List.drop 1 (AL.Sep.splitC 32 s)))), (must_c (decide (checkR (readS (List.drop 1 (AL.Sep.splitC 32 s))) = 0)))⟩ (fun hok => (show ((decide (checkR (readS (List.drop 1 (AL.Sep.splitC 32 s))) = 0)) = true) by first | (rw [parseOk, if_pos hc1] at hok; exact decide_eq_true hok.2) | (rw [parseOk, if_neg hc1] at hok; exact decide_eq_true hok.2))) (fun hx6 => ?_)
  replace hx6 : ((decide (checkR (readS (List.drop 1 (AL.Sep.splitC 32 s))) = 0)) = true) := hx6
  try simp only [decide_eq_true_eq] at hx6
  refine gS [] [] 34 [(2, vp 34 0), (3, vp 35 0)] [(34, AObj.row [.s (u8 ((readS (List.drop 1 (AL.Sep.splitC 32 s))).kind)), .s (i6 ((readS (List.drop 1 (AL.Sep.splitC 32 s))).err)), .s (i6 ((readS (List.drop 1 (AL.Sep.splitC 32 s))).n)), .s (st ((readS (List.drop 1 (AL.Sep.splitC 32 s))).data)), .s (AL.Fnv.slS ((readS (List.drop 1 (AL.Sep.splitC 32 s))).names)), .s (i6 (((readS (List.drop 1 (AL.Sep.splitC 32 s))).sec).1)), .s (bo (((readS (List.drop 1 (AL.Sep.splitC 32 s))).sec).2.1)), .s (i6 (((readS (List.drop 1 (AL.Sep.splitC 32 s))).sec).2.2.1)), .s (Secret.slR (((readS (List.drop 1 (AL.Sep.splitC 32 s))).sec).2.2.2)), .s (bo ((readS (List.drop 1 (AL.Sep.splitC 32 s))).flag))]), (35, AObj.row [.s (i6 0)])] trivial ?_
  exact gTc (by first | (rw [parseOk, if_pos hc1]; exact ⟨⟨hx1, hx2⟩, hx3⟩) | (rw [parseOk, if_neg hc1]; exact ⟨⟨hx4, hx5⟩, hx6⟩)) (l' := [.s (u8 ((readS (List.drop 1 (AL.Sep.splitC 32 s))).kind)), .s (i6 ((readS (List.drop 1 (AL.Sep.splitC 32 s))).err)), .s (i6 ((readS (List.drop 1 (AL.Sep.splitC 32 s))).n)), .s (st ((readS (List.drop 1 (AL.Sep.splitC 32 s))).data)), .s (AL.Fnv.slS ((readS (List.drop 1 (AL.Sep.splitC 32 s))).names)), .s (i6 (((readS (List.drop 1 (AL.Sep.splitC 32 s))).sec).1)), .s (bo (((readS (List.drop 1 (AL.Sep.splitC 32 s))).sec).2.1)), .s (i6 (((readS (List.drop 1 (AL.Sep.splitC 32 s))).sec).2.2.1)), .s (Secret.slR (((readS (List.drop 1 (AL.Sep.splitC 32 s))).sec).2.2.2)), .s (bo ((readS (List.drop 1 (AL.Sep.splitC 32 s))).flag))]) (m' := [.s (i6 0)]) (by kernel_rfl) (by kernel_rfl) rfl rfl rfl (by unfold valP; first | (rw [if_pos hc1]; rfl) | (rw [if_neg hc1])) rfl
theorem Parse_c (s : Bytes) (hs : s.length ≤ 100000) : Pure Tryd.prog 17 [tc (st s)] (AV.tup [TV.agg [.s (u8 (((parseR s).1).kind)), .s (i6 (((parseR s).1).err)), .s (i6 (((parseR s).1).n)), .s (st (((parseR s).1).data)), .s (AL.Fnv.slS (((parseR s).1).names)), .s (i6 ((((parseR s).1).sec).1)), .s (bo ((((parseR s).1).sec).2.1)), .s (i6 ((((parseR s).1).sec).2.2.1)), .s (Secret.slR ((((parseR s).1).sec).2.2.2)), .s (bo (((parseR s).1).flag))], tc (i6 ((parseR s).2))]) :=
  parse_of f17_body (parse_rest s hs) (fun h => by rw [show parseR s = (valP s, 0) from if_pos h]) (fun h => by rw [show parseR s = (repd, 4) from if_neg h]; exact AV.le_tup ⟨TV.le_agg ⟨AC.le_rfl, AC.le_rfl, AC.le_rfl, AC.le_rfl, AC.le_nil, AC.le_rfl, AC.le_rfl, AC.le_rfl, AC.le_nil, AC.le_rfl, trivial⟩, TV.le_rfl, trivial⟩)
end AL.Reply
namespace AL.Reply
open Go AL
open AL.Sep (splitC joinC)
open AL.Ask (numS scanN valS sizeB digB hexS unhexS dg tmod_10 tdiv_10 num_le3 hex_len)
open AL.Secret (RowV Sec Rul slR rowR checkS)
set_option linter.unusedVariables false
set_option linter.unusedSimpArgs false
def bitS (b : Bool) : Bytes := if b = true then [49] else [48]
def listT (l : List Bytes) : Bytes := if (List.length l : Int) = 0 then [45] else joinC 44 l
def rowT (x : RowV) : Bytes := (numS x.1 ++ (if x.2.1 = true then [33] else [])) ++ (if x.2.2 = true then [35] else [])
def wordsS (r : RepV) : List Bytes :=
  if r.kind = 0 then [[101, 114, 114, 111, 114], numS r.err]
  else if r.kind = 2 then [[111, 107], [110, 117, 109, 98, 101, 114], numS r.n]
  else if r.kind = 3 then [[111, 107], [102, 111, 117, 110, 100], numS r.n, if r.data = [] then [45] else hexS r.data]
  else if r.kind = 4 then [[111, 107], [97, 98, 111, 117, 116], numS r.sec.1, bitS r.sec.2.1, numS r.sec.2.2.1, listT (r.sec.2.2.2.map rowT)]
  else if r.kind = 5 then [[111, 107], [110, 97, 109, 101, 115], listT r.names]
  else if r.kind = 6 then (if r.flag = true then [[111, 107], [115, 101, 97, 108, 101, 100]] else [[111, 107], [111, 112, 101, 110]])
  else [[111, 107]]
noncomputable def textS (r : RepV) : Bytes × Int := if checkR r = 0 then (joinC 32 (wordsS r), 0) else ([], checkR r)
noncomputable def ofS (e : Int) : Bytes := if e = 0 then (textS ⟨1, e, 0, [], [], (0, false, 0, []), false⟩).1 else (textS ⟨0, e, 0, [], [], (0, false, 0, []), false⟩).1
theorem num_split {m : Int} (h0 : 0 ≤ m) (h1 : m ≤ 999) : numS m = (if m / 10 = 0 then [] else numS (m / 10)) ++ [dg (m % 10)] := by
  obtain ⟨k, rfl⟩ := Int.eq_ofNat_of_zero_le h0
  exact AL.Ask.numat_first k (by omega)
theorem num_last {n m : Int} {t : Bytes} (h : numS n = numS m ++ t) (h0 : 0 ≤ m) (h1 : m ≤ 999) (hz : m / 10 = 0) : numS n = [dg (m % 10)] ++ t := by
  rw [h, num_split h0 h1, if_pos hz]; rfl
theorem num_next {n m : Int} {t : Bytes} (h : numS n = numS m ++ t) (h0 : 0 ≤ m) (h1 : m ≤ 999) (hz : ¬ m / 10 = 0) : numS n = numS (m / 10) ++ ([dg (m % 10)] ++ t) := by
  rw [h, num_split h0 h1, if_neg hz, List.append_assoc]
theorem rowsT_step (W : List RowV) (k : Nat) (h : k < W.length) : (List.take k W).map rowT ++ [rowT (List.getD W k (0, false, false))] = (List.take (k + 1) W).map rowT := by
  rw [Lib.take_succ (0, false, false) W k h, List.map_append]; rfl
theorem words_rng {r : RepV} (h : checkR r = 0) : (r.kind = 0 → 1 ≤ r.err ∧ r.err ≤ 99) ∧ (r.kind = 2 → 0 ≤ r.n ∧ r.n ≤ 999) ∧ (r.kind = 3 → 0 ≤ r.n ∧ r.n ≤ 999 ∧ (List.length r.data : Int) ≤ 400) ∧ (r.kind = 4 → 0 ≤ r.sec.1 ∧ r.sec.1 ≤ 6 ∧ 0 ≤ r.sec.2.2.1 ∧ r.sec.2.2.1 ≤ 30 ∧ (List.length r.sec.2.2.2 : Int) ≤ 6) := by
  obtain ⟨h1, h2, h3⟩ := (check_iff r).1 h
  unfold FitR at h3
  refine ⟨fun k => ?_, fun k => ?_, fun k => ?_, fun k => ?_⟩
  · rw [if_pos k] at h3; exact h3
  · rw [if_neg (by omega), if_pos k] at h3; exact ⟨h3.1, h3.2.1⟩
  · rw [if_neg (by omega), if_neg (by omega), if_pos k] at h3; exact h3
  · rw [if_neg (by omega), if_neg (by omega), if_neg (by omega), if_pos k] at h3
    obtain ⟨⟨q1, q2, q3, q4, q5, q6⟩, q7, q8, q9⟩ := AL.Secret.check_may.1 h3
    have : AL.Secret.keepS r.sec ((6, false) : Rul) ≤ 6 := by unfold AL.Secret.keepS; split; exact Int.le_refl 6; exact q4
    exact ⟨q3, q4, q5, q6, by omega⟩
theorem words_row {r : RepV} (h : checkR r = 0) (k : r.kind = 4) : ∀ x ∈ r.sec.2.2.2, 0 ≤ x.1 ∧ x.1 ≤ 30 := by
  obtain ⟨h1, h2, h3⟩ := (check_iff r).1 h
  unfold FitR at h3
  rw [if_neg (by omega), if_neg (by omega), if_neg (by omega), if_pos k] at h3
  obtain ⟨⟨q1, q2, q3, q4, q5, q6⟩, q7, q8, q9⟩ := AL.Secret.check_may.1 h3
  intro x hx
  have z1 := AL.Secret.rise_mem q8 x hx
  have z2 := AL.Secret.rise_new q8 x hx
  omega
theorem rowT_len (x : RowV) : (rowT x).length ≤ 5 := by
  have := num_le3 x.1
  unfold rowT
  simp only [List.length_append]
  split <;> split <;> simp <;> omega
theorem list_rows {l : List RowV} (h : (List.length l : Int) ≤ 6) : (joinC 44 (l.map rowT)).length ≤ 100000 := by
  have := AL.Sep.join_max (c := 44) (n := 5) (l.map rowT) (fun p hp => by obtain ⟨x, _, rfl⟩ := List.mem_map.1 hp; exact rowT_len x)
  rw [List.length_map] at this
  omega
theorem name_all {r : RepV} (h : checkR r = 0) (k : r.kind = 5) : (List.length r.names : Int) ≤ 64 ∧ ∀ s ∈ r.names, nameS s = true := by
  obtain ⟨h1, h2, h3⟩ := (check_iff r).1 h
  unfold FitR at h3
  rw [if_neg (by omega), if_neg (by omega), if_neg (by omega), if_neg (by omega), if_pos k] at h3
  refine ⟨h3.1, fun s hs => ?_⟩
  have := Lib.idx_neg (p := fun x : Bytes => !nameS x) (by have := h3.2; omega) s hs
  simpa using this
theorem list_names {r : RepV} (h : checkR r = 0) (k : r.kind = 5) : (joinC 44 r.names).length ≤ 100000 := by
  obtain ⟨h1, h2⟩ := name_all h k
  have := AL.Sep.join_max (c := 44) (n := 64) r.names (fun p hp => ((name_iff p).1 (h2 p hp)).2.2.1)
  omega
theorem listT_len {l : List Bytes} {n : Nat} (h : (joinC 44 l).length ≤ n) (h1 : 1 ≤ n) : (listT l).length ≤ n := by
  unfold listT
  split
  · exact h1
  · exact h
theorem list_rows2 {l : List RowV} (h : (List.length l : Int) ≤ 6) : (joinC 44 (l.map rowT)).length ≤ 4200 := by
  have := AL.Sep.join_max (c := 44) (n := 5) (l.map rowT) (fun p hp => by obtain ⟨x, _, rfl⟩ := List.mem_map.1 hp; exact rowT_len x)
  rw [List.length_map] at this
  omega
theorem list_names2 {r : RepV} (h : checkR r = 0) (k : r.kind = 5) : (joinC 44 r.names).length ≤ 4200 := by
  obtain ⟨h1, h2⟩ := name_all h k
  have := AL.Sep.join_max (c := 44) (n := 64) r.names (fun p hp => ((name_iff p).1 (h2 p hp)).2.2.1)
  omega
theorem bit_len (b : Bool) : (bitS b).length ≤ 4200 := by cases b <;> decide
theorem num_len2 (n : Int) : (numS n).length ≤ 4200 := Nat.le_trans (num_le3 n) (by decide)
theorem words_all {r : RepV} (h : checkR r = 0) : ∀ p ∈ wordsS r, p.length ≤ 4200 := by
  have hw := words_rng h
  have hd : r.kind = 3 → (if r.data = [] then [45] else hexS r.data : Bytes).length ≤ 4200 := fun k => by
    have := (hw.2.2.1 k).2.2
    split
    · decide
    · rw [hex_len]; omega
  have hl : r.kind = 4 → (listT (r.sec.2.2.2.map rowT)).length ≤ 4200 := fun k => listT_len (list_rows2 (hw.2.2.2 k).2.2.2.2) (by decide)
  have hn : r.kind = 5 → (listT r.names).length ≤ 4200 := fun k => listT_len (list_names2 h k) (by decide)
  unfold wordsS
  intro p hp
  have d (a : Bytes) (q : a.length ≤ 4200) : p = a → p.length ≤ 4200 := fun e => e ▸ q
  repeat' split at hp
  all_goals simp only [List.mem_cons, List.not_mem_nil, or_false] at hp
  · rcases hp with e | e
    · exact d _ (by decide) e
    · exact d _ (num_len2 _) e
  · rcases hp with e | e | e
    · exact d _ (by decide) e
    · exact d _ (by decide) e
    · exact d _ (num_len2 _) e
  · rcases hp with e | e | e | e
    · exact d _ (by decide) e
    · exact d _ (by decide) e
    · exact d _ (num_len2 _) e
    · exact d _ (by decide) e
  · rcases hp with e | e | e | e
    · exact d _ (by decide) e
    · exact d _ (by decide) e
    · exact d _ (num_len2 _) e
    · have := hd (by assumption)
      rw [if_neg (by assumption)] at this
      exact d _ this e
  · rcases hp with e | e | e | e | e | e
    · exact d _ (by decide) e
    · exact d _ (by decide) e
    · exact d _ (num_len2 _) e
    · exact d _ (bit_len _) e
    · exact d _ (num_len2 _) e
    · exact d _ (hl (by assumption)) e
  · rcases hp with e | e | e
    · exact d _ (by decide) e
    · exact d _ (by decide) e
    · exact d _ (hn (by assumption)) e
  · rcases hp with e | e
    · exact d _ (by decide) e
    · exact d _ (by decide) e
  · rcases hp with e | e
    · exact d _ (by decide) e
    · exact d _ (by decide) e
  · exact d _ (by decide) hp
theorem words_num (r : RepV) : (wordsS r).length ≤ 6 := by
  unfold wordsS
  repeat' split
  all_goals simp
theorem words_len {r : RepV} (h : checkR r = 0) : (joinC 32 (wordsS r)).length ≤ 100000 := by
  have h1 := AL.Sep.join_max (c := 32) (n := 4200) (wordsS r) (words_all h)
  have h2 := words_num r
  have h3 := Nat.mul_le_mul_right (4200 + 1) h2
  omega
end AL.Reply
namespace AL.Reply
open Go Go.Proofs AL
set_option linter.unusedVariables false
set_option linter.unusedSimpArgs false
open AL.Ask (scanN valS sizeB digB numS hexS unhexS dg tmod_10 tdiv_10 one_dr num_le3)
theorem f51_body : Tryd.f51.body = some (.seq (.region 0 (rg Tryd.f51 0) false) (.seq (.region 1 (rg Tryd.f51 1) false) (.block 0 (.loop (.block 1 (.seq (.region 2 (rg Tryd.f51 2) false) (.seq (.region 3 (rg Tryd.f51 3) false) (.seq (.region 4 (rg Tryd.f51 4) false) (.cond (.tmp 15) (.seq (.region 5 (rg Tryd.f51 5) false) (.ret)) (.skip)))))))))) := by kernel_rfl
set_option maxRecDepth 100000 in
set_option maxHeartbeats 8000000 in
theorem number_c (n : Int) (h0 : 0 ≤ n) (h1 : n ≤ 999) : Pure Tryd.prog 51 [tc (i6 n)] (vc (st (numS n))) := by
 refine Pure.of_body Tryd.func51 f51_body (by kernel_rfl) Tryd.ntmps51 (by kernel_rfl) (by kernel_rfl) ?_
 refine gS [] [] 17 [(0, vc (i6 n))] [] trivial ?_
 refine gS [] [] 17 [(0, vc (i6 n)), (3, vc (st []))] [] trivial ?_
 refine AMx.block ?_
 refine AMx.ent (s' := AS.lst 17 [(0, vc (i6 n)), (3, vc (st []))] []) (ent_proj [0, 3] []) ?_
 refine AMx.loop (fun mm ss => ∃ (m : Int) (t : Bytes), ((0 ≤ m ∧ m ≤ 999) ∧ numS n = numS m ++ t) ∧ mm = m.toNat ∧ ss = AS.lst 17 [(0, vc (i6 m)), (3, vc (st t))] []) ⟨n, [], ?_, rfl, ?_⟩ ?_
 · exact ⟨by omega, by simp⟩
 · rfl
 rintro mm ss ⟨m, t, ⟨hM, hN⟩, rfl, rfl⟩
 refine AMx.block ?_
 refine gS [(4, CE.obj (AObj.grow 5 1 UInt8 0 rowU8 [dg (Int.tmod m 10)])), (5, CE.str [dg (Int.tmod m 10)])] [(10 : Int) ≠ 0, InR .i64 (48 + (Int.tmod m 10)), flat 1 rowU8 [dg (Int.tmod m 10)] = [.s (u8 (IntKind.wrap .u8 (48 + (Int.tmod m 10))))], List.length ([dg (Int.tmod m 10)] : List UInt8) = 1, flat 1 rowU8 [dg (Int.tmod m 10)] = flat 1 rowU8 [dg (Int.tmod m 10)], List.length ([dg (Int.tmod m 10)] : List UInt8) = List.length ([dg (Int.tmod m 10)] : List UInt8), (List.length ([dg (Int.tmod m 10)] : List UInt8) : Int) ≤ 140737488355328, List.length ([dg (Int.tmod m 10)] : List UInt8) + List.length t ≤ maxLen] 17 [(0, vc (i6 m)), (3, vc (st ([dg (Int.tmod m 10)] ++ t)))] [] ⟨(show (10 : Int) ≠ 0 from (by first | omega | (have ht := tdiv_10 (n := m) (by omega); have hm := tmod_10 (n := m) (by omega); have hl := congrArg List.length hN; have h3 := num_le3 n; simp only [List.length_append] at hl; first | omega | ((try simp only [List.length_append, List.length_cons, List.length_nil]); omega)))), (show InR .i64 (48 + (Int.tmod m 10)) from (inR64 (by first | omega | (have ht := tdiv_10 (n := m) (by omega); have hm := tmod_10 (n := m) (by omega); have hl := congrArg List.length hN; have h3 := num_le3 n; simp only [List.length_append] at hl; first | omega | ((try simp only [List.length_append, List.length_cons, List.length_nil]); omega))) (by first | omega | (have ht := tdiv_10 (n := m) (by omega); have hm := tmod_10 (n := m) (by omega); have hl := congrArg List.length hN; have h3 := num_le3 n; simp only [List.length_append] at hl; first | omega | ((try simp only [List.length_append, List.length_cons, List.length_nil]); omega))))), (one_dr (by have hm := tmod_10 (n := m) (by omega); omega) (by have hm := tmod_10 (n := m) (by omega); omega)), rfl, rfl, rfl, (show (List.length ([dg (Int.tmod m 10)] : List UInt8) : Int) ≤ 140737488355328 from (by first | omega | (have ht := tdiv_10 (n := m) (by omega); have hm := tmod_10 (n := m) (by omega); have hl := congrArg List.length hN; have h3 := num_le3 n; simp only [List.length_append] at hl; first | omega | ((try simp only [List.length_append, List.length_cons, List.length_nil]); omega)))), (show List.length ([dg (Int.tmod m 10)] : List UInt8) + List.length t ≤ maxLen from (by simp only [List.length_append, List.length_cons, List.length_nil, maxLen]; first | omega | (first | omega | (have ht := tdiv_10 (n := m) (by omega); have hm := tmod_10 (n := m) (by omega); have hl := congrArg List.length hN; have h3 := num_le3 n; simp only [List.length_append] at hl; first | omega | ((try simp only [List.length_append, List.length_cons, List.length_nil]); omega)))))⟩ ?_
 rw [show Int.tmod m 10 = m % 10 from (tmod_10 (by omega)).1]
 refine gS [] [(10 : Int) ≠ 0, InR .i64 (Int.tdiv m 10)] 17 [(0, vc (i6 (Int.tdiv m 10))), (3, vc (st ([dg (m % 10)] ++ t)))] [] ⟨(show (10 : Int) ≠ 0 from (by first | omega | (have ht := tdiv_10 (n := m) (by omega); have hm := tmod_10 (n := m) (by omega); have hl := congrArg List.length hN; have h3 := num_le3 n; simp only [List.length_append] at hl; first | omega | ((try simp only [List.length_append, List.length_cons, List.length_nil]); omega)))), (show InR .i64 (Int.tdiv m 10) from (inR64 (by first | omega | (have ht := tdiv_10 (n := m) (by omega); have hm := tmod_10 (n := m) (by omega); have hl := congrArg List.length hN; have h3 := num_le3 n; simp only [List.length_append] at hl; first | omega | ((try simp only [List.length_append, List.length_cons, List.length_nil]); omega))) (by first | omega | (have ht := tdiv_10 (n := m) (by omega); have hm := tmod_10 (n := m) (by omega); have hl := congrArg List.length hN; have h3 := num_le3 n; simp only [List.length_append] at hl; first | omega | ((try simp only [List.length_append, List.length_cons, List.length_nil]); omega)))))⟩ ?_
 rw [show Int.tdiv m 10 = m / 10 from tdiv_10 (by omega)]
 refine gS [] [] 17 [(0, vc (i6 (m / 10))), (3, vc (st ([dg (m % 10)] ++ t))), (15, vc (bo (decide (m / 10 = 0))))] [] trivial ?_
 refine gC (m / 10 = 0) (fun hc1 => ?_) fun hc1 => ?_
 ·
  refine gS [] [] 17 [(2, vc (st ([dg (m % 10)] ++ t)))] [] trivial ?_
  exact gT (vc (st ([dg (m % 10)] ++ t))) (by rw [num_last hN (by omega) (by omega) hc1])
 ·
  refine AMx.skip ?_
  refine AMx.blk ?_
  refine AMx.ent_inv (s' := AS.lst 17 [(0, vc (i6 (m / 10))), (3, vc (st ([dg (m % 10)] ++ t)))] []) (ent_proj [0, 3] []) ?_
  refine AMx.inv ⟨_, ?_, m / 10, [dg (m % 10)] ++ t, ?_, rfl, ?_⟩
  rotate_left
  · exact ⟨by omega, num_next hN (by omega) (by omega) hc1⟩
  · rfl
  · omega
theorem f54_body : Tryd.f54.body = some (.seq (.region 0 (rg Tryd.f54 0) false) (.seq (.seq (.region 1 (rg Tryd.f54 1) false) (.cond (.tmp 3) (.seq (.region 2 (rg Tryd.f54 2) false) (.ret)) (.skip))) (.seq (.region 3 (rg Tryd.f54 3) false) (.ret)))) := by kernel_rfl
set_option maxRecDepth 100000 in
set_option maxHeartbeats 8000000 in
theorem bit_c (b : Bool) : Pure Tryd.prog 54 [tc (bo b)] (vc (st (bitS b))) := by
 refine Pure.of_body Tryd.func54 f54_body (by kernel_rfl) Tryd.ntmps54 (by kernel_rfl) (by kernel_rfl) ?_
 refine gS [] [] 4 [(0, vc (bo b))] [] trivial ?_
 refine gQ ?_
 refine gS [] [] 4 [(3, vc (bo b))] [] trivial ?_
 refine gB (b) (fun hc1 => ?_) fun hc1 => ?_
 ·
  try simp only [xT, xF] at hc1
  refine gS [] [] 4 [(2, vc (st [49]))] [] trivial ?_
  exact gT (vc (st [49])) (by rw [hc1]; rfl)
 ·
  try simp only [xT, xF] at hc1
  refine AMx.skip ?_
  refine gS [] [] 4 [(2, vc (st [48]))] [] trivial ?_
  exact gT (vc (st [48])) (by rw [hc1]; rfl)
theorem f55_body : Tryd.f55.body = some (.seq (.region 0 (rg Tryd.f55 0) false) (.seq (.seq (.region 1 (rg Tryd.f55 1) false) (.cond (.tmp 5) (.seq (.region 2 (rg Tryd.f55 2) false) (.ret)) (.skip))) (.seq (.region 3 (rg Tryd.f55 3) false) (.ret)))) := by kernel_rfl
set_option maxRecDepth 100000 in
set_option maxHeartbeats 8000000 in
theorem list_c (l : List Bytes) (hb : (AL.Sep.joinC 44 l).length ≤ 100000) : Pure Tryd.prog 55 [tc (AL.Fnv.slS l)] (vc (st (listT l))) := by
 refine Pure.of_body Tryd.func55 f55_body (by kernel_rfl) Tryd.ntmps55 (by kernel_rfl) (by kernel_rfl) ?_
 refine gS [] [] 8 [(0, vc (AL.Fnv.slS l))] [] trivial ?_
 refine gQ ?_
 refine gS [] [] 8 [(0, vc (AL.Fnv.slS l)), (5, vc (bo (decide ((List.length l : Int) = 0))))] [] trivial ?_
 refine gC ((List.length l : Int) = 0) (fun hc1 => ?_) fun hc1 => ?_
 ·
  refine gS [] [] 8 [(2, vc (st [45]))] [] trivial ?_
  exact gT (vc (st [45])) (by unfold listT; first | rw [if_pos hc1] | rw [if_neg hc1])
 ·
  refine AMx.skip ?_
  refine gS [(1, CE.call [] [] (vc (st (AL.Sep.joinC 44 l))) [])] [Spec Tryd.prog 20 [tc (AL.Fnv.slS l), tc (st [44])] (ofH []) (vc (st (AL.Sep.joinC 44 l))) (ofH [])] 8 [(2, vc (st (AL.Sep.joinC 44 l)))] [] (AL.Sep.Join_c 44 l (by first | omega | assumption)) ?_
  exact gT (vc (st (AL.Sep.joinC 44 l))) (by unfold listT; first | rw [if_pos hc1] | rw [if_neg hc1])
theorem f53_body : Tryd.f53.body = some (.seq (.region 0 (rg Tryd.f53 0) false) (.seq (.region 1 (rg Tryd.f53 1) false) (.seq (.seq (.region 2 (rg Tryd.f53 2) false) (.cond (.tmp 8) (.region 3 (rg Tryd.f53 3) false) (.skip))) (.seq (.seq (.region 4 (rg Tryd.f53 4) false) (.cond (.tmp 12) (.region 5 (rg Tryd.f53 5) false) (.skip))) (.seq (.region 6 (rg Tryd.f53 6) false) (.ret)))))) := by kernel_rfl
set_option maxRecDepth 100000 in
set_option maxHeartbeats 8000000 in
theorem row_c (x : Secret.RowV) (h0 : 0 ≤ x.1) (h1 : x.1 ≤ 999) : Pure Tryd.prog 53 [TV.agg [.s (i6 x.1), .s (bo x.2.1), .s (bo x.2.2)]] (vc (st (rowT x))) := by
 refine Pure.of_body Tryd.func53 f53_body (by kernel_rfl) Tryd.ntmps53 (by kernel_rfl) (by kernel_rfl) ?_
 refine gS [] [] 16 [(1, vp 1 0)] [(1, AObj.row [.s (i6 x.1), .s (bo x.2.1), .s (bo x.2.2)])] trivial ?_
 refine gS [(2, CE.call [] [] (vc (st (numS x.1))) [])] [Spec Tryd.prog 51 [tc (i6 x.1)] (ofH []) (vc (st (numS x.1))) (ofH [])] 16 [(1, vp 1 0), (3, vc (st (numS x.1)))] [(1, AObj.row [.s (i6 x.1), .s (bo x.2.1), .s (bo x.2.2)])] (number_c x.1 (by first | omega | (have h3 := num_le3 x.1; (try simp only [List.length_append, List.length_cons, List.length_nil]); omega)) (by first | omega | (have h3 := num_le3 x.1; (try simp only [List.length_append, List.length_cons, List.length_nil]); omega))) ?_
 refine gQ ?_
 refine gS [] [] 16 [(1, vp 1 0), (3, vc (st (numS x.1))), (8, vc (bo x.2.1))] [(1, AObj.row [.s (i6 x.1), .s (bo x.2.1), .s (bo x.2.2)])] trivial ?_
 refine gB (x.2.1) (fun hc1 => ?_) fun hc1 => ?_
 ·
  try simp only [xT, xF] at hc1
  refine gR [] [List.length (numS x.1 : List UInt8) + List.length ([33] : List UInt8) ≤ maxLen] 16 [(1, vp 1 0), (3, vc (st ((numS x.1) ++ [33])))] [(1, AObj.row [.s (i6 x.1), .s (bo x.2.1), .s (bo x.2.2)])] (show List.length (numS x.1 : List UInt8) + List.length ([33] : List UInt8) ≤ maxLen from (by simp only [List.length_append, List.length_cons, List.length_nil, maxLen]; first | omega | (first | omega | (have h3 := num_le3 x.1; (try simp only [List.length_append, List.length_cons, List.length_nil]); omega)))) ?_
  refine gQ ?_
  refine gS [] [] 16 [(3, vc (st ((numS x.1) ++ [33]))), (12, vc (bo x.2.2))] [] trivial ?_
  refine gB (x.2.2) (fun hc2 => ?_) fun hc2 => ?_
  ·
   try simp only [xT, xF] at hc2
   refine gR [] [List.length ((numS x.1) ++ [33] : List UInt8) + List.length ([35] : List UInt8) ≤ maxLen] 16 [(3, vc (st (((numS x.1) ++ [33]) ++ [35])))] [] (show List.length ((numS x.1) ++ [33] : List UInt8) + List.length ([35] : List UInt8) ≤ maxLen from (by simp only [List.length_append, List.length_cons, List.length_nil, maxLen]; first | omega | (first | omega | (have h3 := num_le3 x.1; (try simp only [List.length_append, List.length_cons, List.length_nil]); omega)))) ?_
   refine gS [] [] 16 [(2, vc (st (((numS x.1) ++ [33]) ++ [35])))] [] trivial ?_
   exact gT (vc (st (((numS x.1) ++ [33]) ++ [35]))) (by unfold rowT; simp [*])
  ·
   try simp only [xT, xF] at hc2
   refine AMx.skip ?_
   refine gS [] [] 16 [(2, vc (st ((numS x.1) ++ [33])))] [] trivial ?_
   exact gT (vc (st ((numS x.1) ++ [33]))) (by unfold rowT; simp [*])
 ·
  try simp only [xT, xF] at hc1
  refine AMx.skip ?_
  refine gQ ?_
  refine gS [] [] 16 [(3, vc (st (numS x.1))), (12, vc (bo x.2.2))] [] trivial ?_
  refine gB (x.2.2) (fun hc3 => ?_) fun hc3 => ?_
  ·
   try simp only [xT, xF] at hc3
   refine gR [] [List.length (numS x.1 : List UInt8) + List.length ([35] : List UInt8) ≤ maxLen] 16 [(3, vc (st ((numS x.1) ++ [35])))] [] (show List.length (numS x.1 : List UInt8) + List.length ([35] : List UInt8) ≤ maxLen from (by simp only [List.length_append, List.length_cons, List.length_nil, maxLen]; first | omega | (first | omega | (have h3 := num_le3 x.1; (try simp only [List.length_append, List.length_cons, List.length_nil]); omega)))) ?_
   refine gS [] [] 16 [(2, vc (st ((numS x.1) ++ [35])))] [] trivial ?_
   exact gT (vc (st ((numS x.1) ++ [35]))) (by unfold rowT; simp [*])
  ·
   try simp only [xT, xF] at hc3
   refine AMx.skip ?_
   refine gS [] [] 16 [(2, vc (st (numS x.1)))] [] trivial ?_
   exact gT (vc (st (numS x.1))) (by unfold rowT; simp [*])
theorem f21_body : Tryd.f21.body = some (.seq (.region 0 (rg Tryd.f21 0) false) (.seq (.seq (.region 1 (rg Tryd.f21 1) false) (.block 0 (.seq (.region 2 (rg Tryd.f21 2) false) (.cond (.tmp 9) (.seq (.region 3 (rg Tryd.f21 3) false) (.ret)) (.seq (.region 4 (rg Tryd.f21 4) false) (.cond (.tmp 15) (.seq (.region 5 (rg Tryd.f21 5) false) (.ret)) (.seq (.region 6 (rg Tryd.f21 6) false) (.cond (.tmp 21) (.seq (.region 7 (rg Tryd.f21 7) false) (.seq (.seq (.region 8 (rg Tryd.f21 8) false) (.cond (.tmp 25) (.region 9 (rg Tryd.f21 9) false) (.skip))) (.seq (.region 10 (rg Tryd.f21 10) false) (.ret)))) (.seq (.region 11 (rg Tryd.f21 11) false) (.cond (.tmp 34) (.seq (.region 12 (rg Tryd.f21 12) false) (.seq (.seq (.region 13 (rg Tryd.f21 13) false) (.block 1 (.loop (.seq (.region 14 (rg Tryd.f21 14) false) (.seq (.cond (.tmp 41) (.skip) (.exit 1)) (.seq (.block 2 (.seq (.region 15 (rg Tryd.f21 15) false) (.region 16 (rg Tryd.f21 16) false))) (.region 17 (rg Tryd.f21 17) false))))))) (.seq (.region 18 (rg Tryd.f21 18) true) (.ret)))) (.seq (.region 19 (rg Tryd.f21 19) false) (.cond (.tmp 65) (.seq (.region 20 (rg Tryd.f21 20) false) (.ret)) (.seq (.region 21 (rg Tryd.f21 21) false) (.cond (.tmp 71) (.seq (.seq (.region 22 (rg Tryd.f21 22) false) (.cond (.tmp 74) (.seq (.region 23 (rg Tryd.f21 23) false) (.ret)) (.skip))) (.seq (.region 24 (rg Tryd.f21 24) false) (.ret))) (.skip))))))))))))))) (.seq (.region 25 (rg Tryd.f21 25) false) (.ret)))) := by kernel_rfl
set_option maxRecDepth 100000 in
set_option maxHeartbeats 8000000 in
theorem words_c (r : RepV) (hf : checkR r = 0) : Pure Tryd.prog 21 [TV.agg [.s (u8 r.kind), .s (i6 r.err), .s (i6 r.n), .s (st r.data), .s (AL.Fnv.slS r.names), .s (i6 r.sec.1), .s (bo r.sec.2.1), .s (i6 r.sec.2.2.1), .s (Secret.slR r.sec.2.2.2), .s (bo r.flag)]] (vc (AL.Fnv.slS (wordsS r))) := by
 refine Pure.of_body Tryd.func21 f21_body (by kernel_rfl) Tryd.ntmps21 (by kernel_rfl) (by kernel_rfl) ?_
 have hw := words_rng hf
 have hr := words_row hf
 refine gS [] [] 78 [(1, vp 1 0)] [(1, AObj.row [.s (u8 r.kind), .s (i6 r.err), .s (i6 r.n), .s (st r.data), .s (AL.Fnv.slS r.names), .s (i6 r.sec.1), .s (bo r.sec.2.1), .s (i6 r.sec.2.2.1), .s (Secret.slR r.sec.2.2.2), .s (bo r.flag)])] trivial ?_
 refine gQ ?_
 refine gS [] [] 78 [(1, vp 1 0), (8, vc (u8 r.kind))] [(1, AObj.row [.s (u8 r.kind), .s (i6 r.err), .s (i6 r.n), .s (st r.data), .s (AL.Fnv.slS r.names), .s (i6 r.sec.1), .s (bo r.sec.2.1), .s (i6 r.sec.2.2.1), .s (Secret.slR r.sec.2.2.2), .s (bo r.flag)])] trivial ?_
 refine AMx.block ?_
 refine gS [] [] 78 [(1, vp 1 0), (8, vc (u8 r.kind)), (9, vc (bo (decide (r.kind = 0))))] [(1, AObj.row [.s (u8 r.kind), .s (i6 r.err), .s (i6 r.n), .s (st r.data), .s (AL.Fnv.slS r.names), .s (i6 r.sec.1), .s (bo r.sec.2.1), .s (i6 r.sec.2.2.1), .s (Secret.slR r.sec.2.2.2), .s (bo r.flag)])] trivial ?_
 refine gC (r.kind = 0) (fun hc1 => ?_) fun hc1 => ?_
 ·
  refine gS [(2, CE.call [] [] (vc (st (numS r.err))) []), (3, CE.obj (AObj.grow 9 1 Bytes [] AL.Fnv.rowS [[101, 114, 114, 111, 114], numS r.err]))] [Spec Tryd.prog 51 [tc (i6 r.err)] (ofH []) (vc (st (numS r.err))) (ofH []), flat 1 AL.Fnv.rowS [[101, 114, 114, 111, 114], numS r.err] = [.s (st [101, 114, 114, 111, 114]), .s (st (numS r.err))], List.length ([[101, 114, 114, 111, 114], numS r.err] : List Bytes) = 2] 78 [(2, vo 14)] [(14, AObj.grow 9 1 Bytes [] AL.Fnv.rowS [[101, 114, 114, 111, 114], numS r.err])] ⟨(number_c r.err (by first | omega | exact list_rows (by omega) | exact list_names hf (by omega) | (have z := hr (by omega) _ (Lib.getD_mem (0, false, false) _ k (by omega)); omega) | ((try simp only [List.length_append, List.length_cons, List.length_nil, List.length_take, List.length_map]); omega)) (by first | omega | exact list_rows (by omega) | exact list_names hf (by omega) | (have z := hr (by omega) _ (Lib.getD_mem (0, false, false) _ k (by omega)); omega) | ((try simp only [List.length_append, List.length_cons, List.length_nil, List.length_take, List.length_map]); omega))), rfl, rfl⟩ ?_
  refine AMx.ent (s' := AS.lst 78 [(2, vc (AL.Fnv.slS [[101, 114, 114, 111, 114], numS r.err]))] []) (ent_freeze (id := 14) (T := 9) (by kernel_rfl)) ?_
  exact gT (vc (AL.Fnv.slS [[101, 114, 114, 111, 114], numS r.err])) (by rw [show wordsS r = [[101, 114, 114, 111, 114], numS r.err] from by unfold wordsS; grind])
 ·
  refine gS [] [] 78 [(1, vp 1 0), (8, vc (u8 r.kind)), (15, vc (bo (decide (r.kind = 2))))] [(1, AObj.row [.s (u8 r.kind), .s (i6 r.err), .s (i6 r.n), .s (st r.data), .s (AL.Fnv.slS r.names), .s (i6 r.sec.1), .s (bo r.sec.2.1), .s (i6 r.sec.2.2.1), .s (Secret.slR r.sec.2.2.2), .s (bo r.flag)])] trivial ?_
  refine gC (r.kind = 2) (fun hc2 => ?_) fun hc2 => ?_
  ·
   refine gS [(2, CE.call [] [] (vc (st (numS r.n))) []), (3, CE.obj (AObj.grow 9 1 Bytes [] AL.Fnv.rowS [[111, 107], [110, 117, 109, 98, 101, 114], numS r.n]))] [Spec Tryd.prog 51 [tc (i6 r.n)] (ofH []) (vc (st (numS r.n))) (ofH []), flat 1 AL.Fnv.rowS [[111, 107], [110, 117, 109, 98, 101, 114], numS r.n] = [.s (st [111, 107]), .s (st [110, 117, 109, 98, 101, 114]), .s (st (numS r.n))], List.length ([[111, 107], [110, 117, 109, 98, 101, 114], numS r.n] : List Bytes) = 3] 78 [(2, vo 20)] [(20, AObj.grow 9 1 Bytes [] AL.Fnv.rowS [[111, 107], [110, 117, 109, 98, 101, 114], numS r.n])] ⟨(number_c r.n (by first | omega | exact list_rows (by omega) | exact list_names hf (by omega) | (have z := hr (by omega) _ (Lib.getD_mem (0, false, false) _ k (by omega)); omega) | ((try simp only [List.length_append, List.length_cons, List.length_nil, List.length_take, List.length_map]); omega)) (by first | omega | exact list_rows (by omega) | exact list_names hf (by omega) | (have z := hr (by omega) _ (Lib.getD_mem (0, false, false) _ k (by omega)); omega) | ((try simp only [List.length_append, List.length_cons, List.length_nil, List.length_take, List.length_map]); omega))), rfl, rfl⟩ ?_
   refine AMx.ent (s' := AS.lst 78 [(2, vc (AL.Fnv.slS [[111, 107], [110, 117, 109, 98, 101, 114], numS r.n]))] []) (ent_freeze (id := 20) (T := 9) (by kernel_rfl)) ?_
   exact gT (vc (AL.Fnv.slS [[111, 107], [110, 117, 109, 98, 101, 114], numS r.n])) (by rw [show wordsS r = [[111, 107], [110, 117, 109, 98, 101, 114], numS r.n] from by unfold wordsS; grind])
  ·
   refine gS [] [] 78 [(1, vp 1 0), (8, vc (u8 r.kind)), (21, vc (bo (decide (r.kind = 3))))] [(1, AObj.row [.s (u8 r.kind), .s (i6 r.err), .s (i6 r.n), .s (st r.data), .s (AL.Fnv.slS r.names), .s (i6 r.sec.1), .s (bo r.sec.2.1), .s (i6 r.sec.2.2.1), .s (Secret.slR r.sec.2.2.2), .s (bo r.flag)])] trivial ?_
   refine gC (r.kind = 3) (fun hc3 => ?_) fun hc3 => ?_
   ·
    refine gS [] [] 78 [(1, vp 1 0), (3, vc (st [45]))] [(1, AObj.row [.s (u8 r.kind), .s (i6 r.err), .s (i6 r.n), .s (st r.data), .s (AL.Fnv.slS r.names), .s (i6 r.sec.1), .s (bo r.sec.2.1), .s (i6 r.sec.2.2.1), .s (Secret.slR r.sec.2.2.2), .s (bo r.flag)])] trivial ?_
    refine gQ ?_
    refine gS [] [] 78 [(1, vp 1 0), (3, vc (st [45])), (25, vc (bo (!decide (r.data = []))))] [(1, AObj.row [.s (u8 r.kind), .s (i6 r.err), .s (i6 r.n), .s (st r.data), .s (AL.Fnv.slS r.names), .s (i6 r.sec.1), .s (bo r.sec.2.1), .s (i6 r.sec.2.2.1), .s (Secret.slR r.sec.2.2.2), .s (bo r.flag)])] trivial ?_
    refine gN (r.data = []) (fun hc4 => ?_) fun hc4 => ?_
    ·
     refine gR [(2, CE.call [] [] (vc (st (hexS r.data))) [])] [Spec Tryd.prog 52 [tc (st r.data)] (ofH []) (vc (st (hexS r.data))) (ofH [])] 78 [(1, vp 1 0), (3, vc (st (hexS r.data)))] [(1, AObj.row [.s (u8 r.kind), .s (i6 r.err), .s (i6 r.n), .s (st r.data), .s (AL.Fnv.slS r.names), .s (i6 r.sec.1), .s (bo r.sec.2.1), .s (i6 r.sec.2.2.1), .s (Secret.slR r.sec.2.2.2), .s (bo r.flag)])] (Ask.Hex_c r.data (by first | omega | exact list_rows (by omega) | exact list_names hf (by omega) | (have z := hr (by omega) _ (Lib.getD_mem (0, false, false) _ k (by omega)); omega) | ((try simp only [List.length_append, List.length_cons, List.length_nil, List.length_take, List.length_map]); omega))) ?_
     refine gS [(2, CE.call [] [] (vc (st (numS r.n))) []), (4, CE.obj (AObj.grow 9 1 Bytes [] AL.Fnv.rowS [[111, 107], [102, 111, 117, 110, 100], numS r.n, hexS r.data]))] [Spec Tryd.prog 51 [tc (i6 r.n)] (ofH []) (vc (st (numS r.n))) (ofH []), flat 1 AL.Fnv.rowS [[111, 107], [102, 111, 117, 110, 100], numS r.n, hexS r.data] = [.s (st [111, 107]), .s (st [102, 111, 117, 110, 100]), .s (st (numS r.n)), .s (st (hexS r.data))], List.length ([[111, 107], [102, 111, 117, 110, 100], numS r.n, hexS r.data] : List Bytes) = 4] 78 [(2, vo 33)] [(33, AObj.grow 9 1 Bytes [] AL.Fnv.rowS [[111, 107], [102, 111, 117, 110, 100], numS r.n, hexS r.data])] ⟨(number_c r.n (by first | omega | exact list_rows (by omega) | exact list_names hf (by omega) | (have z := hr (by omega) _ (Lib.getD_mem (0, false, false) _ k (by omega)); omega) | ((try simp only [List.length_append, List.length_cons, List.length_nil, List.length_take, List.length_map]); omega)) (by first | omega | exact list_rows (by omega) | exact list_names hf (by omega) | (have z := hr (by omega) _ (Lib.getD_mem (0, false, false) _ k (by omega)); omega) | ((try simp only [List.length_append, List.length_cons, List.length_nil, List.length_take, List.length_map]); omega))), rfl, rfl⟩ ?_
     refine AMx.ent (s' := AS.lst 78 [(2, vc (AL.Fnv.slS [[111, 107], [102, 111, 117, 110, 100], numS r.n, hexS r.data]))] []) (ent_freeze (id := 33) (T := 9) (by kernel_rfl)) ?_
     exact gT (vc (AL.Fnv.slS [[111, 107], [102, 111, 117, 110, 100], numS r.n, hexS r.data])) (by rw [show wordsS r = [[111, 107], [102, 111, 117, 110, 100], numS r.n, hexS r.data] from by unfold wordsS; grind])
    ·
     refine AMx.skip ?_
     refine gS [(2, CE.call [] [] (vc (st (numS r.n))) []), (4, CE.obj (AObj.grow 9 1 Bytes [] AL.Fnv.rowS [[111, 107], [102, 111, 117, 110, 100], numS r.n, [45]]))] [Spec Tryd.prog 51 [tc (i6 r.n)] (ofH []) (vc (st (numS r.n))) (ofH []), flat 1 AL.Fnv.rowS [[111, 107], [102, 111, 117, 110, 100], numS r.n, [45]] = [.s (st [111, 107]), .s (st [102, 111, 117, 110, 100]), .s (st (numS r.n)), .s (st [45])], List.length ([[111, 107], [102, 111, 117, 110, 100], numS r.n, [45]] : List Bytes) = 4] 78 [(2, vo 33)] [(33, AObj.grow 9 1 Bytes [] AL.Fnv.rowS [[111, 107], [102, 111, 117, 110, 100], numS r.n, [45]])] ⟨(number_c r.n (by first | omega | exact list_rows (by omega) | exact list_names hf (by omega) | (have z := hr (by omega) _ (Lib.getD_mem (0, false, false) _ k (by omega)); omega) | ((try simp only [List.length_append, List.length_cons, List.length_nil, List.length_take, List.length_map]); omega)) (by first | omega | exact list_rows (by omega) | exact list_names hf (by omega) | (have z := hr (by omega) _ (Lib.getD_mem (0, false, false) _ k (by omega)); omega) | ((try simp only [List.length_append, List.length_cons, List.length_nil, List.length_take, List.length_map]); omega))), rfl, rfl⟩ ?_
     refine AMx.ent (s' := AS.lst 78 [(2, vc (AL.Fnv.slS [[111, 107], [102, 111, 117, 110, 100], numS r.n, [45]]))] []) (ent_freeze (id := 33) (T := 9) (by kernel_rfl)) ?_
     exact gT (vc (AL.Fnv.slS [[111, 107], [102, 111, 117, 110, 100], numS r.n, [45]])) (by rw [show wordsS r = [[111, 107], [102, 111, 117, 110, 100], numS r.n, [45]] from by unfold wordsS; grind])
   ·
    refine gS [] [] 78 [(1, vp 1 0), (8, vc (u8 r.kind)), (34, vc (bo (decide (r.kind = 4))))] [(1, AObj.row [.s (u8 r.kind), .s (i6 r.err), .s (i6 r.n), .s (st r.data), .s (AL.Fnv.slS r.names), .s (i6 r.sec.1), .s (bo r.sec.2.1), .s (i6 r.sec.2.2.1), .s (Secret.slR r.sec.2.2.2), .s (bo r.flag)])] trivial ?_
    refine gC (r.kind = 4) (fun hc5 => ?_) fun hc5 => ?_
    ·
     refine gS [] [] 78 [(1, vp 1 0), (4, vc (SC.nilsl))] [(1, AObj.row [.s (u8 r.kind), .s (i6 r.err), .s (i6 r.n), .s (st r.data), .s (AL.Fnv.slS r.names), .s (i6 r.sec.1), .s (bo r.sec.2.1), .s (i6 r.sec.2.2.1), .s (Secret.slR r.sec.2.2.2), .s (bo r.flag)])] trivial ?_
     refine gQ ?_
     refine gS [] [] 78 [(1, vp 1 0), (4, vc (SC.nilsl)), (38, vc (Secret.slR r.sec.2.2.2)), (39, vc (i6 (List.length r.sec.2.2.2 : Int))), (40, vc (i6 0))] [(1, AObj.row [.s (u8 r.kind), .s (i6 r.err), .s (i6 r.n), .s (st r.data), .s (AL.Fnv.slS r.names), .s (i6 r.sec.1), .s (bo r.sec.2.1), .s (i6 r.sec.2.2.1), .s (Secret.slR r.sec.2.2.2), .s (bo r.flag)])] trivial ?_
     refine AMx.block ?_
     refine AMx.ent (s' := AS.lst 78 [(1, vp 1 0), (4, vo 4), (38, vc (Secret.slR r.sec.2.2.2)), (39, vc (i6 (List.length r.sec.2.2.2 : Int))), (40, vc (i6 0))] [(4, AObj.grow 9 1 Bytes [] AL.Fnv.rowS []), (1, AObj.row [.s (u8 r.kind), .s (i6 r.err), .s (i6 r.n), .s (st r.data), .s (AL.Fnv.slS r.names), .s (i6 r.sec.1), .s (bo r.sec.2.1), .s (i6 r.sec.2.2.1), .s (Secret.slR r.sec.2.2.2), .s (bo r.flag)])]) (ent_adopt (t := 4) (d := 4) 9 1 Bytes [] AL.Fnv.rowS (by kernel_rfl) (by kernel_rfl) (by kernel_rfl) (by kernel_rfl)) ?_
     refine AMx.ent (s' := AS.lst 78 [(1, vp 1 0), (4, vo 4), (38, vc (Secret.slR r.sec.2.2.2)), (39, vc (i6 (List.length r.sec.2.2.2 : Int))), (40, vc (i6 0))] [(1, AObj.row [.s (u8 r.kind), .s (i6 r.err), .s (i6 r.n), .s (st r.data), .s (AL.Fnv.slS r.names), .s (i6 r.sec.1), .s (bo r.sec.2.1), .s (i6 r.sec.2.2.1), .s (Secret.slR r.sec.2.2.2), .s (bo r.flag)]), (4, AObj.grow 9 1 Bytes [] AL.Fnv.rowS [])]) (ent_proj [1, 4, 38, 39, 40] [1, 4]) ?_
     refine AMx.loop (fun mm ss => ∃ (k : Nat), (k ≤ r.sec.2.2.2.length) ∧ mm = r.sec.2.2.2.length - k ∧ ss = AS.lst 78 [(1, vp 1 0), (4, vo 4), (38, vc (Secret.slR r.sec.2.2.2)), (39, vc (i6 (List.length r.sec.2.2.2 : Int))), (40, vc (i6 (k : Int)))] [(1, AObj.row [.s (u8 r.kind), .s (i6 r.err), .s (i6 r.n), .s (st r.data), .s (AL.Fnv.slS r.names), .s (i6 r.sec.1), .s (bo r.sec.2.1), .s (i6 r.sec.2.2.1), .s (Secret.slR r.sec.2.2.2), .s (bo r.flag)]), (4, AObj.grow 9 1 Bytes [] AL.Fnv.rowS ((List.take k r.sec.2.2.2).map rowT))]) ⟨0, ?_, rfl, ?_⟩ ?_
     · omega
     · rfl
     rintro mm ss ⟨k, hI, rfl, rfl⟩
     refine gS [] [] 78 [(1, vp 1 0), (4, vo 4), (38, vc (Secret.slR r.sec.2.2.2)), (39, vc (i6 (List.length r.sec.2.2.2 : Int))), (40, vc (i6 (k : Int))), (41, vc (bo (decide ((k : Int) < (List.length r.sec.2.2.2 : Int)))))] [(1, AObj.row [.s (u8 r.kind), .s (i6 r.err), .s (i6 r.n), .s (st r.data), .s (AL.Fnv.slS r.names), .s (i6 r.sec.1), .s (bo r.sec.2.1), .s (i6 r.sec.2.2.1), .s (Secret.slR r.sec.2.2.2), .s (bo r.flag)]), (4, AObj.grow 9 1 Bytes [] AL.Fnv.rowS ((List.take k r.sec.2.2.2).map rowT))] trivial ?_
     refine gQ ?_
     refine gC ((k : Int) < (List.length r.sec.2.2.2 : Int)) (fun hc6 => ?_) fun hc6 => ?_
     ·
      refine AMx.skip ?_
      refine gQ ?_
      refine AMx.block ?_
      refine gS [] [(0 : Int) ≤ (k : Int), (k : Int) < List.length r.sec.2.2.2] 78 [(1, vp 1 0), (4, vo 4), (6, vp 6 0), (38, vc (Secret.slR r.sec.2.2.2)), (39, vc (i6 (List.length r.sec.2.2.2 : Int))), (40, vc (i6 (k : Int)))] [(1, AObj.row [.s (u8 r.kind), .s (i6 r.err), .s (i6 r.n), .s (st r.data), .s (AL.Fnv.slS r.names), .s (i6 r.sec.1), .s (bo r.sec.2.1), .s (i6 r.sec.2.2.1), .s (Secret.slR r.sec.2.2.2), .s (bo r.flag)]), (4, AObj.grow 9 1 Bytes [] AL.Fnv.rowS ((List.take k r.sec.2.2.2).map rowT)), (6, AObj.row [.s (i6 ((List.getD r.sec.2.2.2 k (0, false, false)).1)), .s (bo ((List.getD r.sec.2.2.2 k (0, false, false)).2.1)), .s (bo ((List.getD r.sec.2.2.2 k (0, false, false)).2.2))])] ⟨(show (0 : Int) ≤ (k : Int) from (by first | omega | exact list_rows (by omega) | exact list_names hf (by omega) | (have z := hr (by omega) _ (Lib.getD_mem (0, false, false) _ k (by omega)); omega) | ((try simp only [List.length_append, List.length_cons, List.length_nil, List.length_take, List.length_map]); omega))), (show (k : Int) < List.length r.sec.2.2.2 from (by first | omega | exact list_rows (by omega) | exact list_names hf (by omega) | (have z := hr (by omega) _ (Lib.getD_mem (0, false, false) _ k (by omega)); omega) | ((try simp only [List.length_append, List.length_cons, List.length_nil, List.length_take, List.length_map]); omega)))⟩ ?_
      refine gR [(2, CE.call [] [] (vc (st (rowT (List.getD r.sec.2.2.2 k (0, false, false))))) []), (3, CE.obj (AObj.grow 9 1 Bytes [] AL.Fnv.rowS [rowT (List.getD r.sec.2.2.2 k (0, false, false))])), (4, CE.obj (AObj.grow 9 1 Bytes [] AL.Fnv.rowS (((List.take k r.sec.2.2.2).map rowT) ++ [rowT (List.getD r.sec.2.2.2 k (0, false, false))])))] [Spec Tryd.prog 53 [TV.agg [.s (i6 ((List.getD r.sec.2.2.2 k (0, false, false)).1)), .s (bo ((List.getD r.sec.2.2.2 k (0, false, false)).2.1)), .s (bo ((List.getD r.sec.2.2.2 k (0, false, false)).2.2))]] (ofH []) (vc (st (rowT (List.getD r.sec.2.2.2 k (0, false, false))))) (ofH []), flat 1 AL.Fnv.rowS [rowT (List.getD r.sec.2.2.2 k (0, false, false))] = [.s (st (rowT (List.getD r.sec.2.2.2 k (0, false, false))))], List.length ([rowT (List.getD r.sec.2.2.2 k (0, false, false))] : List Bytes) = 1, AppC (flat 1 AL.Fnv.rowS [rowT (List.getD r.sec.2.2.2 k (0, false, false))]) (List.length ([rowT (List.getD r.sec.2.2.2 k (0, false, false))] : List Bytes)) 16 (AObj.grow 9 1 Bytes [] AL.Fnv.rowS ((List.take k r.sec.2.2.2).map rowT)) (AObj.grow 9 1 Bytes [] AL.Fnv.rowS (((List.take k r.sec.2.2.2).map rowT) ++ [rowT (List.getD r.sec.2.2.2 k (0, false, false))]))] 78 [(1, vp 1 0), (4, vo 48), (38, vc (Secret.slR r.sec.2.2.2)), (39, vc (i6 (List.length r.sec.2.2.2 : Int))), (40, vc (i6 (k : Int)))] [(1, AObj.row [.s (u8 r.kind), .s (i6 r.err), .s (i6 r.n), .s (st r.data), .s (AL.Fnv.slS r.names), .s (i6 r.sec.1), .s (bo r.sec.2.1), .s (i6 r.sec.2.2.1), .s (Secret.slR r.sec.2.2.2), .s (bo r.flag)]), (48, AObj.grow 9 1 Bytes [] AL.Fnv.rowS (((List.take k r.sec.2.2.2).map rowT) ++ [rowT (List.getD r.sec.2.2.2 k (0, false, false))]))] ⟨(row_c (List.getD r.sec.2.2.2 k (0, false, false)) (by first | omega | exact list_rows (by omega) | exact list_names hf (by omega) | (have z := hr (by omega) _ (Lib.getD_mem (0, false, false) _ k (by omega)); omega) | ((try simp only [List.length_append, List.length_cons, List.length_nil, List.length_take, List.length_map]); omega)) (by first | omega | exact list_rows (by omega) | exact list_names hf (by omega) | (have z := hr (by omega) _ (Lib.getD_mem (0, false, false) _ k (by omega)); omega) | ((try simp only [List.length_append, List.length_cons, List.length_nil, List.length_take, List.length_map]); omega))), rfl, rfl, (⟨_, rfl, rfl, rfl, by simp only [List.length_append, List.length_cons, List.length_nil, List.length_take, List.length_map]; omega, by simp only [maxLen, List.length_append, List.length_cons, List.length_nil, List.length_take, List.length_map]; omega⟩)⟩ ?_
      refine AMx.blk ?_
      refine gR [] [InR .i64 ((k : Int) + 1)] 78 [(1, vp 1 0), (4, vo 48), (38, vc (Secret.slR r.sec.2.2.2)), (39, vc (i6 (List.length r.sec.2.2.2 : Int))), (40, vc (i6 ((k : Int) + 1)))] [(1, AObj.row [.s (u8 r.kind), .s (i6 r.err), .s (i6 r.n), .s (st r.data), .s (AL.Fnv.slS r.names), .s (i6 r.sec.1), .s (bo r.sec.2.1), .s (i6 r.sec.2.2.1), .s (Secret.slR r.sec.2.2.2), .s (bo r.flag)]), (48, AObj.grow 9 1 Bytes [] AL.Fnv.rowS (((List.take k r.sec.2.2.2).map rowT) ++ [rowT (List.getD r.sec.2.2.2 k (0, false, false))]))] (show InR .i64 ((k : Int) + 1) from (inR64 (by first | omega | exact list_rows (by omega) | exact list_names hf (by omega) | (have z := hr (by omega) _ (Lib.getD_mem (0, false, false) _ k (by omega)); omega) | ((try simp only [List.length_append, List.length_cons, List.length_nil, List.length_take, List.length_map]); omega)) (by first | omega | exact list_rows (by omega) | exact list_names hf (by omega) | (have z := hr (by omega) _ (Lib.getD_mem (0, false, false) _ k (by omega)); omega) | ((try simp only [List.length_append, List.length_cons, List.length_nil, List.length_take, List.length_map]); omega)))) ?_
      refine AMx.ent_inv (s' := AS.lst 78 [(1, vp 1 0), (4, vo 4), (38, vc (Secret.slR r.sec.2.2.2)), (39, vc (i6 (List.length r.sec.2.2.2 : Int))), (40, vc (i6 ((k : Int) + 1)))] [(1, AObj.row [.s (u8 r.kind), .s (i6 r.err), .s (i6 r.n), .s (st r.data), .s (AL.Fnv.slS r.names), .s (i6 r.sec.1), .s (bo r.sec.2.1), .s (i6 r.sec.2.2.1), .s (Secret.slR r.sec.2.2.2), .s (bo r.flag)]), (4, AObj.grow 9 1 Bytes [] AL.Fnv.rowS (((List.take k r.sec.2.2.2).map rowT) ++ [rowT (List.getD r.sec.2.2.2 k (0, false, false))]))]) (ent_swap 48 4 (by kernel_rfl) (by kernel_rfl)) ?_
      refine AMx.ent_inv (s' := AS.lst 78 [(1, vp 1 0), (4, vo 4), (38, vc (Secret.slR r.sec.2.2.2)), (39, vc (i6 (List.length r.sec.2.2.2 : Int))), (40, vc (i6 ((k : Int) + 1)))] [(1, AObj.row [.s (u8 r.kind), .s (i6 r.err), .s (i6 r.n), .s (st r.data), .s (AL.Fnv.slS r.names), .s (i6 r.sec.1), .s (bo r.sec.2.1), .s (i6 r.sec.2.2.1), .s (Secret.slR r.sec.2.2.2), .s (bo r.flag)]), (4, AObj.grow 9 1 Bytes [] AL.Fnv.rowS (((List.take k r.sec.2.2.2).map rowT) ++ [rowT (List.getD r.sec.2.2.2 k (0, false, false))]))]) (ent_proj [1, 4, 38, 39, 40] [1, 4]) ?_
      refine AMx.inv ⟨_, ?_, k + 1, ?_, rfl, ?_⟩
      rotate_left
      · omega
      · rw [← rowsT_step r.sec.2.2.2 k (by omega)]; rfl
      · omega
     ·
      refine AMx.exit ?_
      refine AMx.code_exit ?_
      refine AMx.inv_exit ?_
      refine AMx.blk_exit ?_
      rw [show List.take k r.sec.2.2.2 = r.sec.2.2.2 from List.take_of_length_le (by omega)]
      refine gY [(3, CE.call [] [] (vc (st (numS r.sec.1))) []), (7, CE.call [] [] (vc (st (bitS r.sec.2.1))) []), (11, CE.call [] [] (vc (st (numS r.sec.2.2.1))) []), (13, CE.call [4] [] (vc (st (listT (r.sec.2.2.2.map rowT)))) []), (14, CE.obj (AObj.grow 9 1 Bytes [] AL.Fnv.rowS [[111, 107], [97, 98, 111, 117, 116], numS r.sec.1, bitS r.sec.2.1, numS r.sec.2.2.1, listT (r.sec.2.2.2.map rowT)]))] [(2, [1]), (6, [1]), (10, [1]), (13, [4])] [Spec Tryd.prog 51 [tc (i6 r.sec.1)] (ofH []) (vc (st (numS r.sec.1))) (ofH []), Spec Tryd.prog 54 [tc (bo r.sec.2.1)] (ofH []) (vc (st (bitS r.sec.2.1))) (ofH []), Spec Tryd.prog 51 [tc (i6 r.sec.2.2.1)] (ofH []) (vc (st (numS r.sec.2.2.1))) (ofH []), Spec Tryd.prog 55 [tc (AL.Fnv.slS (r.sec.2.2.2.map rowT))] (ofH []) (vc (st (listT (r.sec.2.2.2.map rowT)))) (ofH []), flat 1 AL.Fnv.rowS [[111, 107], [97, 98, 111, 117, 116], numS r.sec.1, bitS r.sec.2.1, numS r.sec.2.2.1, listT (r.sec.2.2.2.map rowT)] = [.s (st [111, 107]), .s (st [97, 98, 111, 117, 116]), .s (st (numS r.sec.1)), .s (st (bitS r.sec.2.1)), .s (st (numS r.sec.2.2.1)), .s (st (listT (r.sec.2.2.2.map rowT)))], List.length ([[111, 107], [97, 98, 111, 117, 116], numS r.sec.1, bitS r.sec.2.1, numS r.sec.2.2.1, listT (r.sec.2.2.2.map rowT)] : List Bytes) = 6] 78 [(2, vo 64)] [(64, AObj.grow 9 1 Bytes [] AL.Fnv.rowS [[111, 107], [97, 98, 111, 117, 116], numS r.sec.1, bitS r.sec.2.1, numS r.sec.2.2.1, listT (r.sec.2.2.2.map rowT)])] mixed ⟨(number_c r.sec.1 (by first | omega | exact list_rows (by omega) | exact list_names hf (by omega) | (have z := hr (by omega) _ (Lib.getD_mem (0, false, false) _ k (by omega)); omega) | ((try simp only [List.length_append, List.length_cons, List.length_nil, List.length_take, List.length_map]); omega)) (by first | omega | exact list_rows (by omega) | exact list_names hf (by omega) | (have z := hr (by omega) _ (Lib.getD_mem (0, false, false) _ k (by omega)); omega) | ((try simp only [List.length_append, List.length_cons, List.length_nil, List.length_take, List.length_map]); omega))), (bit_c r.sec.2.1), (number_c r.sec.2.2.1 (by first | omega | exact list_rows (by omega) | exact list_names hf (by omega) | (have z := hr (by omega) _ (Lib.getD_mem (0, false, false) _ k (by omega)); omega) | ((try simp only [List.length_append, List.length_cons, List.length_nil, List.length_take, List.length_map]); omega)) (by first | omega | exact list_rows (by omega) | exact list_names hf (by omega) | (have z := hr (by omega) _ (Lib.getD_mem (0, false, false) _ k (by omega)); omega) | ((try simp only [List.length_append, List.length_cons, List.length_nil, List.length_take, List.length_map]); omega))), (list_c (r.sec.2.2.2.map rowT) (by first | omega | exact list_rows (by omega) | exact list_names hf (by omega) | (have z := hr (by omega) _ (Lib.getD_mem (0, false, false) _ k (by omega)); omega) | ((try simp only [List.length_append, List.length_cons, List.length_nil, List.length_take, List.length_map]); omega))), rfl, rfl⟩ ?_
      refine AMx.ent (s' := AS.lst 78 [(2, vc (AL.Fnv.slS [[111, 107], [97, 98, 111, 117, 116], numS r.sec.1, bitS r.sec.2.1, numS r.sec.2.2.1, listT (r.sec.2.2.2.map rowT)]))] []) (ent_freeze (id := 64) (T := 9) (by kernel_rfl)) ?_
      exact gT (vc (AL.Fnv.slS [[111, 107], [97, 98, 111, 117, 116], numS r.sec.1, bitS r.sec.2.1, numS r.sec.2.2.1, listT (r.sec.2.2.2.map rowT)])) (by rw [show wordsS r = [[111, 107], [97, 98, 111, 117, 116], numS r.sec.1, bitS r.sec.2.1, numS r.sec.2.2.1, listT (r.sec.2.2.2.map rowT)] from by unfold wordsS; grind])
    ·
     refine gS [] [] 78 [(1, vp 1 0), (8, vc (u8 r.kind)), (65, vc (bo (decide (r.kind = 5))))] [(1, AObj.row [.s (u8 r.kind), .s (i6 r.err), .s (i6 r.n), .s (st r.data), .s (AL.Fnv.slS r.names), .s (i6 r.sec.1), .s (bo r.sec.2.1), .s (i6 r.sec.2.2.1), .s (Secret.slR r.sec.2.2.2), .s (bo r.flag)])] trivial ?_
     refine gC (r.kind = 5) (fun hc7 => ?_) fun hc7 => ?_
     ·
      refine gS [(2, CE.call [] [] (vc (st (listT r.names))) []), (3, CE.obj (AObj.grow 9 1 Bytes [] AL.Fnv.rowS [[111, 107], [110, 97, 109, 101, 115], listT r.names]))] [Spec Tryd.prog 55 [tc (AL.Fnv.slS r.names)] (ofH []) (vc (st (listT r.names))) (ofH []), flat 1 AL.Fnv.rowS [[111, 107], [110, 97, 109, 101, 115], listT r.names] = [.s (st [111, 107]), .s (st [110, 97, 109, 101, 115]), .s (st (listT r.names))], List.length ([[111, 107], [110, 97, 109, 101, 115], listT r.names] : List Bytes) = 3] 78 [(2, vo 70)] [(70, AObj.grow 9 1 Bytes [] AL.Fnv.rowS [[111, 107], [110, 97, 109, 101, 115], listT r.names])] ⟨(list_c r.names (by first | omega | exact list_rows (by omega) | exact list_names hf (by omega) | (have z := hr (by omega) _ (Lib.getD_mem (0, false, false) _ k (by omega)); omega) | ((try simp only [List.length_append, List.length_cons, List.length_nil, List.length_take, List.length_map]); omega))), rfl, rfl⟩ ?_
      refine AMx.ent (s' := AS.lst 78 [(2, vc (AL.Fnv.slS [[111, 107], [110, 97, 109, 101, 115], listT r.names]))] []) (ent_freeze (id := 70) (T := 9) (by kernel_rfl)) ?_
      exact gT (vc (AL.Fnv.slS [[111, 107], [110, 97, 109, 101, 115], listT r.names])) (by rw [show wordsS r = [[111, 107], [110, 97, 109, 101, 115], listT r.names] from by unfold wordsS; grind])
     ·
      refine gS [] [] 78 [(1, vp 1 0), (71, vc (bo (decide (r.kind = 6))))] [(1, AObj.row [.s (u8 r.kind), .s (i6 r.err), .s (i6 r.n), .s (st r.data), .s (AL.Fnv.slS r.names), .s (i6 r.sec.1), .s (bo r.sec.2.1), .s (i6 r.sec.2.2.1), .s (Secret.slR r.sec.2.2.2), .s (bo r.flag)])] trivial ?_
      refine gC (r.kind = 6) (fun hc8 => ?_) fun hc8 => ?_
      ·
       refine gQ ?_
       refine gS [] [] 78 [(74, vc (bo r.flag))] [] trivial ?_
       refine gB (r.flag) (fun hc9 => ?_) fun hc9 => ?_
       ·
        try simp only [xT, xF] at hc9
        refine gS [(0, CE.obj (AObj.grow 9 1 Bytes [] AL.Fnv.rowS [[111, 107], [115, 101, 97, 108, 101, 100]]))] [flat 1 AL.Fnv.rowS [[111, 107], [115, 101, 97, 108, 101, 100]] = [.s (st [111, 107]), .s (st [115, 101, 97, 108, 101, 100])], List.length ([[111, 107], [115, 101, 97, 108, 101, 100]] : List Bytes) = 2] 78 [(2, vo 75)] [(75, AObj.grow 9 1 Bytes [] AL.Fnv.rowS [[111, 107], [115, 101, 97, 108, 101, 100]])] ⟨rfl, rfl⟩ ?_
        refine AMx.ent (s' := AS.lst 78 [(2, vc (AL.Fnv.slS [[111, 107], [115, 101, 97, 108, 101, 100]]))] []) (ent_freeze (id := 75) (T := 9) (by kernel_rfl)) ?_
        exact gT (vc (AL.Fnv.slS [[111, 107], [115, 101, 97, 108, 101, 100]])) (by rw [show wordsS r = [[111, 107], [115, 101, 97, 108, 101, 100]] from by unfold wordsS; grind])
       ·
        try simp only [xT, xF] at hc9
        refine AMx.skip ?_
        refine gS [(0, CE.obj (AObj.grow 9 1 Bytes [] AL.Fnv.rowS [[111, 107], [111, 112, 101, 110]]))] [flat 1 AL.Fnv.rowS [[111, 107], [111, 112, 101, 110]] = [.s (st [111, 107]), .s (st [111, 112, 101, 110])], List.length ([[111, 107], [111, 112, 101, 110]] : List Bytes) = 2] 78 [(2, vo 76)] [(76, AObj.grow 9 1 Bytes [] AL.Fnv.rowS [[111, 107], [111, 112, 101, 110]])] ⟨rfl, rfl⟩ ?_
        refine AMx.ent (s' := AS.lst 78 [(2, vc (AL.Fnv.slS [[111, 107], [111, 112, 101, 110]]))] []) (ent_freeze (id := 76) (T := 9) (by kernel_rfl)) ?_
        exact gT (vc (AL.Fnv.slS [[111, 107], [111, 112, 101, 110]])) (by rw [show wordsS r = [[111, 107], [111, 112, 101, 110]] from by unfold wordsS; grind])
      ·
       refine AMx.skip ?_
       refine AMx.blk ?_
       refine gS [(0, CE.obj (AObj.grow 9 1 Bytes [] AL.Fnv.rowS [[111, 107]]))] [flat 1 AL.Fnv.rowS [[111, 107]] = [.s (st [111, 107])], List.length ([[111, 107]] : List Bytes) = 1] 78 [(2, vo 77)] [(77, AObj.grow 9 1 Bytes [] AL.Fnv.rowS [[111, 107]])] ⟨rfl, rfl⟩ ?_
       refine AMx.ent (s' := AS.lst 78 [(2, vc (AL.Fnv.slS [[111, 107]]))] []) (ent_freeze (id := 77) (T := 9) (by kernel_rfl)) ?_
       exact gT (vc (AL.Fnv.slS [[111, 107]])) (by rw [show wordsS r = [[111, 107]] from by unfold wordsS; grind])
end AL.Reply
namespace AL.Reply
open Go Go.Proofs AL
set_option linter.unusedVariables false
set_option linter.unusedSimpArgs false
open AL.Ask (scanN valS sizeB digB numS hexS unhexS dg tmod_10 tdiv_10 one_dr num_le3)
theorem f8_body : Tryd.f8.body = some (.seq (.region 0 (rg Tryd.f8 0) false) (.seq (.seq (.region 1 (rg Tryd.f8 1) false) (.seq (.region 2 (rg Tryd.f8 2) false) (.cond (.tmp 8) (.seq (.region 3 (rg Tryd.f8 3) false) (.ret)) (.skip)))) (.seq (.region 4 (rg Tryd.f8 4) false) (.ret)))) := by kernel_rfl
set_option maxRecDepth 100000 in
set_option maxHeartbeats 8000000 in
theorem Text_c (r : RepV) : Pure Tryd.prog 8 [TV.agg [.s (u8 r.kind), .s (i6 r.err), .s (i6 r.n), .s (st r.data), .s (AL.Fnv.slS r.names), .s (i6 r.sec.1), .s (bo r.sec.2.1), .s (i6 r.sec.2.2.1), .s (Secret.slR r.sec.2.2.2), .s (bo r.flag)]] (AV.tup [tc (st ((textS r).1)), tc (i6 ((textS r).2))]) := by
 refine Pure.of_body Tryd.func8 f8_body (by kernel_rfl) Tryd.ntmps8 (by kernel_rfl) (by kernel_rfl) ?_
 refine gS [] [] 13 [(1, vp 1 0)] [(1, AObj.row [.s (u8 r.kind), .s (i6 r.err), .s (i6 r.n), .s (st r.data), .s (AL.Fnv.slS r.names), .s (i6 r.sec.1), .s (bo r.sec.2.1), .s (i6 r.sec.2.2.1), .s (Secret.slR r.sec.2.2.2), .s (bo r.flag)])] trivial ?_
 refine gQ ?_
 refine gS [(1, CE.call [] [] (vc (i6 (checkR r))) [])] [Spec Tryd.prog 11 [TV.agg [.s (u8 r.kind), .s (i6 r.err), .s (i6 r.n), .s (st r.data), .s (AL.Fnv.slS r.names), .s (i6 r.sec.1), .s (bo r.sec.2.1), .s (i6 r.sec.2.2.1), .s (Secret.slR r.sec.2.2.2), .s (bo r.flag)]] (ofH []) (vc (i6 (checkR r))) (ofH [])] 13 [(1, vp 1 0), (4, vc (i6 (checkR r)))] [(1, AObj.row [.s (u8 r.kind), .s (i6 r.err), .s (i6 r.n), .s (st r.data), .s (AL.Fnv.slS r.names), .s (i6 r.sec.1), .s (bo r.sec.2.1), .s (i6 r.sec.2.2.1), .s (Secret.slR r.sec.2.2.2), .s (bo r.flag)])] (Check_c r) ?_
 refine gS [] [] 13 [(1, vp 1 0), (4, vc (i6 (checkR r))), (8, vc (bo (!decide (checkR r = 0))))] [(1, AObj.row [.s (u8 r.kind), .s (i6 r.err), .s (i6 r.n), .s (st r.data), .s (AL.Fnv.slS r.names), .s (i6 r.sec.1), .s (bo r.sec.2.1), .s (i6 r.sec.2.2.1), .s (Secret.slR r.sec.2.2.2), .s (bo r.flag)])] trivial ?_
 refine gN (checkR r = 0) (fun hc1 => ?_) fun hc1 => ?_
 ·
  refine gS [] [] 13 [(2, vc (st [])), (3, vc (i6 (checkR r)))] [] trivial ?_
  exact gT (AV.tup [tc (st []), tc (i6 (checkR r))]) (by rw [show textS r = ([], checkR r) from by unfold textS; first | rw [if_pos hc1] | rw [if_neg hc1]])
 ·
  refine AMx.skip ?_
  refine gS [(1, CE.call [] [] (vc (AL.Fnv.slS (wordsS r))) []), (2, CE.call [] [] (vc (st (AL.Sep.joinC 32 (wordsS r)))) [])] [Spec Tryd.prog 21 [TV.agg [.s (u8 r.kind), .s (i6 r.err), .s (i6 r.n), .s (st r.data), .s (AL.Fnv.slS r.names), .s (i6 r.sec.1), .s (bo r.sec.2.1), .s (i6 r.sec.2.2.1), .s (Secret.slR r.sec.2.2.2), .s (bo r.flag)]] (ofH []) (vc (AL.Fnv.slS (wordsS r))) (ofH []), Spec Tryd.prog 20 [tc (AL.Fnv.slS (wordsS r)), tc (st [32])] (ofH []) (vc (st (AL.Sep.joinC 32 (wordsS r)))) (ofH [])] 13 [(2, vc (st (AL.Sep.joinC 32 (wordsS r)))), (3, vc (i6 0))] [] ⟨(words_c r hc1), (AL.Sep.Join_c 32 (wordsS r) (by first | omega | exact words_len hc1))⟩ ?_
  exact gT (AV.tup [tc (st (AL.Sep.joinC 32 (wordsS r))), tc (i6 0)]) (by rw [show textS r = (AL.Sep.joinC 32 (wordsS r), 0) from by unfold textS; first | rw [if_pos hc1] | rw [if_neg hc1]])
theorem f15_body : Tryd.f15.body = some (.seq (.region 0 (rg Tryd.f15 0) false) (.seq (.region 1 (rg Tryd.f15 1) false) (.seq (.seq (.region 2 (rg Tryd.f15 2) false) (.cond (.tmp 9) (.region 3 (rg Tryd.f15 3) false) (.skip))) (.seq (.region 4 (rg Tryd.f15 4) false) (.seq (.region 5 (rg Tryd.f15 5) false) (.ret)))))) := by kernel_rfl
set_option maxRecDepth 100000 in
set_option maxHeartbeats 8000000 in
theorem Of_c (e : Int) : Pure Tryd.prog 15 [tc (i6 e)] (vc (st (ofS e))) := by
 refine Pure.of_body Tryd.func15 f15_body (by kernel_rfl) Tryd.ntmps15 (by kernel_rfl) (by kernel_rfl) ?_
 refine gS [] [] 17 [(0, vc (i6 e))] [] trivial ?_
 refine gS [] [] 17 [(0, vc (i6 e)), (3, vp 3 0)] [(3, AObj.row [.s (u8 0), .s (i6 e), .s (i6 0), .s (st []), .s (SC.nilsl), .s (i6 0), .s (bo false), .s (i6 0), .s (SC.nilsl), .s (bo false)])] trivial ?_
 refine gQ ?_
 refine gS [] [] 17 [(3, vp 3 0), (9, vc (bo (decide (e = 0))))] [(3, AObj.row [.s (u8 0), .s (i6 e), .s (i6 0), .s (st []), .s (SC.nilsl), .s (i6 0), .s (bo false), .s (i6 0), .s (SC.nilsl), .s (bo false)])] trivial ?_
 refine gC (e = 0) (fun hc1 => ?_) fun hc1 => ?_
 ·
  refine gR [] [] 17 [(3, vp 3 0)] [(3, AObj.row [.s (u8 1), .s (i6 e), .s (i6 0), .s (st []), .s (SC.nilsl), .s (i6 0), .s (bo false), .s (i6 0), .s (SC.nilsl), .s (bo false)])] trivial ?_
  refine gS [(1, CE.call [] [] (AV.tup [tc (st ((textS (⟨1, e, 0, [], [], ((0, false, 0, []) : Secret.Sec), false⟩ : RepV)).1)), tc (i6 ((textS (⟨1, e, 0, [], [], ((0, false, 0, []) : Secret.Sec), false⟩ : RepV)).2))]) [])] [Spec Tryd.prog 8 [TV.agg [.s (u8 1), .s (i6 e), .s (i6 0), .s (st []), .s (SC.nilsl), .s (i6 0), .s (bo false), .s (i6 0), .s (SC.nilsl), .s (bo false)]] (ofH []) (AV.tup [tc (st ((textS (⟨1, e, 0, [], [], ((0, false, 0, []) : Secret.Sec), false⟩ : RepV)).1)), tc (i6 ((textS (⟨1, e, 0, [], [], ((0, false, 0, []) : Secret.Sec), false⟩ : RepV)).2))]) (ofH [])] 17 [(4, vc (st ((textS (⟨1, e, 0, [], [], ((0, false, 0, []) : Secret.Sec), false⟩ : RepV)).1)))] [] (Spec.weak (args' := [TV.agg [.s (u8 1), .s (i6 e), .s (i6 0), .s (st []), .s (AL.Fnv.slS []), .s (i6 0), .s (bo false), .s (i6 0), .s (Secret.slR []), .s (bo false)]]) ⟨(TV.le_agg (l := [.s (u8 1), .s (i6 e), .s (i6 0), .s (st []), .s (SC.nilsl), .s (i6 0), .s (bo false), .s (i6 0), .s (SC.nilsl), .s (bo false)]) (m := [.s (u8 ((⟨1, e, 0, [], [], ((0, false, 0, []) : Secret.Sec), false⟩ : RepV).kind)), .s (i6 ((⟨1, e, 0, [], [], ((0, false, 0, []) : Secret.Sec), false⟩ : RepV).err)), .s (i6 ((⟨1, e, 0, [], [], ((0, false, 0, []) : Secret.Sec), false⟩ : RepV).n)), .s (st ((⟨1, e, 0, [], [], ((0, false, 0, []) : Secret.Sec), false⟩ : RepV).data)), .s (AL.Fnv.slS ((⟨1, e, 0, [], [], ((0, false, 0, []) : Secret.Sec), false⟩ : RepV).names)), .s (i6 (((⟨1, e, 0, [], [], ((0, false, 0, []) : Secret.Sec), false⟩ : RepV).sec).1)), .s (bo (((⟨1, e, 0, [], [], ((0, false, 0, []) : Secret.Sec), false⟩ : RepV).sec).2.1)), .s (i6 (((⟨1, e, 0, [], [], ((0, false, 0, []) : Secret.Sec), false⟩ : RepV).sec).2.2.1)), .s (Secret.slR (((⟨1, e, 0, [], [], ((0, false, 0, []) : Secret.Sec), false⟩ : RepV).sec).2.2.2)), .s (bo ((⟨1, e, 0, [], [], ((0, false, 0, []) : Secret.Sec), false⟩ : RepV).flag))]) ⟨AC.le_rfl, AC.le_rfl, AC.le_rfl, AC.le_rfl, AC.le_nil, AC.le_rfl, AC.le_rfl, AC.le_rfl, AC.le_nil, AC.le_rfl, trivial⟩), trivial⟩ (Text_c (⟨1, e, 0, [], [], ((0, false, 0, []) : Secret.Sec), false⟩ : RepV))) ?_
  refine gS [] [] 17 [(2, vc (st ((textS (⟨1, e, 0, [], [], ((0, false, 0, []) : Secret.Sec), false⟩ : RepV)).1)))] [] trivial ?_
  exact gT (vc (st ((textS (⟨1, e, 0, [], [], ((0, false, 0, []) : Secret.Sec), false⟩ : RepV)).1))) (by unfold ofS; first | rw [if_pos hc1] | rw [if_neg hc1])
 ·
  refine AMx.skip ?_
  refine gS [(1, CE.call [] [] (AV.tup [tc (st ((textS (⟨0, e, 0, [], [], ((0, false, 0, []) : Secret.Sec), false⟩ : RepV)).1)), tc (i6 ((textS (⟨0, e, 0, [], [], ((0, false, 0, []) : Secret.Sec), false⟩ : RepV)).2))]) [])] [Spec Tryd.prog 8 [TV.agg [.s (u8 0), .s (i6 e), .s (i6 0), .s (st []), .s (SC.nilsl), .s (i6 0), .s (bo false), .s (i6 0), .s (SC.nilsl), .s (bo false)]] (ofH []) (AV.tup [tc (st ((textS (⟨0, e, 0, [], [], ((0, false, 0, []) : Secret.Sec), false⟩ : RepV)).1)), tc (i6 ((textS (⟨0, e, 0, [], [], ((0, false, 0, []) : Secret.Sec), false⟩ : RepV)).2))]) (ofH [])] 17 [(4, vc (st ((textS (⟨0, e, 0, [], [], ((0, false, 0, []) : Secret.Sec), false⟩ : RepV)).1)))] [] (Spec.weak (args' := [TV.agg [.s (u8 0), .s (i6 e), .s (i6 0), .s (st []), .s (AL.Fnv.slS []), .s (i6 0), .s (bo false), .s (i6 0), .s (Secret.slR []), .s (bo false)]]) ⟨(TV.le_agg (l := [.s (u8 0), .s (i6 e), .s (i6 0), .s (st []), .s (SC.nilsl), .s (i6 0), .s (bo false), .s (i6 0), .s (SC.nilsl), .s (bo false)]) (m := [.s (u8 ((⟨0, e, 0, [], [], ((0, false, 0, []) : Secret.Sec), false⟩ : RepV).kind)), .s (i6 ((⟨0, e, 0, [], [], ((0, false, 0, []) : Secret.Sec), false⟩ : RepV).err)), .s (i6 ((⟨0, e, 0, [], [], ((0, false, 0, []) : Secret.Sec), false⟩ : RepV).n)), .s (st ((⟨0, e, 0, [], [], ((0, false, 0, []) : Secret.Sec), false⟩ : RepV).data)), .s (AL.Fnv.slS ((⟨0, e, 0, [], [], ((0, false, 0, []) : Secret.Sec), false⟩ : RepV).names)), .s (i6 (((⟨0, e, 0, [], [], ((0, false, 0, []) : Secret.Sec), false⟩ : RepV).sec).1)), .s (bo (((⟨0, e, 0, [], [], ((0, false, 0, []) : Secret.Sec), false⟩ : RepV).sec).2.1)), .s (i6 (((⟨0, e, 0, [], [], ((0, false, 0, []) : Secret.Sec), false⟩ : RepV).sec).2.2.1)), .s (Secret.slR (((⟨0, e, 0, [], [], ((0, false, 0, []) : Secret.Sec), false⟩ : RepV).sec).2.2.2)), .s (bo ((⟨0, e, 0, [], [], ((0, false, 0, []) : Secret.Sec), false⟩ : RepV).flag))]) ⟨AC.le_rfl, AC.le_rfl, AC.le_rfl, AC.le_rfl, AC.le_nil, AC.le_rfl, AC.le_rfl, AC.le_rfl, AC.le_nil, AC.le_rfl, trivial⟩), trivial⟩ (Text_c (⟨0, e, 0, [], [], ((0, false, 0, []) : Secret.Sec), false⟩ : RepV))) ?_
  refine gS [] [] 17 [(2, vc (st ((textS (⟨0, e, 0, [], [], ((0, false, 0, []) : Secret.Sec), false⟩ : RepV)).1)))] [] trivial ?_
  exact gT (vc (st ((textS (⟨0, e, 0, [], [], ((0, false, 0, []) : Secret.Sec), false⟩ : RepV)).1))) (by unfold ofS; first | rw [if_pos hc1] | rw [if_neg hc1])
end AL.Reply
namespace AL.Reply
open Go AL
open AL.Sep (splitC joinC)
open AL.Ask (numS scanN valS sizeB digB hexS unhexS dg)
open AL.Secret (RowV Sec Rul slR rowR checkS)
set_option linter.unusedVariables false
set_option linter.unusedSimpArgs false
theorem parts_iff (r : RepV) : r = partsS r ↔ (¬ r.kind = 0 → r.err = 0) ∧ (¬ r.kind = 2 → ¬ r.kind = 3 → r.n = 0) ∧ (¬ r.kind = 3 → r.data = []) ∧ (¬ r.kind = 5 → r.names = []) ∧ (¬ r.kind = 4 → r.sec = (0, false, 0, [])) ∧ (¬ r.kind = 6 → r.flag = false) := by
  rw [RepV.eq_iff]
  unfold partsS
  grind
theorem text_ok {r : RepV} (h : checkR r = 0) : textS r = (joinC 32 (wordsS r), 0) := if_pos h
theorem text_no {r : RepV} (h : ¬ checkR r = 0) : textS r = ([], checkR r) := if_neg h
noncomputable def overS (r : RepV) : Bool := open Classical in decide (500 < r.data.length ∨ 80 < r.names.length ∨ 20 < r.sec.2.2.2.length ∨ ∃ x ∈ r.names, 100 < x.length)
theorem over_1 {r : RepV} (h : 500 < r.data.length ∨ 80 < r.names.length ∨ 20 < r.sec.2.2.2.length) : overS r = true := decide_eq_true (by rcases h with h | h | h; exact .inl h; exact .inr (.inl h); exact .inr (.inr (.inl h)))
theorem over_2 {r : RepV} {i : Nat} (hi : i < r.names.length) (h : 100 < (List.getD r.names i []).length) : overS r = true := decide_eq_true (.inr (.inr (.inr ⟨_, Lib.getD_mem [] _ i hi, h⟩)))
theorem over_3 {r : RepV} (h1 : r.data.length ≤ 500) (h2 : r.names.length ≤ 80) (h3 : r.sec.2.2.2.length ≤ 20) (h4 : ∀ x ∈ r.names, x.length ≤ 100) : overS r = false := decide_eq_false (by
  rintro (h | h | h | ⟨x, hx, h⟩)
  · omega
  · omega
  · omega
  · have := h4 x hx; omega)
theorem over_no {r : RepV} (h : overS r = false) : r.data.length ≤ 500 ∧ r.names.length ≤ 80 ∧ r.sec.2.2.2.length ≤ 20 ∧ ∀ x ∈ r.names, x.length ≤ 100 := by
  have := of_decide_eq_false h
  refine ⟨Nat.le_of_not_lt fun q => this (.inl q), Nat.le_of_not_lt fun q => this (.inr (.inl q)), Nat.le_of_not_lt fun q => this (.inr (.inr (.inl q))), fun x hx => Nat.le_of_not_lt fun q => this (.inr (.inr (.inr ⟨x, hx, q⟩)))⟩
end AL.Reply
namespace AL.Reply
open Go Go.Proofs AL
set_option linter.unusedVariables false
set_option linter.unusedSimpArgs false
open AL.Ask (scanN valS sizeB digB numS hexS unhexS dg num_le3 hex_len)
theorem f9_body : Tryd.f9.body = some (.seq (.region 0 (rg Tryd.f9 0) false) (.seq (.region 1 (rg Tryd.f9 1) true) (.ret))) := by kernel_rfl
set_option maxRecDepth 100000 in
set_option maxHeartbeats 8000000 in
theorem Own_c (r : RepV) (hr : r.sec.2.2.2.length ≤ 1000) : Pure Tryd.prog 9 [TV.agg [.s (u8 r.kind), .s (i6 r.err), .s (i6 r.n), .s (st r.data), .s (AL.Fnv.slS r.names), .s (i6 r.sec.1), .s (bo r.sec.2.1), .s (i6 r.sec.2.2.1), .s (Secret.slR r.sec.2.2.2), .s (bo r.flag)]] (AV.t (TV.agg [.s (u8 r.kind), .s (i6 r.err), .s (i6 r.n), .s (st r.data), .s (AL.Fnv.slS r.names), .s (i6 r.sec.1), .s (bo r.sec.2.1), .s (i6 r.sec.2.2.1), .s (Secret.slR r.sec.2.2.2), .s (bo r.flag)])) := by
 refine Pure.of_body Tryd.func9 f9_body (by kernel_rfl) Tryd.ntmps9 (by kernel_rfl) (by kernel_rfl) ?_
 refine gS [] [] 19 [(1, vp 1 0), (2, vp 2 0)] [(1, AObj.row [.s (u8 r.kind), .s (i6 r.err), .s (i6 r.n), .s (st r.data), .s (AL.Fnv.slS r.names), .s (i6 r.sec.1), .s (bo r.sec.2.1), .s (i6 r.sec.2.2.1), .s (Secret.slR r.sec.2.2.2), .s (bo r.flag)]), (2, AObj.row [.s (u8 0), .s (i6 0), .s (i6 0), .s (st []), .s (SC.nilsl), .s (i6 0), .s (bo false), .s (i6 0), .s (SC.nilsl), .s (bo false)])] trivial ?_
 refine gY [(12, CE.call [] [] (AV.t (TV.agg [.s (i6 r.sec.1), .s (bo r.sec.2.1), .s (i6 r.sec.2.2.1), .s (Secret.slR r.sec.2.2.2)])) [])] [(1, [1]), (3, [1]), (5, [1]), (7, [1]), (9, [1]), (11, [1]), (14, [1]), (16, [2])] [Spec Tryd.prog 22 [TV.agg [.s (i6 r.sec.1), .s (bo r.sec.2.1), .s (i6 r.sec.2.2.1), .s (Secret.slR r.sec.2.2.2)]] (ofH []) (AV.t (TV.agg [.s (i6 r.sec.1), .s (bo r.sec.2.1), .s (i6 r.sec.2.2.1), .s (Secret.slR r.sec.2.2.2)])) (ofH [])] 19 [(2, vp 2 0)] [(2, AObj.row [.s (u8 r.kind), .s (i6 r.err), .s (i6 r.n), .s (st r.data), .s (AL.Fnv.slS r.names), .s (i6 r.sec.1), .s (bo r.sec.2.1), .s (i6 r.sec.2.2.1), .s (Secret.slR r.sec.2.2.2), .s (bo r.flag)])] mixed (Secret.Own_c r.sec (by omega)) ?_
 exact gT (AV.t (TV.agg [.s (u8 r.kind), .s (i6 r.err), .s (i6 r.n), .s (st r.data), .s (AL.Fnv.slS r.names), .s (i6 r.sec.1), .s (bo r.sec.2.1), .s (i6 r.sec.2.2.1), .s (Secret.slR r.sec.2.2.2), .s (bo r.flag)])) rfl
theorem f6_body : Tryd.f6.body = some (.seq (.region 0 (rg Tryd.f6 0) false) (.seq (.seq (.region 1 (rg Tryd.f6 1) false) (.cond (.tmp 20) (.seq (.region 2 (rg Tryd.f6 2) false) (.ret)) (.skip))) (.seq (.seq (.region 3 (rg Tryd.f6 3) false) (.block 0 (.loop (.seq (.seq (.region 4 (rg Tryd.f6 4) false) (.cond (.tmp 25) (.skip) (.exit 0))) (.seq (.block 1 (.seq (.region 6 (rg Tryd.f6 6) false) (.cond (.tmp 34) (.seq (.region 7 (rg Tryd.f6 7) false) (.ret)) (.skip)))) (.region 5 (rg Tryd.f6 5) false)))))) (.seq (.region 8 (rg Tryd.f6 8) false) (.ret))))) := by kernel_rfl
set_option maxRecDepth 100000 in
set_option maxHeartbeats 8000000 in
theorem over_c (r : RepV) : Pure Tryd.prog 6 [TV.agg [.s (u8 r.kind), .s (i6 r.err), .s (i6 r.n), .s (st r.data), .s (AL.Fnv.slS r.names), .s (i6 r.sec.1), .s (bo r.sec.2.1), .s (i6 r.sec.2.2.1), .s (Secret.slR r.sec.2.2.2), .s (bo r.flag)]] (vc (bo (overS r))) := by
 refine Pure.of_body Tryd.func6 f6_body (by kernel_rfl) Tryd.ntmps6 (by kernel_rfl) (by kernel_rfl) ?_
 skip
 refine gS [] [] 35 [(1, vp 1 0)] [(1, AObj.row [.s (u8 r.kind), .s (i6 r.err), .s (i6 r.n), .s (st r.data), .s (AL.Fnv.slS r.names), .s (i6 r.sec.1), .s (bo r.sec.2.1), .s (i6 r.sec.2.2.1), .s (Secret.slR r.sec.2.2.2), .s (bo r.flag)])] trivial ?_
 refine gQ ?_
 refine gS [] [((decide (500 < (List.length r.data : Int))) = false) → allP [], ((decide (500 < (List.length r.data : Int))) = false) → allP [(decide (500 < (List.length r.data : Int))) = false], ((decide (500 < (List.length r.data : Int))) = false) → allP [(decide (500 < (List.length r.data : Int))) = false], ((decide (500 < (List.length r.data : Int))) = false) → allP [(decide (500 < (List.length r.data : Int))) = false], (decide (500 < (List.length r.data : Int))) = false → allP [(decide (500 < (List.length r.data : Int))) = false], (((decide (500 < (List.length r.data : Int))) || (decide (80 < (List.length r.names : Int)))) = false) → allP [], (((decide (500 < (List.length r.data : Int))) || (decide (80 < (List.length r.names : Int)))) = false) → allP [((decide (500 < (List.length r.data : Int))) || (decide (80 < (List.length r.names : Int)))) = false], (((decide (500 < (List.length r.data : Int))) || (decide (80 < (List.length r.names : Int)))) = false) → allP [((decide (500 < (List.length r.data : Int))) || (decide (80 < (List.length r.names : Int)))) = false], (((decide (500 < (List.length r.data : Int))) || (decide (80 < (List.length r.names : Int)))) = false) → allP [((decide (500 < (List.length r.data : Int))) || (decide (80 < (List.length r.names : Int)))) = false], (((decide (500 < (List.length r.data : Int))) || (decide (80 < (List.length r.names : Int)))) = false) → allP [((decide (500 < (List.length r.data : Int))) || (decide (80 < (List.length r.names : Int)))) = false], ((decide (500 < (List.length r.data : Int))) || (decide (80 < (List.length r.names : Int)))) = false → allP [((decide (500 < (List.length r.data : Int))) || (decide (80 < (List.length r.names : Int)))) = false]] 35 [(1, vp 1 0), (20, vc (bo (((decide (500 < (List.length r.data : Int))) || (decide (80 < (List.length r.names : Int)))) || (decide (20 < (List.length r.sec.2.2.2 : Int))))))] [(1, AObj.row [.s (u8 r.kind), .s (i6 r.err), .s (i6 r.n), .s (st r.data), .s (AL.Fnv.slS r.names), .s (i6 r.sec.1), .s (bo r.sec.2.1), .s (i6 r.sec.2.2.1), .s (Secret.slR r.sec.2.2.2), .s (bo r.flag)])] ⟨(fun _ => trivial), (fun hp => hp), (fun hp => hp), (fun hp => hp), (fun hp2 => (by first | exact hp2 | exact ⟨hp, hp2⟩)), (fun _ => trivial), (fun hp => hp), (fun hp => hp), (fun hp => hp), (fun hp => hp), (fun hp2 => (by first | exact hp2 | exact ⟨hp, hp2⟩))⟩ ?_
 refine gB ((((decide (500 < (List.length r.data : Int))) || (decide (80 < (List.length r.names : Int)))) || (decide (20 < (List.length r.sec.2.2.2 : Int))))) (fun hc1 => ?_) fun hc1 => ?_
 ·
  try simp only [xT, xF, xO, xP] at hc1
  refine gS [] [] 35 [(2, vc (bo true))] [] trivial ?_
  exact gT (vc (bo true)) (by first | rw [over_1 (by omega)] | rw [over_2 (i := i) (by omega) (by omega)] | rw [over_3 (by omega) (by omega) (by omega) (by rw [List.take_of_length_le (by omega)] at hN; exact hN)])
 ·
  try simp only [xT, xF, xO, xP] at hc1
  refine AMx.skip ?_
  refine gQ ?_
  refine gS [] [] 35 [(1, vp 1 0), (3, vc (i6 0))] [(1, AObj.row [.s (u8 r.kind), .s (i6 r.err), .s (i6 r.n), .s (st r.data), .s (AL.Fnv.slS r.names), .s (i6 r.sec.1), .s (bo r.sec.2.1), .s (i6 r.sec.2.2.1), .s (Secret.slR r.sec.2.2.2), .s (bo r.flag)])] trivial ?_
  refine AMx.block ?_
  refine AMx.ent (s' := AS.lst 35 [(1, vp 1 0), (3, vc (i6 0))] [(1, AObj.row [.s (u8 r.kind), .s (i6 r.err), .s (i6 r.n), .s (st r.data), .s (AL.Fnv.slS r.names), .s (i6 r.sec.1), .s (bo r.sec.2.1), .s (i6 r.sec.2.2.1), .s (Secret.slR r.sec.2.2.2), .s (bo r.flag)])]) (ent_proj [1, 3] [1]) ?_
  refine AMx.loop (fun mm ss => ∃ (i : Nat), (i ≤ r.names.length ∧ ∀ x ∈ List.take i r.names, x.length ≤ 100) ∧ mm = r.names.length - i ∧ ss = AS.lst 35 [(1, vp 1 0), (3, vc (i6 (i : Int)))] [(1, AObj.row [.s (u8 r.kind), .s (i6 r.err), .s (i6 r.n), .s (st r.data), .s (AL.Fnv.slS r.names), .s (i6 r.sec.1), .s (bo r.sec.2.1), .s (i6 r.sec.2.2.1), .s (Secret.slR r.sec.2.2.2), .s (bo r.flag)])]) ⟨0, ?_, rfl, ?_⟩ ?_
  · exact ⟨Nat.zero_le _, fun x hx => by simp at hx⟩
  · rfl
  rintro mm ss ⟨i, ⟨hI, hN⟩, rfl, rfl⟩
  refine gQ ?_
  refine gS [] [] 35 [(1, vp 1 0), (3, vc (i6 (i : Int))), (25, vc (bo (decide ((i : Int) < (List.length r.names : Int)))))] [(1, AObj.row [.s (u8 r.kind), .s (i6 r.err), .s (i6 r.n), .s (st r.data), .s (AL.Fnv.slS r.names), .s (i6 r.sec.1), .s (bo r.sec.2.1), .s (i6 r.sec.2.2.1), .s (Secret.slR r.sec.2.2.2), .s (bo r.flag)])] trivial ?_
  refine gC ((i : Int) < (List.length r.names : Int)) (fun hc2 => ?_) fun hc2 => ?_
  ·
   refine AMx.skip ?_
   refine gQ ?_
   refine AMx.block ?_
   refine gS [] [(0 : Int) ≤ (i : Int), (i : Int) < List.length r.names] 35 [(1, vp 1 0), (3, vc (i6 (i : Int))), (34, vc (bo (decide (100 < (List.length ((List.getD r.names i []) : List UInt8) : Int)))))] [(1, AObj.row [.s (u8 r.kind), .s (i6 r.err), .s (i6 r.n), .s (st r.data), .s (AL.Fnv.slS r.names), .s (i6 r.sec.1), .s (bo r.sec.2.1), .s (i6 r.sec.2.2.1), .s (Secret.slR r.sec.2.2.2), .s (bo r.flag)])] ⟨(show (0 : Int) ≤ (i : Int) from (by omega)), (show (i : Int) < List.length r.names from (by omega))⟩ ?_
   refine gC (100 < (List.length ((List.getD r.names i []) : List UInt8) : Int)) (fun hc3 => ?_) fun hc3 => ?_
   ·
    refine gS [] [] 35 [(2, vc (bo true))] [] trivial ?_
    exact gT (vc (bo true)) (by first | rw [over_1 (by omega)] | rw [over_2 (i := i) (by omega) (by omega)] | rw [over_3 (by omega) (by omega) (by omega) (by rw [List.take_of_length_le (by omega)] at hN; exact hN)])
   ·
    refine AMx.skip ?_
    refine AMx.blk ?_
    refine gR [] [InR .i64 ((i : Int) + 1)] 35 [(1, vp 1 0), (3, vc (i6 ((i : Int) + 1)))] [(1, AObj.row [.s (u8 r.kind), .s (i6 r.err), .s (i6 r.n), .s (st r.data), .s (AL.Fnv.slS r.names), .s (i6 r.sec.1), .s (bo r.sec.2.1), .s (i6 r.sec.2.2.1), .s (Secret.slR r.sec.2.2.2), .s (bo r.flag)])] (show InR .i64 ((i : Int) + 1) from (inR64 (by omega) (by omega))) ?_
    refine AMx.ent_inv (s' := AS.lst 35 [(1, vp 1 0), (3, vc (i6 ((i : Int) + 1)))] [(1, AObj.row [.s (u8 r.kind), .s (i6 r.err), .s (i6 r.n), .s (st r.data), .s (AL.Fnv.slS r.names), .s (i6 r.sec.1), .s (bo r.sec.2.1), .s (i6 r.sec.2.2.1), .s (Secret.slR r.sec.2.2.2), .s (bo r.flag)])]) (ent_proj [1, 3] [1]) ?_
    refine AMx.inv ⟨_, ?_, i + 1, ?_, rfl, ?_⟩
    rotate_left
    · exact ⟨by omega, fun x hx => by rw [Lib.take_succ [] _ i (by omega)] at hx; rcases List.mem_append.1 hx with q | q; exact hN x q; rw [List.mem_singleton.1 q]; omega⟩
    · rfl
    · omega
  ·
   refine AMx.exit ?_
   refine AMx.code_exit ?_
   refine AMx.inv_exit ?_
   refine AMx.blk_exit ?_
   refine gS [] [] 35 [(2, vc (bo false))] [] trivial ?_
   exact gT (vc (bo false)) (by first | rw [over_1 (by omega)] | rw [over_2 (i := i) (by omega) (by omega)] | rw [over_3 (by omega) (by omega) (by omega) (by rw [List.take_of_length_le (by omega)] at hN; exact hN)])
end AL.Reply
namespace AL.Reply
open Go AL
open AL.Sep (splitC joinC)
open AL.Ask (numS scanN valS sizeB digB hexS unhexS dg)
open AL.Secret (RowV Sec Rul slR rowR checkS)
set_option linter.unusedVariables false
set_option linter.unusedSimpArgs false
def rowRep (r : RepV) (i : Nat) : SC := match i with | 0 => u8 r.kind | 1 => i6 r.err | 2 => i6 r.n | 3 => st r.data | 4 => AL.Fnv.slS r.names | 5 => i6 r.sec.1 | 6 => bo r.sec.2.1 | 7 => i6 r.sec.2.2.1 | 8 => slR r.sec.2.2.2 | _ => bo r.flag
theorem aw1 : parseR [111, 107, 32, 102, 111, 117, 110, 100, 32, 50, 32, 54, 49, 54, 50] = (⟨3, 0, 2, [97, 98], [], (0, false, 0, []), false⟩, 0) := by
  have hv : readS (List.drop 1 (splitC 32 [111, 107, 32, 102, 111, 117, 110, 100, 32, 50, 32, 54, 49, 54, 50])) = ⟨3, 0, 2, [97, 98], [], (0, false, 0, []), false⟩ := by decide +kernel
  have hp : parseOk [111, 107, 32, 102, 111, 117, 110, 100, 32, 50, 32, 54, 49, 54, 50] := by
    rw [parseOk, if_neg (by decide +kernel)]
    refine ⟨⟨by decide +kernel, by rw [readOk, if_neg (by decide +kernel), if_neg (by decide +kernel), if_neg (by decide +kernel), if_pos (by decide +kernel)]; unfold dataOk; decide +kernel⟩, ?_⟩
    rw [hv]
    exact check_0 (by decide) (by decide) (by unfold FitR; decide +kernel)
  unfold parseR
  rw [if_pos hp]
  unfold valP
  rw [if_neg (by decide +kernel), hv]
theorem aw2 : textS ⟨5, 0, 0, [], [[97], [98, 47]], (0, false, 0, []), false⟩ = ([111, 107, 32, 110, 97, 109, 101, 115, 32, 97, 44, 98, 47], 0) := by
  rw [text_ok (check_0 (by decide) (by decide) (by unfold FitR; decide +kernel))]
  decide +kernel
theorem aw3 : (parseR [111, 107, 32, 32, 111, 112, 101, 110]).2 = 4 := by
  have hp : ¬ parseOk [111, 107, 32, 32, 111, 112, 101, 110] := by
    rw [parseOk, if_neg (by decide +kernel)]
    intro h
    exact absurd h.1.2 (by rw [readOk, if_neg (by decide +kernel), if_neg (by decide +kernel), if_neg (by decide +kernel), if_neg (by decide +kernel), if_neg (by decide +kernel)]; decide +kernel)
  unfold parseR
  rw [if_neg hp]
theorem aw4 : textS ⟨7, 0, 0, [], [], (0, false, 0, []), false⟩ = ([], 22) := by
  have h := check_22 (r := ⟨7, 0, 0, [], [], (0, false, 0, []), false⟩) (by decide)
  rw [text_no (by rw [h]; decide), h]
theorem aw5 : ofS 0 = [111, 107] := by
  unfold ofS
  rw [if_pos rfl, text_ok (check_0 (by decide) (by decide) (by unfold FitR; decide +kernel))]
  decide +kernel
theorem aw6 : ofS 16 = [101, 114, 114, 111, 114, 32, 49, 54] := by
  unfold ofS
  rw [if_neg (by decide), text_ok (check_0 (by decide) (by decide) (by unfold FitR; decide +kernel))]
  decide +kernel
theorem aw7 : checkR ⟨0, 0, 0, [], [], (0, false, 0, []), false⟩ = 2 := check_2 (by decide) (fun h => absurd h.2 (by unfold FitR; decide +kernel))
theorem of_1 {e : Int} (h : ¬ e = 0) : ofS e = (textS ⟨0, e, 0, [], [], (0, false, 0, []), false⟩).1 := if_neg h
end AL.Reply
