/- mounts: the contracts of its functions, by their walks. No condition. -/
import Derived.Test.YtfedegdihgeelaaDoorMountB
namespace AL.Mount
open Go Go.Proofs AL
open AL.Quill (rowQ numQ rowB)
set_option linter.unusedVariables false
set_option linter.unusedSimpArgs false

theorem f41_body : Tryd.f41.body = some (.seq (.region 0 (rg Tryd.f41 0) false) (.seq (.region 1 (rg Tryd.f41 1) false) (.ret))) := by kernel_rfl

set_option maxRecDepth 100000 in
set_option maxHeartbeats 8000000 in
theorem isNaN_c (s : Bytes) : Pure Tryd.prog 41 [tc (st s)] (vc (bo false)) := by
 refine Pure.of_body Tryd.func41 f41_body (by kernel_rfl) Tryd.ntmps41 (by kernel_rfl) (by kernel_rfl) ?_
 refine gS [] [] 6 [(0, vc (st s))] [] trivial ?_
 refine gS [] [] 6 [(2, vc (bo (!decide (s = s))))] [] trivial ?_
 exact gT (vc (bo (!decide (s = s)))) (by simp)

theorem f26_body : Tryd.f26.body = some (.seq (.region 0 (rg Tryd.f26 0) false) (.seq (.region 1 (rg Tryd.f26 1) false) (.seq (.region 2 (rg Tryd.f26 2) false) (.seq (.seq (.region 3 (rg Tryd.f26 3) false) (.cond (.tmp 11) (.seq (.seq (.region 4 (rg Tryd.f26 4) false) (.cond (.tmp 12) (.seq (.region 5 (rg Tryd.f26 5) false) (.ret)) (.skip))) (.seq (.region 6 (rg Tryd.f26 6) false) (.ret))) (.skip))) (.seq (.seq (.region 7 (rg Tryd.f26 7) false) (.cond (.tmp 13) (.seq (.region 8 (rg Tryd.f26 8) false) (.ret)) (.skip))) (.seq (.seq (.region 9 (rg Tryd.f26 9) false) (.cond (.tmp 16) (.seq (.region 10 (rg Tryd.f26 10) false) (.ret)) (.skip))) (.seq (.seq (.region 11 (rg Tryd.f26 11) false) (.cond (.tmp 19) (.seq (.region 12 (rg Tryd.f26 12) false) (.ret)) (.skip))) (.seq (.region 13 (rg Tryd.f26 13) false) (.ret))))))))) := by kernel_rfl

set_option maxRecDepth 100000 in
set_option maxHeartbeats 8000000 in
theorem Compare_c (a b : Bytes) : Pure Tryd.prog 26 [tc (st a), tc (st b)] (vc (i6 (cmpS a b))) := by
 refine Pure.of_body Tryd.func26 f26_body (by kernel_rfl) Tryd.ntmps26 (by kernel_rfl) (by kernel_rfl) ?_
 refine gS [] [] 20 [(0, vc (st a)), (1, vc (st b))] [] trivial ?_
 refine gS [(1, CE.call [] [] (vc (bo false)) [])] [Spec Tryd.prog 41 [tc (st a)] (ofH []) (vc (bo false)) (ofH [])] 20 [(0, vc (st a)), (1, vc (st b)), (5, vc (bo false))] [] (isNaN_c a) ?_
 refine gS [(1, CE.call [] [] (vc (bo false)) [])] [Spec Tryd.prog 41 [tc (st b)] (ofH []) (vc (bo false)) (ofH [])] 20 [(0, vc (st a)), (1, vc (st b)), (5, vc (bo false)), (6, vc (bo false))] [] (isNaN_c b) ?_
 refine gQ ?_
 refine gS [] [] 20 [(0, vc (st a)), (1, vc (st b)), (6, vc (bo false)), (11, vc (bo false))] [] trivial ?_
 refine gBf ?_
 refine AMx.skip ?_
 refine gQ ?_
 refine gS [] [] 20 [(0, vc (st a)), (1, vc (st b)), (13, vc (bo false))] [] trivial ?_
 refine gBf ?_
 refine AMx.skip ?_
 refine gQ ?_
 refine gS [] [] 20 [(0, vc (st a)), (1, vc (st b)), (16, vc (bo (Op.bytesLess a b)))] [] trivial ?_
 refine gB (Op.bytesLess a b) (fun hc3 => ?_) fun hc3 => ?_
 ·
  try simp only [xT, xF] at hc3
  refine gS [] [] 20 [(4, vc (i6 (-1)))] [] trivial ?_
  exact gT (vc (i6 (-1))) (by rw [show cmpS a b = (-1) from by first | exact cmp_1 (by assumption) | exact cmp_2 (by simp_all) (by simp_all) | exact cmp_3 (by simp_all) (by simp_all)])
 ·
  try simp only [xT, xF] at hc3
  refine AMx.skip ?_
  refine gQ ?_
  refine gS [] [] 20 [(19, vc (bo (!(Op.bytesLess a b || decide (a = b)))))] [] trivial ?_
  refine gB (!(Op.bytesLess a b || decide (a = b))) (fun hc4 => ?_) fun hc4 => ?_
  ·
   try simp only [xT, xF, xO, xP, xN, xM] at hc4
   refine gS [] [] 20 [(4, vc (i6 1))] [] trivial ?_
   exact gT (vc (i6 1)) (by rw [show cmpS a b = 1 from by first | exact cmp_1 (by assumption) | exact cmp_2 (by simp_all) (by simp_all) | exact cmp_3 (by simp_all) (by simp_all)])
  ·
   try simp only [xT, xF, xO, xP, xN, xM] at hc4
   refine AMx.skip ?_
   refine gS [] [] 20 [(4, vc (i6 0))] [] trivial ?_
   exact gT (vc (i6 0)) (by rw [show cmpS a b = 0 from by first | exact cmp_1 (by assumption) | exact cmp_2 (by simp_all) (by simp_all) | exact cmp_3 (by simp_all) (by simp_all)])

theorem f25_body : Tryd.f25.body = some (.seq (.region 0 (rg Tryd.f25 0) false) (.seq (.region 1 (rg Tryd.f25 1) false) (.ret))) := by kernel_rfl

set_option maxRecDepth 100000 in
set_option maxHeartbeats 8000000 in
theorem addC_c (a b : MountV) : Pure Tryd.prog 25 [TV.agg [.s (st a.1), .s (i6 a.2.1), .s (bo a.2.2)], TV.agg [.s (st b.1), .s (i6 b.2.1), .s (bo b.2.2)]] (vc (i6 (cmpS a.1 b.1))) := by
 refine Pure.of_body Tryd.func25 f25_body (by kernel_rfl) Tryd.ntmps25 (by kernel_rfl) (by kernel_rfl) ?_
 refine gS [] [] 10 [(2, vp 2 0), (3, vp 3 0)] [(2, AObj.row [.s (st a.1), .s (i6 a.2.1), .s (bo a.2.2)]), (3, AObj.row [.s (st b.1), .s (i6 b.2.1), .s (bo b.2.2)])] trivial ?_
 refine gS [(4, CE.call [] [] (vc (i6 (cmpS a.1 b.1))) [])] [Spec Tryd.prog 26 [tc (st a.1), tc (st b.1)] (ofH []) (vc (i6 (cmpS a.1 b.1))) (ofH [])] 10 [(4, vc (i6 (cmpS a.1 b.1)))] [] (Compare_c a.1 b.1) ?_
 exact gT (vc (i6 (cmpS a.1 b.1))) rfl

theorem f53_body : Tryd.f53.body = some (.seq (.region 0 (rg Tryd.f53 0) false) (.block 0 (.loop (.seq (.seq (.region 1 (rg Tryd.f53 1) false) (.cond (.tmp 14) (.skip) (.exit 0))) (.seq (.block 1 (.seq (.region 3 (rg Tryd.f53 3) false) (.block 2 (.loop (.seq (.seq (.region 4 (rg Tryd.f53 4) true) (.cond (.tmp 34) (.skip) (.exit 2))) (.seq (.block 3 (.region 6 (rg Tryd.f53 6) true)) (.region 5 (rg Tryd.f53 5) false))))))) (.region 2 (rg Tryd.f53 2) false)))))) := by kernel_rfl

set_option maxRecDepth 100000 in
set_option maxHeartbeats 8000000 in
theorem insert_c (l : List MountV) (m : MountV) (n : Int) (hn : n = (l.length : Int) + 1) (hs : SortM l) (hd : ∀ x ∈ l, x.1 ≠ m.1) (hl : l.length ≤ 11) (d : Nat) : Spec Tryd.prog 53 [.c (.own d), tc (i6 0), tc (i6 n), TV.c (.fn 25 [])] (ofH [(d, AObj.grow 40 3 AL.Mount.MountV AL.Mount.md AL.Mount.rowM (l ++ [m]))]) (.tup []) (ofH [(d, AObj.grow 40 3 AL.Mount.MountV AL.Mount.md AL.Mount.rowM (insM l m))]) := by
 refine InPl.of_body (D := 53) Tryd.func53 f53_body (by kernel_rfl) Tryd.ntmps53 (by kernel_rfl) (by kernel_rfl) rfl rfl ?_ d
 refine gS [] [InR .i64 (0 + 1)] 53 [(0, vo 53), (1, vc (i6 0)), (2, vc (i6 n)), (3, AV.t (TV.c (.fn 25 []))), (8, vc (i6 (0 + 1)))] [(53, AObj.grow 40 3 AL.Mount.MountV AL.Mount.md AL.Mount.rowM (l ++ [m]))] (show InR .i64 (0 + 1) from (inR64 (by first | omega | (simp only [xsi_len, List.length_set]; omega) | (have z1 := hI.le; have z2 := hI.top; first | omega | (simp only [xsi_len, List.length_set]; omega))) (by first | omega | (simp only [xsi_len, List.length_set]; omega) | (have z1 := hI.le; have z2 := hI.top; first | omega | (simp only [xsi_len, List.length_set]; omega))))) ?_
 refine AMx.block ?_
 refine AMx.ent (s' := AS.lst 53 [(0, vo 53), (1, vc (i6 0)), (2, vc (i6 n)), (3, AV.t (TV.c (.fn 25 []))), (8, vc (i6 (0 + 1)))] [(53, AObj.grow 40 3 AL.Mount.MountV AL.Mount.md AL.Mount.rowM (l ++ [m]))]) (ent_proj [0, 1, 2, 3, 8] [53]) ?_
 refine AMx.loop (fun mm ss => ∃ (i : Nat), (1 ≤ i ∧ (i : Int) ≤ n) ∧ mm = l.length + 1 - i ∧ ss = AS.lst 53 [(0, vo 53), (1, vc (i6 0)), (2, vc (i6 n)), (3, AV.t (TV.c (.fn 25 []))), (8, vc (i6 (i : Int)))] [(53, AObj.grow 40 3 AL.Mount.MountV AL.Mount.md AL.Mount.rowM (xsO l m i))]) ⟨1, ?_, rfl, ?_⟩ ?_
 · omega
 · rw [xso_1] <;> rfl
 rintro mm ss ⟨i, ⟨hi1, hi2⟩, rfl, rfl⟩
 refine gQ ?_
 refine gS [] [] 53 [(0, vo 53), (1, vc (i6 0)), (2, vc (i6 n)), (3, AV.t (TV.c (.fn 25 []))), (8, vc (i6 (i : Int))), (14, vc (bo (decide ((i : Int) < n))))] [(53, AObj.grow 40 3 AL.Mount.MountV AL.Mount.md AL.Mount.rowM (xsO l m i))] trivial ?_
 refine gC ((i : Int) < n) (fun hc1 => ?_) fun hc1 => ?_
 ·
  refine AMx.skip ?_
  refine gQ ?_
  refine AMx.block ?_
  refine gS [] [] 53 [(0, vo 53), (1, vc (i6 0)), (2, vc (i6 n)), (3, AV.t (TV.c (.fn 25 []))), (8, vc (i6 (i : Int))), (9, vc (i6 (i : Int)))] [(53, AObj.grow 40 3 AL.Mount.MountV AL.Mount.md AL.Mount.rowM (xsO l m i))] trivial ?_
  refine AMx.block ?_
  refine AMx.ent (s' := AS.lst 53 [(0, vo 53), (1, vc (i6 0)), (2, vc (i6 n)), (3, AV.t (TV.c (.fn 25 []))), (8, vc (i6 (i : Int))), (9, vc (i6 (i : Int)))] [(53, AObj.grow 40 3 AL.Mount.MountV AL.Mount.md AL.Mount.rowM (xsO l m i))]) (ent_proj [0, 1, 2, 3, 8, 9] [53]) ?_
  refine AMx.loop (fun mm ss => ∃ (j : Nat), (InI l m i j) ∧ mm = 1 + j ∧ ss = AS.lst 53 [(0, vo 53), (1, vc (i6 0)), (2, vc (i6 n)), (3, AV.t (TV.c (.fn 25 []))), (8, vc (i6 (i : Int))), (9, vc (i6 (j : Int)))] [(53, AObj.grow 40 3 AL.Mount.MountV AL.Mount.md AL.Mount.rowM (xsI l m i j))]) ⟨i, ?_, rfl, ?_⟩ ?_
  · exact ini_start (by omega)
  · rw [xsi_start (by omega)] <;> rfl
  rintro mm ss ⟨j, hI, rfl, rfl⟩
  refine gQ ?_
  refine gY [(14, CE.call [] [] (vc (i6 (cmpS (List.getD (xsI l m i j) j AL.Mount.md).1 (List.getD (xsI l m i j) ((j : Int) - 1).toNat AL.Mount.md).1))) [])] [(7, [53]), (8, [53]), (12, [53]), (13, [53])] [((decide (0 < (j : Int))) = true) → allP [], ((decide (0 < (j : Int))) = true) → allP [], ((decide (0 < (j : Int))) = true) → allP [], ((decide (0 < (j : Int))) = true) → allP [(decide (0 < (j : Int))) = true, (decide (0 < (j : Int))) = true, (0 : Int) ≤ (j : Int), (j : Int) < List.length (xsI l m i j : List AL.Mount.MountV)], ((decide (0 < (j : Int))) = true) → allP [(decide (0 < (j : Int))) = true, j < List.length (xsI l m i j : List AL.Mount.MountV)], ((decide (0 < (j : Int))) = true) → allP [], ((decide (0 < (j : Int))) = true) → allP [], ((decide (0 < (j : Int))) = true) → allP [(decide (0 < (j : Int))) = true, InR .i64 ((j : Int) - 1)], ((decide (0 < (j : Int))) = true) → allP [(decide (0 < (j : Int))) = true, (decide (0 < (j : Int))) = true, (0 : Int) ≤ (j : Int) - 1, (j : Int) - 1 < List.length (xsI l m i j : List AL.Mount.MountV)], ((decide (0 < (j : Int))) = true) → allP [(decide (0 < (j : Int))) = true, ((j : Int) - 1).toNat < List.length (xsI l m i j : List AL.Mount.MountV)], ((decide (0 < (j : Int))) = true) → allP [(decide (0 < (j : Int))) = true, (decide (0 < (j : Int))) = true, (decide (0 < (j : Int))) = true, Spec Tryd.prog 25 [TV.agg [.s (st ((List.getD (xsI l m i j) j AL.Mount.md).1)), .s (i6 (((List.getD (xsI l m i j) j AL.Mount.md).2).1)), .s (bo (((List.getD (xsI l m i j) j AL.Mount.md).2).2))], TV.agg [.s (st ((List.getD (xsI l m i j) ((j : Int) - 1).toNat AL.Mount.md).1)), .s (i6 (((List.getD (xsI l m i j) ((j : Int) - 1).toNat AL.Mount.md).2).1)), .s (bo (((List.getD (xsI l m i j) ((j : Int) - 1).toNat AL.Mount.md).2).2))]] (ofH []) (vc (i6 (cmpS (List.getD (xsI l m i j) j AL.Mount.md).1 (List.getD (xsI l m i j) ((j : Int) - 1).toNat AL.Mount.md).1))) (ofH [])], ((decide (0 < (j : Int))) = true) → allP [(decide (0 < (j : Int))) = true], (decide (0 < (j : Int))) = true → allP [(decide (0 < (j : Int))) = true]] 53 [(0, vo 53), (1, vc (i6 0)), (2, vc (i6 n)), (3, AV.t (TV.c (.fn 25 []))), (8, vc (i6 (i : Int))), (9, vc (i6 (j : Int))), (34, vc (bo ((decide (0 < (j : Int))) && (decide (cmpS (List.getD (xsI l m i j) j AL.Mount.md).1 (List.getD (xsI l m i j) ((j : Int) - 1).toNat AL.Mount.md).1 < 0)))))] [(53, AObj.grow 40 3 AL.Mount.MountV AL.Mount.md AL.Mount.rowM (xsI l m i j))] mixed ⟨(fun _ => trivial), (fun _ => trivial), (fun _ => trivial), (fun hp => by have hq := hp; (try simp only [decide_eq_true_eq, decide_eq_false_iff_not, Bool.and_eq_true, Bool.or_eq_true, Bool.and_eq_false_iff, Bool.or_eq_false_iff, Bool.not_eq_true', Bool.not_eq_false', Bool.not_eq_true, Bool.not_eq_false] at hq); exact ⟨hp, hp, (show (0 : Int) ≤ (j : Int) from (by first | omega | (simp only [xsi_len, List.length_set]; omega) | (have z1 := hI.le; have z2 := hI.top; first | omega | (simp only [xsi_len, List.length_set]; omega)))), (show (j : Int) < List.length (xsI l m i j : List AL.Mount.MountV) from (by first | omega | (simp only [xsi_len, List.length_set]; omega) | (have z1 := hI.le; have z2 := hI.top; first | omega | (simp only [xsi_len, List.length_set]; omega))))⟩), (fun hp => by have hq := hp; (try simp only [decide_eq_true_eq, decide_eq_false_iff_not, Bool.and_eq_true, Bool.or_eq_true, Bool.and_eq_false_iff, Bool.or_eq_false_iff, Bool.not_eq_true', Bool.not_eq_false', Bool.not_eq_true, Bool.not_eq_false] at hq); exact ⟨hp, (show j < List.length (xsI l m i j : List AL.Mount.MountV) from (by first | omega | (simp only [xsi_len, List.length_set]; omega) | (have z1 := hI.le; have z2 := hI.top; first | omega | (simp only [xsi_len, List.length_set]; omega))))⟩), (fun _ => trivial), (fun _ => trivial), (fun hp => by have hq := hp; (try simp only [decide_eq_true_eq, decide_eq_false_iff_not, Bool.and_eq_true, Bool.or_eq_true, Bool.and_eq_false_iff, Bool.or_eq_false_iff, Bool.not_eq_true', Bool.not_eq_false', Bool.not_eq_true, Bool.not_eq_false] at hq); exact ⟨hp, (show InR .i64 ((j : Int) - 1) from (inR64 (by first | omega | (simp only [xsi_len, List.length_set]; omega) | (have z1 := hI.le; have z2 := hI.top; first | omega | (simp only [xsi_len, List.length_set]; omega))) (by first | omega | (simp only [xsi_len, List.length_set]; omega) | (have z1 := hI.le; have z2 := hI.top; first | omega | (simp only [xsi_len, List.length_set]; omega)))))⟩), (fun hp => by have hq := hp; (try simp only [decide_eq_true_eq, decide_eq_false_iff_not, Bool.and_eq_true, Bool.or_eq_true, Bool.and_eq_false_iff, Bool.or_eq_false_iff, Bool.not_eq_true', Bool.not_eq_false', Bool.not_eq_true, Bool.not_eq_false] at hq); exact ⟨hp, hp, (show (0 : Int) ≤ (j : Int) - 1 from (by first | omega | (simp only [xsi_len, List.length_set]; omega) | (have z1 := hI.le; have z2 := hI.top; first | omega | (simp only [xsi_len, List.length_set]; omega)))), (show (j : Int) - 1 < List.length (xsI l m i j : List AL.Mount.MountV) from (by first | omega | (simp only [xsi_len, List.length_set]; omega) | (have z1 := hI.le; have z2 := hI.top; first | omega | (simp only [xsi_len, List.length_set]; omega))))⟩), (fun hp => by have hq := hp; (try simp only [decide_eq_true_eq, decide_eq_false_iff_not, Bool.and_eq_true, Bool.or_eq_true, Bool.and_eq_false_iff, Bool.or_eq_false_iff, Bool.not_eq_true', Bool.not_eq_false', Bool.not_eq_true, Bool.not_eq_false] at hq); exact ⟨hp, (show ((j : Int) - 1).toNat < List.length (xsI l m i j : List AL.Mount.MountV) from (by first | omega | (simp only [xsi_len, List.length_set]; omega) | (have z1 := hI.le; have z2 := hI.top; first | omega | (simp only [xsi_len, List.length_set]; omega))))⟩), (fun hp => by have hq := hp; (try simp only [decide_eq_true_eq, decide_eq_false_iff_not, Bool.and_eq_true, Bool.or_eq_true, Bool.and_eq_false_iff, Bool.or_eq_false_iff, Bool.not_eq_true', Bool.not_eq_false', Bool.not_eq_true, Bool.not_eq_false] at hq); exact ⟨hp, hp, hp, (addC_c (List.getD (xsI l m i j) j AL.Mount.md) (List.getD (xsI l m i j) ((j : Int) - 1).toNat AL.Mount.md))⟩), (fun hp => hp), (fun hp2 => (by first | exact hp2 | exact ⟨hp, hp2⟩))⟩ ?_
  refine gB (((decide (0 < (j : Int))) && (decide (cmpS (List.getD (xsI l m i j) j AL.Mount.md).1 (List.getD (xsI l m i j) ((j : Int) - 1).toNat AL.Mount.md).1 < 0)))) (fun hc2 => ?_) fun hc2 => ?_
  ·
   try simp only [xT, xF, xA, xB] at hc2
   refine AMx.skip ?_
   refine gQ ?_
   refine AMx.block ?_
   refine gX [(15, CE.obj (AObj.grow 40 3 AL.Mount.MountV AL.Mount.md AL.Mount.rowM (List.set (xsI l m i j) j (List.getD (xsI l m i j) ((j : Int) - 1).toNat AL.Mount.md)))), (17, CE.obj (AObj.grow 40 3 AL.Mount.MountV AL.Mount.md AL.Mount.rowM (List.set (List.set (xsI l m i j) j (List.getD (xsI l m i j) ((j : Int) - 1).toNat AL.Mount.md)) ((j : Int) - 1).toNat (List.getD (xsI l m i j) j AL.Mount.md))))] [(8, [53]), (9, [53]), (12, [53]), (13, [53]), (14, [53]), (15, [53]), (16, [53]), (17, [53])] [InR .i64 ((j : Int) - 1), InR .i64 ((j : Int) - 1), (0 : Int) ≤ (j : Int) - 1, (j : Int) - 1 < List.length (xsI l m i j : List AL.Mount.MountV), ((j : Int) - 1).toNat < List.length (xsI l m i j : List AL.Mount.MountV), (0 : Int) ≤ (j : Int), (j : Int) < List.length (xsI l m i j : List AL.Mount.MountV), j < List.length (xsI l m i j : List AL.Mount.MountV), (0 : Int) ≤ (j : Int), (j : Int) < List.length (xsI l m i j : List AL.Mount.MountV), StoreC j 0 [.s (st ((List.getD (xsI l m i j) ((j : Int) - 1).toNat AL.Mount.md).1)), .s (i6 (((List.getD (xsI l m i j) ((j : Int) - 1).toNat AL.Mount.md).2).1)), .s (bo (((List.getD (xsI l m i j) ((j : Int) - 1).toNat AL.Mount.md).2).2))] (AObj.grow 40 3 AL.Mount.MountV AL.Mount.md AL.Mount.rowM (xsI l m i j)) (AObj.grow 40 3 AL.Mount.MountV AL.Mount.md AL.Mount.rowM (List.set (xsI l m i j) j (List.getD (xsI l m i j) ((j : Int) - 1).toNat AL.Mount.md))), (0 : Int) ≤ (j : Int) - 1, (j : Int) - 1 < List.length (List.set (xsI l m i j) j (List.getD (xsI l m i j) ((j : Int) - 1).toNat AL.Mount.md) : List AL.Mount.MountV), StoreC (((j : Int) - 1).toNat) 0 [.s (st ((List.getD (xsI l m i j) j AL.Mount.md).1)), .s (i6 (((List.getD (xsI l m i j) j AL.Mount.md).2).1)), .s (bo (((List.getD (xsI l m i j) j AL.Mount.md).2).2))] (AObj.grow 40 3 AL.Mount.MountV AL.Mount.md AL.Mount.rowM (List.set (xsI l m i j) j (List.getD (xsI l m i j) ((j : Int) - 1).toNat AL.Mount.md))) (AObj.grow 40 3 AL.Mount.MountV AL.Mount.md AL.Mount.rowM (List.set (List.set (xsI l m i j) j (List.getD (xsI l m i j) ((j : Int) - 1).toNat AL.Mount.md)) ((j : Int) - 1).toNat (List.getD (xsI l m i j) j AL.Mount.md)))] 53 [(0, vo 53), (1, vc (i6 0)), (2, vc (i6 n)), (3, AV.t (TV.c (.fn 25 []))), (8, vc (i6 (i : Int))), (9, vc (i6 (j : Int)))] [(53, AObj.grow 40 3 AL.Mount.MountV AL.Mount.md AL.Mount.rowM (List.set (List.set (xsI l m i j) j (List.getD (xsI l m i j) ((j : Int) - 1).toNat AL.Mount.md)) ((j : Int) - 1).toNat (List.getD (xsI l m i j) j AL.Mount.md)))] mixed ⟨(show InR .i64 ((j : Int) - 1) from (inR64 (by first | omega | (simp only [xsi_len, List.length_set]; omega) | (have z1 := hI.le; have z2 := hI.top; first | omega | (simp only [xsi_len, List.length_set]; omega))) (by first | omega | (simp only [xsi_len, List.length_set]; omega) | (have z1 := hI.le; have z2 := hI.top; first | omega | (simp only [xsi_len, List.length_set]; omega))))), (show InR .i64 ((j : Int) - 1) from (inR64 (by first | omega | (simp only [xsi_len, List.length_set]; omega) | (have z1 := hI.le; have z2 := hI.top; first | omega | (simp only [xsi_len, List.length_set]; omega))) (by first | omega | (simp only [xsi_len, List.length_set]; omega) | (have z1 := hI.le; have z2 := hI.top; first | omega | (simp only [xsi_len, List.length_set]; omega))))), (show (0 : Int) ≤ (j : Int) - 1 from (by first | omega | (simp only [xsi_len, List.length_set]; omega) | (have z1 := hI.le; have z2 := hI.top; first | omega | (simp only [xsi_len, List.length_set]; omega)))), (show (j : Int) - 1 < List.length (xsI l m i j : List AL.Mount.MountV) from (by first | omega | (simp only [xsi_len, List.length_set]; omega) | (have z1 := hI.le; have z2 := hI.top; first | omega | (simp only [xsi_len, List.length_set]; omega)))), (show ((j : Int) - 1).toNat < List.length (xsI l m i j : List AL.Mount.MountV) from (by first | omega | (simp only [xsi_len, List.length_set]; omega) | (have z1 := hI.le; have z2 := hI.top; first | omega | (simp only [xsi_len, List.length_set]; omega)))), (show (0 : Int) ≤ (j : Int) from (by first | omega | (simp only [xsi_len, List.length_set]; omega) | (have z1 := hI.le; have z2 := hI.top; first | omega | (simp only [xsi_len, List.length_set]; omega)))), (show (j : Int) < List.length (xsI l m i j : List AL.Mount.MountV) from (by first | omega | (simp only [xsi_len, List.length_set]; omega) | (have z1 := hI.le; have z2 := hI.top; first | omega | (simp only [xsi_len, List.length_set]; omega)))), (show j < List.length (xsI l m i j : List AL.Mount.MountV) from (by first | omega | (simp only [xsi_len, List.length_set]; omega) | (have z1 := hI.le; have z2 := hI.top; first | omega | (simp only [xsi_len, List.length_set]; omega)))), (show (0 : Int) ≤ (j : Int) from (by first | omega | (simp only [xsi_len, List.length_set]; omega) | (have z1 := hI.le; have z2 := hI.top; first | omega | (simp only [xsi_len, List.length_set]; omega)))), (show (j : Int) < List.length (xsI l m i j : List AL.Mount.MountV) from (by first | omega | (simp only [xsi_len, List.length_set]; omega) | (have z1 := hI.le; have z2 := hI.top; first | omega | (simp only [xsi_len, List.length_set]; omega)))), (⟨(List.getD (xsI l m i j) ((j : Int) - 1).toNat AL.Mount.md), rfl, by first | omega | (simp only [xsi_len, List.length_set]; omega) | (have z1 := hI.le; have z2 := hI.top; first | omega | (simp only [xsi_len, List.length_set]; omega)), rfl⟩), (show (0 : Int) ≤ (j : Int) - 1 from (by first | omega | (simp only [xsi_len, List.length_set]; omega) | (have z1 := hI.le; have z2 := hI.top; first | omega | (simp only [xsi_len, List.length_set]; omega)))), (show (j : Int) - 1 < List.length (List.set (xsI l m i j) j (List.getD (xsI l m i j) ((j : Int) - 1).toNat AL.Mount.md) : List AL.Mount.MountV) from (by first | omega | (simp only [xsi_len, List.length_set]; omega) | (have z1 := hI.le; have z2 := hI.top; first | omega | (simp only [xsi_len, List.length_set]; omega)))), (⟨(List.getD (xsI l m i j) j AL.Mount.md), rfl, by first | omega | (simp only [xsi_len, List.length_set]; omega) | (have z1 := hI.le; have z2 := hI.top; first | omega | (simp only [xsi_len, List.length_set]; omega)), rfl⟩)⟩ ?_
   refine AMx.blk ?_
   refine gR [] [InR .i64 ((j : Int) - 1)] 53 [(0, vo 53), (1, vc (i6 0)), (2, vc (i6 n)), (3, AV.t (TV.c (.fn 25 []))), (8, vc (i6 (i : Int))), (9, vc (i6 ((j : Int) - 1)))] [(53, AObj.grow 40 3 AL.Mount.MountV AL.Mount.md AL.Mount.rowM (List.set (List.set (xsI l m i j) j (List.getD (xsI l m i j) ((j : Int) - 1).toNat AL.Mount.md)) ((j : Int) - 1).toNat (List.getD (xsI l m i j) j AL.Mount.md)))] (show InR .i64 ((j : Int) - 1) from (inR64 (by first | omega | (simp only [xsi_len, List.length_set]; omega) | (have z1 := hI.le; have z2 := hI.top; first | omega | (simp only [xsi_len, List.length_set]; omega))) (by first | omega | (simp only [xsi_len, List.length_set]; omega) | (have z1 := hI.le; have z2 := hI.top; first | omega | (simp only [xsi_len, List.length_set]; omega))))) ?_
   refine AMx.ent_inv (s' := AS.lst 53 [(0, vo 53), (1, vc (i6 0)), (2, vc (i6 n)), (3, AV.t (TV.c (.fn 25 []))), (8, vc (i6 (i : Int))), (9, vc (i6 ((j : Int) - 1)))] [(53, AObj.grow 40 3 AL.Mount.MountV AL.Mount.md AL.Mount.rowM (List.set (List.set (xsI l m i j) j (List.getD (xsI l m i j) ((j : Int) - 1).toNat AL.Mount.md)) ((j : Int) - 1).toNat (List.getD (xsI l m i j) j AL.Mount.md)))]) (ent_proj [0, 1, 2, 3, 8, 9] [53]) ?_
   refine AMx.inv ⟨_, ?_, j - 1, ?_, rfl, ?_⟩
   rotate_left
   · exact in_next hs hI (by omega) (by omega)
   · rw [in_swap hs hI (by omega) (by omega), show (j : Int) - 1 = ((j - 1 : Nat) : Int) by omega] <;> rfl
   · omega
  ·
   try simp only [xT, xF, xA, xB] at hc2
   refine AMx.exit ?_
   refine AMx.code_exit ?_
   refine AMx.inv_exit ?_
   refine AMx.blk_exit ?_
   refine AMx.blk ?_
   refine gR [] [InR .i64 ((i : Int) + 1)] 53 [(0, vo 53), (1, vc (i6 0)), (2, vc (i6 n)), (3, AV.t (TV.c (.fn 25 []))), (8, vc (i6 ((i : Int) + 1)))] [(53, AObj.grow 40 3 AL.Mount.MountV AL.Mount.md AL.Mount.rowM (xsI l m i j))] (show InR .i64 ((i : Int) + 1) from (inR64 (by first | omega | (simp only [xsi_len, List.length_set]; omega) | (have z1 := hI.le; have z2 := hI.top; first | omega | (simp only [xsi_len, List.length_set]; omega))) (by first | omega | (simp only [xsi_len, List.length_set]; omega) | (have z1 := hI.le; have z2 := hI.top; first | omega | (simp only [xsi_len, List.length_set]; omega))))) ?_
   refine AMx.ent_inv (s' := AS.lst 53 [(0, vo 53), (1, vc (i6 0)), (2, vc (i6 n)), (3, AV.t (TV.c (.fn 25 []))), (8, vc (i6 ((i : Int) + 1)))] [(53, AObj.grow 40 3 AL.Mount.MountV AL.Mount.md AL.Mount.rowM (xsI l m i j))]) (ent_proj [0, 1, 2, 3, 8] [53]) ?_
   refine AMx.inv ⟨_, ?_, i + 1, ?_, rfl, ?_⟩
   rotate_left
   · omega
   · rw [in_stop hs hd hI (by first | assumption | omega)] <;> rfl
   · omega
 ·
  refine AMx.exit ?_
  refine AMx.code_exit ?_
  refine AMx.inv_exit ?_
  refine AMx.blk_exit ?_
  exact ⟨.inr rfl, AObj.grow 40 3 AL.Mount.MountV AL.Mount.md AL.Mount.rowM (xsO l m i), by kernel_rfl, by kernel_rfl, (by rw [xso_end (by omega)]), by kernel_rfl⟩

theorem f39_body : Tryd.f39.body = some (.seq (.region 0 (rg Tryd.f39 0) false) (.seq (.region 1 (rg Tryd.f39 1) false) (.block 0 (.loop (.block 1 (.seq (.region 2 (rg Tryd.f39 2) false) (.seq (.seq (.region 3 (rg Tryd.f39 3) false) (.cond (.tmp 25) (.seq (.region 4 (rg Tryd.f39 4) false) (.ret)) (.skip))) (.seq (.seq (.region 5 (rg Tryd.f39 5) false) (.cond (.tmp 32) (.seq (.region 6 (rg Tryd.f39 6) false) (.ret)) (.skip))) (.seq (.seq (.region 7 (rg Tryd.f39 7) false) (.cond (.tmp 39) (.seq (.region 8 (rg Tryd.f39 8) false) (.region 9 (rg Tryd.f39 9) false)) (.skip))) (.seq (.region 10 (rg Tryd.f39 10) false) (.seq (.seq (.region 11 (rg Tryd.f39 11) false) (.cond (.tmp 56) (.seq (.region 12 (rg Tryd.f39 12) false) (.seq (.region 13 (rg Tryd.f39 13) false) (.region 14 (rg Tryd.f39 14) false))) (.skip))) (.seq (.seq (.region 15 (rg Tryd.f39 15) false) (.cond (.tmp 75) (.seq (.region 16 (rg Tryd.f39 16) false) (.cond (.tmp 80) (.ret) (.skip))) (.skip))) (.seq (.seq (.region 17 (rg Tryd.f39 17) true) (.cond (.tmp 97) (.seq (.region 18 (rg Tryd.f39 18) false) (.seq (.region 19 (rg Tryd.f39 19) false) (.exit 1))) (.skip))) (.seq (.region 20 (rg Tryd.f39 20) false) (.seq (.region 21 (rg Tryd.f39 21) false) (.seq (.region 22 (rg Tryd.f39 22) false) (.seq (.region 23 (rg Tryd.f39 23) false) (.seq (.region 24 (rg Tryd.f39 24) false) (.cond (.tmp 125) (.seq (.region 25 (rg Tryd.f39 25) false) (.seq (.region 26 (rg Tryd.f39 26) false) (.region 27 (rg Tryd.f39 27) false))) (.seq (.region 28 (rg Tryd.f39 28) false) (.seq (.region 29 (rg Tryd.f39 29) false) (.region 30 (rg Tryd.f39 30) false)))))))))))))))))))))) := by kernel_rfl

set_option maxRecDepth 100000 in
set_option maxHeartbeats 8000000 in
theorem pdq_c (l : List MountV) (m : MountV) (n lim : Int) (hn : n = (l.length : Int) + 1) (hs : SortM l) (hd : ∀ x ∈ l, x.1 ≠ m.1) (hl : l.length ≤ 11) (d : Nat) : Spec Tryd.prog 39 [.c (.own d), tc (i6 0), tc (i6 n), tc (i6 lim), TV.c (.fn 25 [])] (ofH [(d, AObj.grow 40 3 AL.Mount.MountV AL.Mount.md AL.Mount.rowM (l ++ [m]))]) (.tup []) (ofH [(d, AObj.grow 40 3 AL.Mount.MountV AL.Mount.md AL.Mount.rowM (insM l m))]) := by
 refine InPl.of_body (D := 148) Tryd.func39 f39_body (by kernel_rfl) Tryd.ntmps39 (by kernel_rfl) (by kernel_rfl) rfl rfl ?_ d
 refine gS [] [] 148 [(0, vo 148), (1, vc (i6 0)), (2, vc (i6 n)), (3, vc (i6 lim)), (4, AV.t (TV.c (.fn 25 []))), (10, vc (bo true))] [(148, AObj.grow 40 3 AL.Mount.MountV AL.Mount.md AL.Mount.rowM (l ++ [m]))] trivial ?_
 refine gS [] [] 148 [(0, vo 148), (1, vc (i6 0)), (2, vc (i6 n)), (3, vc (i6 lim)), (4, AV.t (TV.c (.fn 25 []))), (10, vc (bo true)), (11, vc (bo true))] [(148, AObj.grow 40 3 AL.Mount.MountV AL.Mount.md AL.Mount.rowM (l ++ [m]))] trivial ?_
 refine AMx.block ?_
 refine AMx.ent (s' := AS.lst 148 [(0, vo 148), (1, vc (i6 0)), (2, vc (i6 n)), (3, vc (i6 lim)), (4, AV.t (TV.c (.fn 25 []))), (10, vc (bo true)), (11, vc (bo true))] [(148, AObj.grow 40 3 AL.Mount.MountV AL.Mount.md AL.Mount.rowM (l ++ [m]))]) (ent_proj [0, 1, 2, 3, 4, 10, 11] [148]) ?_
 refine AMx.loop (fun mm ss => ∃ (z : Nat), (z = 0) ∧ mm = 1 + z ∧ ss = AS.lst 148 [(0, vo 148), (1, vc (i6 0)), (2, vc (i6 n)), (3, vc (i6 lim)), (4, AV.t (TV.c (.fn 25 []))), (10, vc (bo true)), (11, vc (bo true))] [(148, AObj.grow 40 3 AL.Mount.MountV AL.Mount.md AL.Mount.rowM (l ++ [m]))]) ⟨0, ?_, rfl, ?_⟩ ?_
 · rfl
 · rfl
 rintro mm ss ⟨z, hI, rfl, rfl⟩
 refine AMx.block ?_
 refine gS [] [InR .i64 (n - 0)] 148 [(0, vo 148), (1, vc (i6 0)), (2, vc (i6 n)), (3, vc (i6 lim)), (4, AV.t (TV.c (.fn 25 []))), (10, vc (bo true)), (11, vc (bo true)), (12, vc (i6 (n - 0)))] [(148, AObj.grow 40 3 AL.Mount.MountV AL.Mount.md AL.Mount.rowM (l ++ [m]))] (show InR .i64 (n - 0) from (inR64 (by omega) (by omega))) ?_
 refine gQ ?_
 refine gS [] [] 148 [(0, vo 148), (1, vc (i6 0)), (2, vc (i6 n)), (3, vc (i6 lim)), (4, AV.t (TV.c (.fn 25 []))), (10, vc (bo true)), (11, vc (bo true)), (12, vc (i6 (n - 0))), (25, vc (bo (decide (n - 0 ≤ 12))))] [(148, AObj.grow 40 3 AL.Mount.MountV AL.Mount.md AL.Mount.rowM (l ++ [m]))] trivial ?_
 refine gC (n - 0 ≤ 12) (fun hc1 => ?_) fun hc1 => ?_
 ·
  refine gS [(4, CE.call [] [148] (AV.tup []) [(148, AObj.grow 40 3 AL.Mount.MountV AL.Mount.md AL.Mount.rowM (insM l m))])] [Spec Tryd.prog 53 [TV.c (.own 148), tc (i6 0), tc (i6 n), TV.c (.fn 25 [])] (ofH [(148, AObj.grow 40 3 AL.Mount.MountV AL.Mount.md AL.Mount.rowM (l ++ [m]))]) (AV.tup []) (ofH [(148, AObj.grow 40 3 AL.Mount.MountV AL.Mount.md AL.Mount.rowM (insM l m))])] 148 [] [(148, AObj.grow 40 3 AL.Mount.MountV AL.Mount.md AL.Mount.rowM (insM l m))] (insert_c l m n (by omega) hs hd hl 148) ?_
  refine AMx.ret ?_
  exact ⟨.inl rfl, AObj.grow 40 3 AL.Mount.MountV AL.Mount.md AL.Mount.rowM (insM l m), by kernel_rfl, by kernel_rfl, rfl, by kernel_rfl⟩
 ·
  exfalso; omega

theorem f24_body : Tryd.f24.body = some (.seq (.region 0 (rg Tryd.f24 0) false) (.region 1 (rg Tryd.f24 1) false)) := by kernel_rfl

set_option maxRecDepth 100000 in
set_option maxHeartbeats 8000000 in
theorem sort_c (l : List MountV) (m : MountV) (hs : SortM l) (hd : ∀ x ∈ l, x.1 ≠ m.1) (hl : l.length ≤ 11) (d : Nat) : Spec Tryd.prog 24 [.c (.own d), TV.c (.fn 25 [])] (ofH [(d, AObj.grow 40 3 AL.Mount.MountV AL.Mount.md AL.Mount.rowM (l ++ [m]))]) (.tup []) (ofH [(d, AObj.grow 40 3 AL.Mount.MountV AL.Mount.md AL.Mount.rowM (insM l m))]) := by
 refine InPl.of_body (D := 14) Tryd.func24 f24_body (by kernel_rfl) Tryd.ntmps24 (by kernel_rfl) (by kernel_rfl) rfl rfl ?_ d
 have hlen : (l ++ [m]).length = l.length + 1 := by simp
 refine gS [] [] 14 [(0, vo 14), (1, AV.t (TV.c (.fn 25 []))), (4, vc (i6 (List.length (l ++ [m] : List AL.Mount.MountV) : Int)))] [(14, AObj.grow 40 3 AL.Mount.MountV AL.Mount.md AL.Mount.rowM (l ++ [m]))] trivial ?_
 refine gR [(4, CE.call [] [] (vc (i6 ((Go.Lib.bitLen (Int.toNat ((List.length (l ++ [m] : List AL.Mount.MountV) : Int))) : Nat) : Int))) []), (6, CE.call [] [14] (AV.tup []) [(14, AObj.grow 40 3 AL.Mount.MountV AL.Mount.md AL.Mount.rowM (insM l m))])] [Spec Tryd.prog 40 [tc (u6 (IntKind.wrap .u64 ((List.length (l ++ [m] : List AL.Mount.MountV) : Int))))] (ofH []) (vc (i6 ((Go.Lib.bitLen (Int.toNat ((List.length (l ++ [m] : List AL.Mount.MountV) : Int))) : Nat) : Int))) (ofH []), Spec Tryd.prog 39 [TV.c (.own 14), tc (i6 0), tc (i6 (List.length (l ++ [m] : List AL.Mount.MountV) : Int)), tc (i6 ((Go.Lib.bitLen (Int.toNat ((List.length (l ++ [m] : List AL.Mount.MountV) : Int))) : Nat) : Int)), TV.c (.fn 25 [])] (ofH [(14, AObj.grow 40 3 AL.Mount.MountV AL.Mount.md AL.Mount.rowM (l ++ [m]))]) (AV.tup []) (ofH [(14, AObj.grow 40 3 AL.Mount.MountV AL.Mount.md AL.Mount.rowM (insM l m))])] 14 [] [(14, AObj.grow 40 3 AL.Mount.MountV AL.Mount.md AL.Mount.rowM (insM l m))] ⟨(Len_c (IntKind.wrap .u64 ((List.length (l ++ [m] : List AL.Mount.MountV) : Int))) ((List.length (l ++ [m] : List AL.Mount.MountV) : Int)) (AL.Quill.wrap_64 (by omega) (by omega)) (by omega) (by omega)), (pdq_c l m (List.length (l ++ [m] : List AL.Mount.MountV) : Int) ((Go.Lib.bitLen (Int.toNat ((List.length (l ++ [m] : List AL.Mount.MountV) : Int))) : Nat) : Int) (by first | omega | (simp only [List.length_append, List.length_cons, List.length_nil]; omega)) hs hd hl 14)⟩ ?_
 exact ⟨.inr rfl, AObj.grow 40 3 AL.Mount.MountV AL.Mount.md AL.Mount.rowM (insM l m), by kernel_rfl, by kernel_rfl, rfl, by kernel_rfl⟩

theorem f36_body : Tryd.f36.body = some (.seq (.region 0 (rg Tryd.f36 0) false) (.seq (.seq (.region 1 (rg Tryd.f36 1) false) (.cond (.tmp 6) (.region 2 (rg Tryd.f36 2) false) (.skip))) (.seq (.seq (.region 3 (rg Tryd.f36 3) false) (.seq (.region 4 (rg Tryd.f36 4) false) (.cond (.tmp 16) (.region 5 (rg Tryd.f36 5) false) (.skip)))) (.seq (.region 6 (rg Tryd.f36 6) false) (.ret))))) := by kernel_rfl

set_option maxRecDepth 100000 in
set_option maxHeartbeats 8000000 in
theorem GrowM_c (n : Int) (h0 : 0 ≤ n) (hb : n * 32 ≤ 140737488355328) : ∀ d, Spec Tryd.prog 36 [tc (SC.nilsl), tc (i6 n)] H0 (vo d) (ofH [(d, AObj.grow 40 3 AL.Mount.MountV AL.Mount.md AL.Mount.rowM [])]) := by
 refine Own.of_body Tryd.func36 f36_body (by kernel_rfl) Tryd.ntmps36 (by kernel_rfl) rfl ?_
 refine gS [] [] 27 [(0, vc (SC.nilsl)), (1, vc (i6 n))] [] trivial ?_
 refine gQ ?_
 refine gS [] [] 27 [(0, vc (SC.nilsl)), (1, vc (i6 n)), (6, vc (bo (decide (n < 0))))] [] trivial ?_
 refine gC (n < 0) (fun hc1 => ?_) fun hc1 => ?_
 ·
  exfalso
  omega
 ·
  refine AMx.skip ?_
  refine gQ ?_
  refine gS [] [InR .i64 (0 - 0), InR .i64 (n - (0 - 0))] 27 [(0, vc (SC.nilsl)), (1, vc (i6 (n - (0 - 0))))] [] ⟨(show InR .i64 (0 - 0) from (inR64 (by omega) (by omega))), (show InR .i64 (n - (0 - 0)) from (inR64 (by omega) (by omega)))⟩ ?_
  refine gS [] [] 27 [(0, vc (SC.nilsl)), (1, vc (i6 (n - (0 - 0)))), (16, vc (bo (decide (0 < n - (0 - 0)))))] [] trivial ?_
  refine gC (0 < n - (0 - 0)) (fun hc2 => ?_) fun hc2 => ?_
  ·
   refine gR [(5, CE.obj (AObj.grow 40 3 AL.Mount.MountV AL.Mount.md AL.Mount.rowM (List.replicate (n - (0 - 0)).toNat AL.Mount.md)))] [0 ≤ (0 : Int), (0 : Int) ≤ 0, 1 ≤ n - (0 - 0), (n - (0 - 0)) * (32 : Int) ≤ 140737488355328, MakeC (n - (0 - 0)).toNat [.s (st []), .s (i6 0), .s (bo false)] (AObj.grow 40 3 AL.Mount.MountV AL.Mount.md AL.Mount.rowM (List.replicate (n - (0 - 0)).toNat AL.Mount.md)), 0 ≤ (0 : Int), (0 : Int) ≤ (List.length (List.replicate (n - (0 - 0)).toNat AL.Mount.md : List AL.Mount.MountV) : Int)] 27 [(0, vo 25)] [(25, AObj.grow 40 3 AL.Mount.MountV AL.Mount.md AL.Mount.rowM (List.take 0 (List.replicate (n - (0 - 0)).toNat AL.Mount.md)))] ⟨(show 0 ≤ (0 : Int) from (by omega)), (show (0 : Int) ≤ 0 from (by omega)), (show 1 ≤ n - (0 - 0) from (by omega)), (show (n - (0 - 0)) * (32 : Int) ≤ 140737488355328 from (by omega)), (⟨_, rfl, rfl⟩), (show 0 ≤ (0 : Int) from (by omega)), (show (0 : Int) ≤ (List.length (List.replicate (n - (0 - 0)).toNat AL.Mount.md : List AL.Mount.MountV) : Int) from (by omega))⟩ ?_
   refine gS [] [] 27 [(4, vo 25)] [(25, AObj.grow 40 3 AL.Mount.MountV AL.Mount.md AL.Mount.rowM (List.take 0 (List.replicate (n - (0 - 0)).toNat AL.Mount.md)))] trivial ?_
   refine AMx.ret ?_
   exact ⟨.inl rfl, 25, AObj.grow 40 3 AL.Mount.MountV AL.Mount.md AL.Mount.rowM (List.take 0 (List.replicate (n - (0 - 0)).toNat AL.Mount.md)), by kernel_rfl, by kernel_rfl, rfl⟩
  ·
   refine AMx.skip ?_
   refine gS [] [] 27 [(4, vc (SC.nilsl))] [] trivial ?_
   refine AMx.ent (s' := AS.lst 27 [(4, vo 4)] [(4, AObj.grow 40 3 AL.Mount.MountV AL.Mount.md AL.Mount.rowM [])]) (ent_adopt (t := 4) (d := 4) 40 3 AL.Mount.MountV AL.Mount.md AL.Mount.rowM (by kernel_rfl) (by kernel_rfl) (by kernel_rfl) (by kernel_rfl)) ?_
   refine AMx.ret ?_
   exact ⟨.inl rfl, 4, AObj.grow 40 3 AL.Mount.MountV AL.Mount.md AL.Mount.rowM [], by kernel_rfl, by kernel_rfl, rfl⟩

theorem f21_body : Tryd.f21.body = some (.seq (.region 0 (rg Tryd.f21 0) false) (.seq (.region 1 (rg Tryd.f21 1) false) (.seq (.seq (.region 2 (rg Tryd.f21 2) false) (.block 0 (.loop (.seq (.region 3 (rg Tryd.f21 3) false) (.seq (.cond (.tmp 12) (.skip) (.exit 0)) (.seq (.block 1 (.seq (.region 4 (rg Tryd.f21 4) false) (.seq (.region 5 (rg Tryd.f21 5) false) (.seq (.region 6 (rg Tryd.f21 6) false) (.cond (.tmp 20) (.region 7 (rg Tryd.f21 7) false) (.skip)))))) (.region 8 (rg Tryd.f21 8) false))))))) (.seq (.region 9 (rg Tryd.f21 9) false) (.seq (.seq (.region 10 (rg Tryd.f21 10) false) (.block 2 (.loop (.seq (.region 11 (rg Tryd.f21 11) false) (.seq (.cond (.tmp 28) (.skip) (.exit 2)) (.seq (.block 3 (.seq (.region 12 (rg Tryd.f21 12) false) (.region 13 (rg Tryd.f21 13) false))) (.region 14 (rg Tryd.f21 14) false))))))) (.seq (.region 15 (rg Tryd.f21 15) false) (.ret))))))) := by kernel_rfl

set_option maxRecDepth 100000 in
set_option maxHeartbeats 8000000 in
theorem ConcatM_c (ls : List (List AL.Mount.MountV)) (hb : ls.flatten.length * 32 ≤ 140737488355328) : ∀ d, Spec Tryd.prog 21 [tc (SC.sl 1 (List AL.Mount.MountV) [] AL.Mount.rowL ls)] H0 (vo d) (ofH [(d, AObj.grow 40 3 AL.Mount.MountV AL.Mount.md AL.Mount.rowM ls.flatten)]) := by
 refine Own.of_body Tryd.func21 f21_body (by kernel_rfl) Tryd.ntmps21 (by kernel_rfl) rfl ?_
 refine AMx.sl 0 (l := ls) rfl (fun hl => ?_)
 simp only [maxLen] at hl
 refine gS [] [] 36 [(0, vc (SC.sl 1 (List AL.Mount.MountV) [] AL.Mount.rowL ls))] [] trivial ?_
 refine gS [] [] 36 [(0, vc (SC.sl 1 (List AL.Mount.MountV) [] AL.Mount.rowL ls)), (3, vc (i6 0))] [] trivial ?_
 refine gQ ?_
 refine gS [] [] 36 [(0, vc (SC.sl 1 (List AL.Mount.MountV) [] AL.Mount.rowL ls)), (3, vc (i6 0)), (9, vc (SC.sl 1 (List AL.Mount.MountV) [] AL.Mount.rowL ls)), (10, vc (i6 (List.length ls : Int))), (11, vc (i6 0))] [] trivial ?_
 refine AMx.block ?_
 refine AMx.ent (s' := AS.lst 36 [(0, vc (SC.sl 1 (List AL.Mount.MountV) [] AL.Mount.rowL ls)), (3, vc (i6 0)), (9, vc (SC.sl 1 (List AL.Mount.MountV) [] AL.Mount.rowL ls)), (10, vc (i6 (List.length ls : Int))), (11, vc (i6 0))] []) (ent_proj [0, 3, 9, 10, 11] []) ?_
 refine AMx.loop (fun mm ss => ∃ (k : Nat), (k ≤ ls.length) ∧ mm = ls.length - k ∧ ss = AS.lst 36 [(0, vc (SC.sl 1 (List AL.Mount.MountV) [] AL.Mount.rowL ls)), (3, vc (i6 ((List.take k ls).flatten.length : Int))), (9, vc (SC.sl 1 (List AL.Mount.MountV) [] AL.Mount.rowL ls)), (10, vc (i6 (List.length ls : Int))), (11, vc (i6 (k : Int)))] []) ⟨0, ?_, rfl, ?_⟩ ?_
 · omega
 · rfl
 rintro mm ss ⟨k, hI, rfl, rfl⟩
 refine gS [] [] 36 [(0, vc (SC.sl 1 (List AL.Mount.MountV) [] AL.Mount.rowL ls)), (3, vc (i6 ((List.take k ls).flatten.length : Int))), (9, vc (SC.sl 1 (List AL.Mount.MountV) [] AL.Mount.rowL ls)), (10, vc (i6 (List.length ls : Int))), (11, vc (i6 (k : Int))), (12, vc (bo (decide ((k : Int) < (List.length ls : Int)))))] [] trivial ?_
 refine gQ ?_
 refine gC ((k : Int) < (List.length ls : Int)) (fun hc1 => ?_) fun hc1 => ?_
 ·
  refine AMx.skip ?_
  refine gQ ?_
  refine AMx.block ?_
  refine gS [] [(0 : Int) ≤ (k : Int), (k : Int) < List.length ls] 36 [(0, vc (SC.sl 1 (List AL.Mount.MountV) [] AL.Mount.rowL ls)), (3, vc (i6 ((List.take k ls).flatten.length : Int))), (5, vc (AL.Mount.slM (List.getD ls k []))), (9, vc (SC.sl 1 (List AL.Mount.MountV) [] AL.Mount.rowL ls)), (10, vc (i6 (List.length ls : Int))), (11, vc (i6 (k : Int)))] [] ⟨(show (0 : Int) ≤ (k : Int) from (by first | omega | (have h1 := Lib.flat_len ls k (by omega); have h2 := Lib.flat_le ls (k + 1); omega) | (have h3 := Lib.flat_le ls k; omega))), (show (k : Int) < List.length ls from (by first | omega | (have h1 := Lib.flat_len ls k (by omega); have h2 := Lib.flat_le ls (k + 1); omega) | (have h3 := Lib.flat_le ls k; omega)))⟩ ?_
  refine gS [] [InR .i64 (((List.take k ls).flatten.length : Int) + (List.length ((List.getD ls k []) : List AL.Mount.MountV) : Int))] 36 [(0, vc (SC.sl 1 (List AL.Mount.MountV) [] AL.Mount.rowL ls)), (3, vc (i6 (((List.take k ls).flatten.length : Int) + (List.length ((List.getD ls k []) : List AL.Mount.MountV) : Int)))), (9, vc (SC.sl 1 (List AL.Mount.MountV) [] AL.Mount.rowL ls)), (10, vc (i6 (List.length ls : Int))), (11, vc (i6 (k : Int)))] [] (show InR .i64 (((List.take k ls).flatten.length : Int) + (List.length ((List.getD ls k []) : List AL.Mount.MountV) : Int)) from (inR64 (by first | omega | (have h1 := Lib.flat_len ls k (by omega); have h2 := Lib.flat_le ls (k + 1); omega) | (have h3 := Lib.flat_le ls k; omega)) (by first | omega | (have h1 := Lib.flat_len ls k (by omega); have h2 := Lib.flat_le ls (k + 1); omega) | (have h3 := Lib.flat_le ls k; omega)))) ?_
  refine gS [] [] 36 [(0, vc (SC.sl 1 (List AL.Mount.MountV) [] AL.Mount.rowL ls)), (3, vc (i6 (((List.take k ls).flatten.length : Int) + (List.length ((List.getD ls k []) : List AL.Mount.MountV) : Int)))), (9, vc (SC.sl 1 (List AL.Mount.MountV) [] AL.Mount.rowL ls)), (10, vc (i6 (List.length ls : Int))), (11, vc (i6 (k : Int))), (20, vc (bo (decide (((List.take k ls).flatten.length : Int) + (List.length ((List.getD ls k []) : List AL.Mount.MountV) : Int) < 0))))] [] trivial ?_
  refine gC (((List.take k ls).flatten.length : Int) + (List.length ((List.getD ls k []) : List AL.Mount.MountV) : Int) < 0) (fun hc2 => ?_) fun hc2 => ?_
  ·
   exfalso
   first | omega | (have h1 := Lib.flat_len ls k (by omega); have h2 := Lib.flat_le ls (k + 1); omega) | (have h3 := Lib.flat_le ls k; omega)
  ·
   refine AMx.skip ?_
   refine AMx.blk ?_
   refine gR [] [InR .i64 ((k : Int) + 1)] 36 [(0, vc (SC.sl 1 (List AL.Mount.MountV) [] AL.Mount.rowL ls)), (3, vc (i6 (((List.take k ls).flatten.length : Int) + (List.length ((List.getD ls k []) : List AL.Mount.MountV) : Int)))), (9, vc (SC.sl 1 (List AL.Mount.MountV) [] AL.Mount.rowL ls)), (10, vc (i6 (List.length ls : Int))), (11, vc (i6 ((k : Int) + 1)))] [] (show InR .i64 ((k : Int) + 1) from (inR64 (by first | omega | (have h1 := Lib.flat_len ls k (by omega); have h2 := Lib.flat_le ls (k + 1); omega) | (have h3 := Lib.flat_le ls k; omega)) (by first | omega | (have h1 := Lib.flat_len ls k (by omega); have h2 := Lib.flat_le ls (k + 1); omega) | (have h3 := Lib.flat_le ls k; omega)))) ?_
   refine AMx.ent_inv (s' := AS.lst 36 [(0, vc (SC.sl 1 (List AL.Mount.MountV) [] AL.Mount.rowL ls)), (3, vc (i6 (((List.take k ls).flatten.length : Int) + (List.length ((List.getD ls k []) : List AL.Mount.MountV) : Int)))), (9, vc (SC.sl 1 (List AL.Mount.MountV) [] AL.Mount.rowL ls)), (10, vc (i6 (List.length ls : Int))), (11, vc (i6 ((k : Int) + 1)))] []) (ent_proj [0, 3, 9, 10, 11] []) ?_
   refine AMx.inv ⟨_, ?_, k + 1, ?_, rfl, ?_⟩
   rotate_left
   · omega
   · rw [Lib.flat_len ls k (by omega)]; rfl
   · omega
 ·
  refine AMx.exit ?_
  refine AMx.code_exit ?_
  refine AMx.inv_exit ?_
  refine AMx.blk_exit ?_
  refine gS [(1, CE.call [] [] (vo 24) [(24, AObj.grow 40 3 AL.Mount.MountV AL.Mount.md AL.Mount.rowM [])])] [Spec Tryd.prog 36 [tc (SC.nilsl), tc (i6 ((List.take k ls).flatten.length : Int))] (ofH []) (vo 24) (ofH [(24, AObj.grow 40 3 AL.Mount.MountV AL.Mount.md AL.Mount.rowM [])])] 36 [(0, vc (SC.sl 1 (List AL.Mount.MountV) [] AL.Mount.rowL ls)), (6, vo 24)] [(24, AObj.grow 40 3 AL.Mount.MountV AL.Mount.md AL.Mount.rowM [])] (GrowM_c ((List.take k ls).flatten.length : Int) (by first | omega | (have h1 := Lib.flat_len ls k (by omega); have h2 := Lib.flat_le ls (k + 1); omega) | (have h3 := Lib.flat_le ls k; omega)) (by first | omega | (have h1 := Lib.flat_len ls k (by omega); have h2 := Lib.flat_le ls (k + 1); omega) | (have h3 := Lib.flat_le ls k; omega)) 24) ?_
  refine gQ ?_
  refine gS [] [] 36 [(6, vo 24), (25, vc (SC.sl 1 (List AL.Mount.MountV) [] AL.Mount.rowL ls)), (26, vc (i6 (List.length ls : Int))), (27, vc (i6 0))] [(24, AObj.grow 40 3 AL.Mount.MountV AL.Mount.md AL.Mount.rowM [])] trivial ?_
  refine AMx.block ?_
  refine AMx.ent (s' := AS.lst 36 [(6, vo 24), (25, vc (SC.sl 1 (List AL.Mount.MountV) [] AL.Mount.rowL ls)), (26, vc (i6 (List.length ls : Int))), (27, vc (i6 0))] [(24, AObj.grow 40 3 AL.Mount.MountV AL.Mount.md AL.Mount.rowM [])]) (ent_proj [6, 25, 26, 27] [24]) ?_
  refine AMx.loop (fun mm ss => ∃ (m : Nat), (m ≤ ls.length) ∧ mm = ls.length - m ∧ ss = AS.lst 36 [(6, vo 24), (25, vc (SC.sl 1 (List AL.Mount.MountV) [] AL.Mount.rowL ls)), (26, vc (i6 (List.length ls : Int))), (27, vc (i6 (m : Int)))] [(24, AObj.grow 40 3 AL.Mount.MountV AL.Mount.md AL.Mount.rowM ((List.take m ls).flatten))]) ⟨0, ?_, rfl, ?_⟩ ?_
  · omega
  · rfl
  rintro mm ss ⟨m, hI, rfl, rfl⟩
  refine gS [] [] 36 [(6, vo 24), (25, vc (SC.sl 1 (List AL.Mount.MountV) [] AL.Mount.rowL ls)), (26, vc (i6 (List.length ls : Int))), (27, vc (i6 (m : Int))), (28, vc (bo (decide ((m : Int) < (List.length ls : Int)))))] [(24, AObj.grow 40 3 AL.Mount.MountV AL.Mount.md AL.Mount.rowM ((List.take m ls).flatten))] trivial ?_
  refine gQ ?_
  refine gC ((m : Int) < (List.length ls : Int)) (fun hc3 => ?_) fun hc3 => ?_
  ·
   refine AMx.skip ?_
   refine gQ ?_
   refine AMx.block ?_
   refine gS [] [(0 : Int) ≤ (m : Int), (m : Int) < List.length ls] 36 [(6, vo 24), (8, vc (AL.Mount.slM (List.getD ls m []))), (25, vc (SC.sl 1 (List AL.Mount.MountV) [] AL.Mount.rowL ls)), (26, vc (i6 (List.length ls : Int))), (27, vc (i6 (m : Int)))] [(24, AObj.grow 40 3 AL.Mount.MountV AL.Mount.md AL.Mount.rowM ((List.take m ls).flatten))] ⟨(show (0 : Int) ≤ (m : Int) from (by first | omega | (have h1 := Lib.flat_len ls k (by omega); have h2 := Lib.flat_le ls (k + 1); omega) | (have h3 := Lib.flat_le ls k; omega))), (show (m : Int) < List.length ls from (by first | omega | (have h1 := Lib.flat_len ls k (by omega); have h2 := Lib.flat_le ls (k + 1); omega) | (have h3 := Lib.flat_le ls k; omega)))⟩ ?_
   refine gR [(2, CE.obj (AObj.grow 40 3 AL.Mount.MountV AL.Mount.md AL.Mount.rowM (((List.take m ls).flatten) ++ (List.getD ls m []))))] [AppC (flat 3 AL.Mount.rowM (List.getD ls m [])) (List.length ((List.getD ls m []) : List AL.Mount.MountV)) 32 (AObj.grow 40 3 AL.Mount.MountV AL.Mount.md AL.Mount.rowM ((List.take m ls).flatten)) (AObj.grow 40 3 AL.Mount.MountV AL.Mount.md AL.Mount.rowM (((List.take m ls).flatten) ++ (List.getD ls m [])))] 36 [(6, vo 33), (25, vc (SC.sl 1 (List AL.Mount.MountV) [] AL.Mount.rowL ls)), (26, vc (i6 (List.length ls : Int))), (27, vc (i6 (m : Int)))] [(33, AObj.grow 40 3 AL.Mount.MountV AL.Mount.md AL.Mount.rowM (((List.take m ls).flatten) ++ (List.getD ls m [])))] (⟨_, rfl, rfl, rfl, by have h1 := Lib.flat_len ls m (by omega); have h2 := Lib.flat_le ls (m + 1); omega, by simp only [maxLen]; have h1 := Lib.flat_len ls m (by omega); have h2 := Lib.flat_le ls (m + 1); omega⟩) ?_
   refine AMx.blk ?_
   refine gR [] [InR .i64 ((m : Int) + 1)] 36 [(6, vo 33), (25, vc (SC.sl 1 (List AL.Mount.MountV) [] AL.Mount.rowL ls)), (26, vc (i6 (List.length ls : Int))), (27, vc (i6 ((m : Int) + 1)))] [(33, AObj.grow 40 3 AL.Mount.MountV AL.Mount.md AL.Mount.rowM (((List.take m ls).flatten) ++ (List.getD ls m [])))] (show InR .i64 ((m : Int) + 1) from (inR64 (by first | omega | (have h1 := Lib.flat_len ls k (by omega); have h2 := Lib.flat_le ls (k + 1); omega) | (have h3 := Lib.flat_le ls k; omega)) (by first | omega | (have h1 := Lib.flat_len ls k (by omega); have h2 := Lib.flat_le ls (k + 1); omega) | (have h3 := Lib.flat_le ls k; omega)))) ?_
   refine AMx.ent_inv (s' := AS.lst 36 [(6, vo 24), (25, vc (SC.sl 1 (List AL.Mount.MountV) [] AL.Mount.rowL ls)), (26, vc (i6 (List.length ls : Int))), (27, vc (i6 ((m : Int) + 1)))] [(24, AObj.grow 40 3 AL.Mount.MountV AL.Mount.md AL.Mount.rowM (((List.take m ls).flatten) ++ (List.getD ls m [])))]) (ent_swap 33 24 (by kernel_rfl) (by kernel_rfl)) ?_
   refine AMx.ent_inv (s' := AS.lst 36 [(6, vo 24), (25, vc (SC.sl 1 (List AL.Mount.MountV) [] AL.Mount.rowL ls)), (26, vc (i6 (List.length ls : Int))), (27, vc (i6 ((m : Int) + 1)))] [(24, AObj.grow 40 3 AL.Mount.MountV AL.Mount.md AL.Mount.rowM (((List.take m ls).flatten) ++ (List.getD ls m [])))]) (ent_proj [6, 25, 26, 27] [24]) ?_
   refine AMx.inv ⟨_, ?_, m + 1, ?_, rfl, ?_⟩
   rotate_left
   · omega
   · rw [← Lib.flat_step [] ls m (by omega)]; rfl
   · omega
  ·
   refine AMx.exit ?_
   refine AMx.code_exit ?_
   refine AMx.inv_exit ?_
   refine AMx.blk_exit ?_
   refine gS [] [] 36 [(2, vo 24)] [(24, AObj.grow 40 3 AL.Mount.MountV AL.Mount.md AL.Mount.rowM ((List.take m ls).flatten))] trivial ?_
   refine AMx.ret ?_
   exact ⟨.inl rfl, 24, AObj.grow 40 3 AL.Mount.MountV AL.Mount.md AL.Mount.rowM ((List.take m ls).flatten), by kernel_rfl, by kernel_rfl, by rw [Lib.flat_all ls m (by omega)]⟩

theorem f8_body : Tryd.f8.body = some (.seq (.region 0 (rg Tryd.f8 0) false) (.seq (.seq (.region 1 (rg Tryd.f8 1) false) (.seq (.region 2 (rg Tryd.f8 2) false) (.cond (.tmp 11) (.seq (.region 3 (rg Tryd.f8 3) false) (.ret)) (.skip)))) (.seq (.block 0 (.seq (.region 4 (rg Tryd.f8 4) false) (.cond (.tmp 14) (.seq (.region 5 (rg Tryd.f8 5) false) (.ret)) (.seq (.region 6 (rg Tryd.f8 6) true) (.cond (.tmp 21) (.seq (.region 7 (rg Tryd.f8 7) false) (.ret)) (.seq (.region 8 (rg Tryd.f8 8) false) (.cond (.tmp 28) (.seq (.region 9 (rg Tryd.f8 9) false) (.ret)) (.skip)))))))) (.seq (.region 10 (rg Tryd.f8 10) false) (.seq (.region 11 (rg Tryd.f8 11) false) (.seq (.region 12 (rg Tryd.f8 12) false) (.ret))))))) := by kernel_rfl

set_option maxRecDepth 100000 in
set_option maxHeartbeats 8000000 in
theorem Add_c (l : List MountV) (m : MountV) (hs : SortM l) (hb : l.length ≤ 1000) : Pure Tryd.prog 8 [TV.agg [.s (AL.Mount.slM l)], TV.agg [.s (st m.1), .s (i6 m.2.1), .s (bo m.2.2)]] (AV.tup [TV.agg [.s (AL.Mount.slM ((addM l m).1))], tc (i6 ((addM l m).2))]) := by
 refine Pure.of_body Tryd.func8 f8_body (by kernel_rfl) Tryd.ntmps8 (by kernel_rfl) (by kernel_rfl) ?_
 refine gS [] [] 44 [(2, vp 2 0), (3, vp 3 0), (4, vp 4 0)] [(2, AObj.row [.s (AL.Mount.slM l)]), (3, AObj.row [.s (st m.1), .s (i6 m.2.1), .s (bo m.2.2)]), (4, AObj.row [.s (SC.nilsl)])] trivial ?_
 refine gQ ?_
 refine gS [(1, CE.call [] [] (vc (i6 (checkM m))) [])] [Spec Tryd.prog 11 [TV.agg [.s (st m.1), .s (i6 m.2.1), .s (bo m.2.2)]] (ofH []) (vc (i6 (checkM m))) (ofH [])] 44 [(2, vp 2 0), (3, vp 3 0), (4, vp 4 0), (6, vc (i6 (checkM m)))] [(2, AObj.row [.s (AL.Mount.slM l)]), (3, AObj.row [.s (st m.1), .s (i6 m.2.1), .s (bo m.2.2)]), (4, AObj.row [.s (SC.nilsl)])] (Check_c m) ?_
 refine gS [] [] 44 [(2, vp 2 0), (3, vp 3 0), (4, vp 4 0), (6, vc (i6 (checkM m))), (11, vc (bo (!decide (checkM m = 0))))] [(2, AObj.row [.s (AL.Mount.slM l)]), (3, AObj.row [.s (st m.1), .s (i6 m.2.1), .s (bo m.2.2)]), (4, AObj.row [.s (SC.nilsl)])] trivial ?_
 refine gN (checkM m = 0) (fun hc1 => ?_) fun hc1 => ?_
 ·
  refine gS [] [] 44 [(4, vp 4 0), (5, vc (i6 (checkM m)))] [(4, AObj.row [.s (AL.Mount.slM l)])] trivial ?_
  exact gT (AV.tup [TV.agg [.s (AL.Mount.slM l)], tc (i6 (checkM m))]) (by rw [show addM l m = (l, checkM m) from by first | exact add_1 (by assumption) | exact add_2 (by assumption) (by assumption) | exact add_3 (by assumption) (by assumption) (by simp_all) | exact add_4 (by assumption) (by assumption) (by simp_all) (by assumption) | exact add_5 (by assumption) (by assumption) (by simp_all) (by assumption)])
 ·
  refine AMx.skip ?_
  refine gQ ?_
  refine AMx.block ?_
  refine gS [(3, CE.call [] [] (vc (i6 (findM l m.1))) [])] [Spec Tryd.prog 20 [TV.agg [.s (AL.Mount.slM l)], tc (st m.1)] (ofH []) (vc (i6 (findM l m.1))) (ofH [])] 44 [(2, vp 2 0), (3, vp 3 0), (4, vp 4 0), (14, vc (bo (decide (0 ≤ findM l m.1))))] [(2, AObj.row [.s (AL.Mount.slM l)]), (3, AObj.row [.s (st m.1), .s (i6 m.2.1), .s (bo m.2.2)]), (4, AObj.row [.s (SC.nilsl)])] (find_c l m.1) ?_
  refine gC (0 ≤ findM l m.1) (fun hc2 => ?_) fun hc2 => ?_
  ·
   refine gS [] [] 44 [(4, vp 4 0), (5, vc (i6 20))] [(4, AObj.row [.s (AL.Mount.slM l)])] trivial ?_
   exact gT (AV.tup [TV.agg [.s (AL.Mount.slM l)], tc (i6 20)]) (by rw [show addM l m = (l, 20) from by first | exact add_1 (by assumption) | exact add_2 (by assumption) (by assumption) | exact add_3 (by assumption) (by assumption) (by simp_all) | exact add_4 (by assumption) (by assumption) (by simp_all) (by assumption) | exact add_5 (by assumption) (by assumption) (by simp_all) (by assumption)])
  ·
   refine gY [(3, CE.call [] [] (vc (AL.Fnv.slS (pathsM l))) []), (4, CE.call [] [] (vc (bo (AL.Under.nestedS m.1 (pathsM l)))) [])] [(1, [3]), (2, [2])] [Spec Tryd.prog 23 [TV.agg [.s (AL.Mount.slM l)]] (ofH []) (vc (AL.Fnv.slS (pathsM l))) (ofH []), Spec Tryd.prog 22 [tc (st m.1), tc (AL.Fnv.slS (pathsM l))] (ofH []) (vc (bo (AL.Under.nestedS m.1 (pathsM l)))) (ofH [])] 44 [(2, vp 2 0), (3, vp 3 0), (4, vp 4 0), (21, vc (bo (AL.Under.nestedS m.1 (pathsM l))))] [(2, AObj.row [.s (AL.Mount.slM l)]), (3, AObj.row [.s (st m.1), .s (i6 m.2.1), .s (bo m.2.2)]), (4, AObj.row [.s (SC.nilsl)])] mixed ⟨(paths_c l (by first | omega | (simp only [List.flatten_cons, List.flatten_nil, List.length_append, List.length_cons, List.length_nil]; omega))), (Under.Nested_c m.1 (pathsM l))⟩ ?_
   refine gB (AL.Under.nestedS m.1 (pathsM l)) (fun hc3 => ?_) fun hc3 => ?_
   ·
    try simp only [xT, xF] at hc3
    refine gS [] [] 44 [(4, vp 4 0), (5, vc (i6 15))] [(4, AObj.row [.s (AL.Mount.slM l)])] trivial ?_
    exact gT (AV.tup [TV.agg [.s (AL.Mount.slM l)], tc (i6 15)]) (by rw [show addM l m = (l, 15) from by first | exact add_1 (by assumption) | exact add_2 (by assumption) (by assumption) | exact add_3 (by assumption) (by assumption) (by simp_all) | exact add_4 (by assumption) (by assumption) (by simp_all) (by assumption) | exact add_5 (by assumption) (by assumption) (by simp_all) (by assumption)])
   ·
    try simp only [xT, xF] at hc3
    refine gS [] [] 44 [(2, vp 2 0), (3, vp 3 0), (4, vp 4 0), (28, vc (bo (decide (4 ≤ (List.length l : Int)))))] [(2, AObj.row [.s (AL.Mount.slM l)]), (3, AObj.row [.s (st m.1), .s (i6 m.2.1), .s (bo m.2.2)]), (4, AObj.row [.s (SC.nilsl)])] trivial ?_
    refine gC (4 ≤ (List.length l : Int)) (fun hc4 => ?_) fun hc4 => ?_
    ·
     refine gS [] [] 44 [(4, vp 4 0), (5, vc (i6 24))] [(4, AObj.row [.s (AL.Mount.slM l)])] trivial ?_
     exact gT (AV.tup [TV.agg [.s (AL.Mount.slM l)], tc (i6 24)]) (by rw [show addM l m = (l, 24) from by first | exact add_1 (by assumption) | exact add_2 (by assumption) (by assumption) | exact add_3 (by assumption) (by assumption) (by simp_all) | exact add_4 (by assumption) (by assumption) (by simp_all) (by assumption) | exact add_5 (by assumption) (by assumption) (by simp_all) (by assumption)])
    ·
     refine AMx.skip ?_
     refine AMx.blk ?_
     refine gS [(3, CE.shr (some (AObj.grow 40 3 AL.Mount.MountV AL.Mount.md AL.Mount.rowM [m]))), (4, CE.obj (AObj.grow 25 1 (List AL.Mount.MountV) [] AL.Mount.rowL [l, [m]])), (5, CE.call [38] [] (vo 39) [(39, AObj.grow 40 3 AL.Mount.MountV AL.Mount.md AL.Mount.rowM (([l, [m]]).flatten))])] [flat 3 AL.Mount.rowM [m] = [.s (st m.1), .s (i6 m.2.1), .s (bo m.2.2)], List.length ([m] : List AL.Mount.MountV) = 1, flat 1 AL.Mount.rowL [l, [m]] = [.s (AL.Mount.slM l), .s (AL.Mount.slM [m])], List.length ([l, [m]] : List (List AL.Mount.MountV)) = 2, Spec Tryd.prog 21 [tc (SC.sl 1 (List AL.Mount.MountV) [] AL.Mount.rowL [l, [m]])] (ofH []) (vo 39) (ofH [(39, AObj.grow 40 3 AL.Mount.MountV AL.Mount.md AL.Mount.rowM (([l, [m]]).flatten))])] 44 [(4, vp 4 0), (7, vo 39)] [(4, AObj.row [.s (SC.nilsl)]), (39, AObj.grow 40 3 AL.Mount.MountV AL.Mount.md AL.Mount.rowM (([l, [m]]).flatten))] ⟨rfl, rfl, rfl, rfl, (ConcatM_c [l, [m]] (by simp only [List.flatten_cons, List.flatten_nil, List.length_append, List.length_cons, List.length_nil, List.length_take, List.length_drop]; first | omega | (simp only [List.flatten_cons, List.flatten_nil, List.length_append, List.length_cons, List.length_nil]; omega)) 39)⟩ ?_
     refine gS [(1, CE.call [] [39] (AV.tup []) [(39, AObj.grow 40 3 AL.Mount.MountV AL.Mount.md AL.Mount.rowM (insM l m))])] [Spec Tryd.prog 24 [TV.c (.own 39), TV.c (.fn 25 [])] (ofH [(39, AObj.grow 40 3 AL.Mount.MountV AL.Mount.md AL.Mount.rowM (([l, [m]]).flatten))]) (AV.tup []) (ofH [(39, AObj.grow 40 3 AL.Mount.MountV AL.Mount.md AL.Mount.rowM (insM l m))])] 44 [(4, vp 4 0), (7, vo 39)] [(4, AObj.row [.s (SC.nilsl)]), (39, AObj.grow 40 3 AL.Mount.MountV AL.Mount.md AL.Mount.rowM (insM l m))] (flat_two l m ▸ sort_c l m hs (find_no (by omega)) (by omega) 39) ?_
     refine gS [] [] 44 [(4, vp 4 0), (5, vc (i6 0))] [(4, AObj.row [.own 39]), (39, AObj.grow 40 3 AL.Mount.MountV AL.Mount.md AL.Mount.rowM (insM l m))] trivial ?_
     refine AMx.ent (s' := AS.lst 44 [(4, vp 4 0), (5, vc (i6 0))] [(4, AObj.row [.s (AL.Mount.slM (insM l m))])]) (ent_freeze (id := 39) (T := 40) (by kernel_rfl)) ?_
     exact gT (AV.tup [TV.agg [.s (AL.Mount.slM (insM l m))], tc (i6 0)]) (by rw [show addM l m = (insM l m, 0) from by first | exact add_1 (by assumption) | exact add_2 (by assumption) (by assumption) | exact add_3 (by assumption) (by assumption) (by simp_all) | exact add_4 (by assumption) (by assumption) (by simp_all) (by assumption) | exact add_5 (by assumption) (by assumption) (by simp_all) (by assumption)])

theorem f7_body : Tryd.f7.body = some (.seq (.region 0 (rg Tryd.f7 0) false) (.seq (.region 1 (rg Tryd.f7 1) false) (.seq (.seq (.region 2 (rg Tryd.f7 2) false) (.cond (.tmp 11) (.seq (.region 3 (rg Tryd.f7 3) false) (.ret)) (.skip))) (.seq (.region 4 (rg Tryd.f7 4) true) (.ret))))) := by kernel_rfl

set_option maxRecDepth 100000 in
set_option maxHeartbeats 8000000 in
theorem Remove_c (l : List MountV) (p : Bytes) (hb : l.length ≤ 1000) : Pure Tryd.prog 7 [TV.agg [.s (AL.Mount.slM l)], tc (st p)] (AV.tup [TV.agg [.s (AL.Mount.slM ((removeM l p).1))], tc (i6 ((removeM l p).2))]) := by
 refine Pure.of_body Tryd.func7 f7_body (by kernel_rfl) Tryd.ntmps7 (by kernel_rfl) (by kernel_rfl) ?_
 refine gS [] [] 25 [(1, vc (st p)), (2, vp 2 0), (4, vp 4 0)] [(2, AObj.row [.s (AL.Mount.slM l)]), (4, AObj.row [.s (SC.nilsl)])] trivial ?_
 refine gS [(2, CE.call [] [] (vc (i6 (findM l p))) [])] [Spec Tryd.prog 20 [TV.agg [.s (AL.Mount.slM l)], tc (st p)] (ofH []) (vc (i6 (findM l p))) (ofH [])] 25 [(2, vp 2 0), (4, vp 4 0), (6, vc (i6 (findM l p)))] [(2, AObj.row [.s (AL.Mount.slM l)]), (4, AObj.row [.s (SC.nilsl)])] (find_c l p) ?_
 refine gQ ?_
 refine gS [] [] 25 [(2, vp 2 0), (4, vp 4 0), (6, vc (i6 (findM l p))), (11, vc (bo (decide (findM l p < 0))))] [(2, AObj.row [.s (AL.Mount.slM l)]), (4, AObj.row [.s (SC.nilsl)])] trivial ?_
 refine gC (findM l p < 0) (fun hc1 => ?_) fun hc1 => ?_
 ·
  refine gS [] [] 25 [(4, vp 4 0), (5, vc (i6 14))] [(4, AObj.row [.s (AL.Mount.slM l)])] trivial ?_
  exact gT (AV.tup [TV.agg [.s (AL.Mount.slM l)], tc (i6 14)]) (by rw [show removeM l p = (l, 14) from by first | rw [remove_1 (by assumption)] | (rw [remove_2 (by assumption), show (findM l p + 1).toNat = (findM l p).toNat + 1 by have hg := find_ge l p; omega, flat_parts])])
 ·
  refine AMx.skip ?_
  refine gY [(9, CE.obj (AObj.grow 25 1 (List AL.Mount.MountV) [] AL.Mount.rowL [List.take (findM l p).toNat l, List.drop ((findM l p) + 1).toNat l])), (10, CE.call [22] [] (vo 23) [(23, AObj.grow 40 3 AL.Mount.MountV AL.Mount.md AL.Mount.rowM (([List.take (findM l p).toNat l, List.drop ((findM l p) + 1).toNat l]).flatten))])] [(1, [2]), (5, [2]), (10, [22]), (12, [4])] [0 ≤ findM l p, findM l p ≤ List.length l, InR .i64 ((findM l p) + 1), 0 ≤ (findM l p) + 1, (findM l p) + 1 ≤ List.length l, flat 1 AL.Mount.rowL [List.take (findM l p).toNat l, List.drop ((findM l p) + 1).toNat l] = [.s (AL.Mount.slM (List.take (findM l p).toNat l)), .s (AL.Mount.slM (List.drop ((findM l p) + 1).toNat l))], List.length ([List.take (findM l p).toNat l, List.drop ((findM l p) + 1).toNat l] : List (List AL.Mount.MountV)) = 2, Spec Tryd.prog 21 [tc (SC.sl 1 (List AL.Mount.MountV) [] AL.Mount.rowL [List.take (findM l p).toNat l, List.drop ((findM l p) + 1).toNat l])] (ofH []) (vo 23) (ofH [(23, AObj.grow 40 3 AL.Mount.MountV AL.Mount.md AL.Mount.rowM (([List.take (findM l p).toNat l, List.drop ((findM l p) + 1).toNat l]).flatten))])] 25 [(4, vp 4 0), (5, vc (i6 0))] [(4, AObj.row [.own 23]), (23, AObj.grow 40 3 AL.Mount.MountV AL.Mount.md AL.Mount.rowM (([List.take (findM l p).toNat l, List.drop ((findM l p) + 1).toNat l]).flatten))] mixed ⟨(show 0 ≤ findM l p from (by first | omega | (have hf := find_lt l p; have hg := find_ge l p; first | omega | (simp only [List.flatten_cons, List.flatten_nil, List.length_append, List.length_take, List.length_drop, List.length_cons, List.length_nil]; omega)))), (show findM l p ≤ List.length l from (by first | omega | (have hf := find_lt l p; have hg := find_ge l p; first | omega | (simp only [List.flatten_cons, List.flatten_nil, List.length_append, List.length_take, List.length_drop, List.length_cons, List.length_nil]; omega)))), (show InR .i64 ((findM l p) + 1) from (inR64 (by first | omega | (have hf := find_lt l p; have hg := find_ge l p; first | omega | (simp only [List.flatten_cons, List.flatten_nil, List.length_append, List.length_take, List.length_drop, List.length_cons, List.length_nil]; omega))) (by first | omega | (have hf := find_lt l p; have hg := find_ge l p; first | omega | (simp only [List.flatten_cons, List.flatten_nil, List.length_append, List.length_take, List.length_drop, List.length_cons, List.length_nil]; omega))))), (show 0 ≤ (findM l p) + 1 from (by first | omega | (have hf := find_lt l p; have hg := find_ge l p; first | omega | (simp only [List.flatten_cons, List.flatten_nil, List.length_append, List.length_take, List.length_drop, List.length_cons, List.length_nil]; omega)))), (show (findM l p) + 1 ≤ List.length l from (by first | omega | (have hf := find_lt l p; have hg := find_ge l p; first | omega | (simp only [List.flatten_cons, List.flatten_nil, List.length_append, List.length_take, List.length_drop, List.length_cons, List.length_nil]; omega)))), rfl, rfl, (ConcatM_c [List.take (findM l p).toNat l, List.drop ((findM l p) + 1).toNat l] (by simp only [List.flatten_cons, List.flatten_nil, List.length_append, List.length_cons, List.length_nil, List.length_take, List.length_drop]; first | omega | (have hf := find_lt l p; have hg := find_ge l p; first | omega | (simp only [List.flatten_cons, List.flatten_nil, List.length_append, List.length_take, List.length_drop, List.length_cons, List.length_nil]; omega))) 23)⟩ ?_
  refine AMx.ent (s' := AS.lst 25 [(4, vp 4 0), (5, vc (i6 0))] [(4, AObj.row [.s (AL.Mount.slM (([List.take (findM l p).toNat l, List.drop ((findM l p) + 1).toNat l]).flatten))])]) (ent_freeze (id := 23) (T := 40) (by kernel_rfl)) ?_
  exact gT (AV.tup [TV.agg [.s (AL.Mount.slM (([List.take (findM l p).toNat l, List.drop ((findM l p) + 1).toNat l]).flatten))], tc (i6 0)]) (by rw [show removeM l p = (([List.take (findM l p).toNat l, List.drop ((findM l p) + 1).toNat l]).flatten, 0) from by first | rw [remove_1 (by assumption)] | (rw [remove_2 (by assumption), show (findM l p + 1).toNat = (findM l p).toNat + 1 by have hg := find_ge l p; omega, flat_parts])])

end AL.Mount
