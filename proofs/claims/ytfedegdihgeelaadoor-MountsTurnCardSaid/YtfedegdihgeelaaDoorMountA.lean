/- mounts: the contracts of its functions, by their walks. No condition. -/
import Derived.Test.YtfedegdihgeelaaDoorMountE
import Derived.Test.YtfedegdihgeelaaDoorQuillA
import Derived.Test.YtfedegdihgeelaaDoorRouteF
import Derived.Test.YtfedegdihgeelaaDoorSecretA
import Derived.Test.YtfedegdihgeelaaDoorUnderA
namespace AL.Mount
open Go Go.Proofs AL
open AL.Quill (rowQ numQ rowB)
set_option linter.unusedVariables false
set_option linter.unusedSimpArgs false

theorem f11_body : Tryd.f11.body = some (.seq (.region 0 (rg Tryd.f11 0) false) (.seq (.seq (.region 1 (rg Tryd.f11 1) false) (.seq (.region 2 (rg Tryd.f11 2) false) (.cond (.tmp 8) (.seq (.region 3 (rg Tryd.f11 3) false) (.ret)) (.skip)))) (.seq (.region 4 (rg Tryd.f11 4) false) (.ret)))) := by kernel_rfl

set_option maxRecDepth 100000 in
set_option maxHeartbeats 8000000 in
theorem Check_c (m : MountV) : Pure Tryd.prog 11 [TV.agg [.s (st m.1), .s (i6 m.2.1), .s (bo m.2.2)]] (vc (i6 (checkM m))) := by
 refine Pure.of_body Tryd.func11 f11_body (by kernel_rfl) Tryd.ntmps11 (by kernel_rfl) (by kernel_rfl) ?_
 refine gS [] [] 14 [(1, vp 1 0)] [(1, AObj.row [.s (st m.1), .s (i6 m.2.1), .s (bo m.2.2)])] trivial ?_
 refine gQ ?_
 refine gS [(2, CE.call [] [] (vc (i6 (AL.Route.checkS m.1))) [])] [Spec Tryd.prog 28 [tc (st m.1)] (ofH []) (vc (i6 (AL.Route.checkS m.1))) (ofH [])] 14 [(1, vp 1 0), (3, vc (i6 (AL.Route.checkS m.1)))] [(1, AObj.row [.s (st m.1), .s (i6 m.2.1), .s (bo m.2.2)])] (Route.Check_c m.1) ?_
 refine gS [] [] 14 [(1, vp 1 0), (3, vc (i6 (AL.Route.checkS m.1))), (8, vc (bo (!decide (AL.Route.checkS m.1 = 0))))] [(1, AObj.row [.s (st m.1), .s (i6 m.2.1), .s (bo m.2.2)])] trivial ?_
 refine gN (AL.Route.checkS m.1 = 0) (fun hc1 => ?_) fun hc1 => ?_
 ·
  refine gS [] [] 14 [(2, vc (i6 (AL.Route.checkS m.1)))] [] trivial ?_
  exact gT (vc (i6 (AL.Route.checkS m.1))) (by rw [show checkM m = AL.Route.checkS m.1 from by first | exact check_1 (by assumption) | exact check_s (by assumption) | exact check_2 (by assumption) (by omega) | exact check_3 (by assumption) (by omega)])
 ·
  refine AMx.skip ?_
  refine gS [(3, CE.call [] [] (vc (i6 (AL.Secret.checkS ((0, false, 0, []) : AL.Secret.Sec) m.2))) [])] [Spec Tryd.prog 29 [TV.agg [.s (i6 0), .s (bo false), .s (i6 0), .s (SC.nilsl)], TV.agg [.s (i6 m.2.1), .s (bo m.2.2)]] (ofH []) (vc (i6 (AL.Secret.checkS ((0, false, 0, []) : AL.Secret.Sec) m.2))) (ofH [])] 14 [(2, vc (i6 (AL.Secret.checkS ((0, false, 0, []) : AL.Secret.Sec) m.2)))] [] (Spec.weak (args' := [TV.agg [.s (i6 0), .s (bo false), .s (i6 0), .s (SC.sl 3 AL.Secret.RowV (0, false, false) AL.Secret.rowR [])], TV.agg [.s (i6 m.2.1), .s (bo m.2.2)]]) ⟨(TV.le_agg (l := [.s (i6 0), .s (bo false), .s (i6 0), .s (SC.nilsl)]) (m := [.s (i6 (((0, false, 0, []) : AL.Secret.Sec).1)), .s (bo (((0, false, 0, []) : AL.Secret.Sec).2.1)), .s (i6 (((0, false, 0, []) : AL.Secret.Sec).2.2.1)), .s (SC.sl 3 AL.Secret.RowV (0, false, false) AL.Secret.rowR (((0, false, 0, []) : AL.Secret.Sec).2.2.2))]) ⟨AC.le_rfl, AC.le_rfl, AC.le_rfl, AC.le_nil, trivial⟩), TV.le_rfl, trivial⟩ (Secret.Check_c ((0, false, 0, []) : AL.Secret.Sec) m.2)) ?_
  exact gT (vc (i6 (AL.Secret.checkS ((0, false, 0, []) : AL.Secret.Sec) m.2))) (by rw [show checkM m = AL.Secret.checkS ((0, false, 0, []) : AL.Secret.Sec) m.2 from by first | exact check_1 (by assumption) | exact check_s (by assumption) | exact check_2 (by assumption) (by omega) | exact check_3 (by assumption) (by omega)])

theorem f35_body : Tryd.f35.body = some (.seq (.region 0 (rg Tryd.f35 0) false) (.seq (.region 1 (rg Tryd.f35 1) false) (.ret))) := by kernel_rfl

set_option maxRecDepth 100000 in
set_option maxHeartbeats 8000000 in
theorem findC_c (m : MountV) (p : Bytes) : Pure Tryd.prog 35 [TV.agg [.s (st m.1), .s (i6 m.2.1), .s (bo m.2.2)], tc (SC.ref 1 (rl [st p]))] (vc (bo (decide (m.1 = p)))) := by
 refine Pure.of_body Tryd.func35 f35_body (by kernel_rfl) Tryd.ntmps35 (by kernel_rfl) (by kernel_rfl) ?_
 refine gS [] [] 8 [(1, vc (SC.ref 1 (rl [st p]))), (2, vp 2 0)] [(2, AObj.row [.s (st m.1), .s (i6 m.2.1), .s (bo m.2.2)])] trivial ?_
 refine gS [] [] 8 [(3, vc (bo (decide (m.1 = p))))] [] trivial ?_
 exact gT (vc (bo (decide (m.1 = p)))) rfl

theorem f34_body : Tryd.f34.body = some (.seq (.region 0 (rg Tryd.f34 0) false) (.seq (.seq (.region 1 (rg Tryd.f34 1) false) (.block 0 (.loop (.seq (.region 2 (rg Tryd.f34 2) false) (.seq (.cond (.tmp 9) (.skip) (.exit 0)) (.seq (.block 1 (.seq (.region 3 (rg Tryd.f34 3) false) (.seq (.region 4 (rg Tryd.f34 4) false) (.cond (.tmp 16) (.seq (.region 5 (rg Tryd.f34 5) false) (.ret)) (.skip))))) (.region 6 (rg Tryd.f34 6) false))))))) (.seq (.region 7 (rg Tryd.f34 7) false) (.ret)))) := by kernel_rfl

set_option maxRecDepth 100000 in
set_option maxHeartbeats 8000000 in
theorem IndexM_c (f : FuncId) (caps : List Cap) (p : AL.Mount.MountV → Bool) (hf : ∀ x : AL.Mount.MountV, Pure Tryd.prog f ([TV.agg [.s (st x.1), .s (i6 x.2.1), .s (bo x.2.2)]] ++ List.map capT caps) (vc (bo (p x)))) (l : List AL.Mount.MountV) : Pure Tryd.prog 34 [tc (AL.Mount.slM l), TV.c (.fn f caps)] (vc (i6 (Lib.idxS p l))) := by
 refine Pure.of_body Tryd.func34 f34_body (by kernel_rfl) Tryd.ntmps34 (by kernel_rfl) (by kernel_rfl) ?_
 refine AMx.sl 0 (l := l) rfl (fun hl => ?_)
 simp only [maxLen] at hl
 refine gS [] [] 19 [(0, vc (AL.Mount.slM l)), (1, AV.t (TV.c (.fn f caps)))] [] trivial ?_
 refine gQ ?_
 refine gS [] [] 19 [(0, vc (AL.Mount.slM l)), (1, AV.t (TV.c (.fn f caps))), (7, vc (i6 (List.length l : Int))), (8, vc (i6 0))] [] trivial ?_
 refine AMx.block ?_
 refine AMx.ent (s' := AS.lst 19 [(0, vc (AL.Mount.slM l)), (1, AV.t (TV.c (.fn f caps))), (7, vc (i6 (List.length l : Int))), (8, vc (i6 0))] []) (ent_proj [0, 1, 7, 8] []) ?_
 refine AMx.loop (fun mm ss => ∃ (k : Nat), (k ≤ l.length ∧ ∀ x ∈ List.take k l, p x = false) ∧ mm = l.length - k ∧ ss = AS.lst 19 [(0, vc (AL.Mount.slM l)), (1, AV.t (TV.c (.fn f caps))), (7, vc (i6 (List.length l : Int))), (8, vc (i6 (k : Int)))] []) ⟨0, ?_, rfl, ?_⟩ ?_
 · exact ⟨by omega, fun x hx => by simp at hx⟩
 · rfl
 rintro mm ss ⟨k, ⟨hI, hN⟩, rfl, rfl⟩
 refine gS [] [] 19 [(0, vc (AL.Mount.slM l)), (1, AV.t (TV.c (.fn f caps))), (7, vc (i6 (List.length l : Int))), (8, vc (i6 (k : Int))), (9, vc (bo (decide ((k : Int) < (List.length l : Int)))))] [] trivial ?_
 refine gQ ?_
 refine gC ((k : Int) < (List.length l : Int)) (fun hc1 => ?_) fun hc1 => ?_
 ·
  refine AMx.skip ?_
  refine gQ ?_
  refine AMx.block ?_
  refine gS [] [] 19 [(0, vc (AL.Mount.slM l)), (1, AV.t (TV.c (.fn f caps))), (5, vc (i6 (k : Int))), (7, vc (i6 (List.length l : Int))), (8, vc (i6 (k : Int)))] [] trivial ?_
  refine gS [(5, CE.call [] [] (vc (bo (p (List.getD l k AL.Mount.md)))) [])] [(0 : Int) ≤ (k : Int), (k : Int) < List.length l, Spec Tryd.prog f ([TV.agg [.s (st ((List.getD l k AL.Mount.md).1)), .s (i6 (((List.getD l k AL.Mount.md).2).1)), .s (bo (((List.getD l k AL.Mount.md).2).2))]] ++ List.map capT caps) (ofH []) (vc (bo (p (List.getD l k AL.Mount.md)))) (ofH [])] 19 [(0, vc (AL.Mount.slM l)), (1, AV.t (TV.c (.fn f caps))), (5, vc (i6 (k : Int))), (7, vc (i6 (List.length l : Int))), (8, vc (i6 (k : Int))), (16, vc (bo (p (List.getD l k AL.Mount.md))))] [] ⟨(show (0 : Int) ≤ (k : Int) from (by omega)), (show (k : Int) < List.length l from (by omega)), (hf (List.getD l k AL.Mount.md))⟩ ?_
  refine gB (p (List.getD l k AL.Mount.md)) (fun hc2 => ?_) fun hc2 => ?_
  ·
   try simp only [xT, xF] at hc2
   refine gS [] [] 19 [(4, vc (i6 (k : Int)))] [] trivial ?_
   exact gT (vc (i6 (k : Int))) (by rw [Lib.idx_hit AL.Mount.md l k (by omega) hN (by assumption)])
  ·
   try simp only [xT, xF] at hc2
   refine AMx.skip ?_
   refine AMx.blk ?_
   refine gR [] [InR .i64 ((k : Int) + 1)] 19 [(0, vc (AL.Mount.slM l)), (1, AV.t (TV.c (.fn f caps))), (7, vc (i6 (List.length l : Int))), (8, vc (i6 ((k : Int) + 1)))] [] (show InR .i64 ((k : Int) + 1) from (inR64 (by omega) (by omega))) ?_
   refine AMx.ent_inv (s' := AS.lst 19 [(0, vc (AL.Mount.slM l)), (1, AV.t (TV.c (.fn f caps))), (7, vc (i6 (List.length l : Int))), (8, vc (i6 ((k : Int) + 1)))] []) (ent_proj [0, 1, 7, 8] []) ?_
   refine AMx.inv ⟨_, ?_, k + 1, ?_, rfl, ?_⟩
   rotate_left
   · exact ⟨by omega, Lib.all_step AL.Mount.md l k (by omega) hN (by assumption)⟩
   · rfl
   · omega
 ·
  refine AMx.exit ?_
  refine AMx.code_exit ?_
  refine AMx.inv_exit ?_
  refine AMx.blk_exit ?_
  refine gS [] [] 19 [(4, vc (i6 (-1)))] [] trivial ?_
  exact gT (vc (i6 (-1))) (by rw [Lib.idx_none (fun x hx => hN x (by rwa [List.take_of_length_le (by omega)]))])

theorem f20_body : Tryd.f20.body = some (.seq (.region 0 (rg Tryd.f20 0) false) (.seq (.region 1 (rg Tryd.f20 1) false) (.ret))) := by kernel_rfl

set_option maxRecDepth 100000 in
set_option maxHeartbeats 8000000 in
theorem find_c (l : List MountV) (p : Bytes) : Pure Tryd.prog 20 [TV.agg [.s (AL.Mount.slM l)], tc (st p)] (vc (i6 (findM l p))) := by
 refine Pure.of_body Tryd.func20 f20_body (by kernel_rfl) Tryd.ntmps20 (by kernel_rfl) (by kernel_rfl) ?_
 refine gS [(1, CE.shr none)] [] 9 [(2, vp 2 0), (3, vc (SC.ref 1 (rl [st p])))] [(2, AObj.row [.s (AL.Mount.slM l)])] trivial ?_
 refine gS [(3, CE.call [] [] (vc (i6 (Lib.idxS (fun x : AL.Mount.MountV => decide (x.1 = p)) l))) [])] [Spec Tryd.prog 34 [tc (AL.Mount.slM l), TV.c (.fn 35 [.s (SC.ref 1 (rl [st p]))])] (ofH []) (vc (i6 (Lib.idxS (fun x : AL.Mount.MountV => decide (x.1 = p)) l))) (ofH [])] 9 [(4, vc (i6 (Lib.idxS (fun x : AL.Mount.MountV => decide (x.1 = p)) l)))] [] (IndexM_c 35 [.s (SC.ref 1 (rl [st p]))] (fun x : AL.Mount.MountV => decide (x.1 = p)) (fun x => findC_c x p) l) ?_
 exact gT (vc (i6 (Lib.idxS (fun x : AL.Mount.MountV => decide (x.1 = p)) l))) rfl

theorem f14_body : Tryd.f14.body = some (.seq (.region 0 (rg Tryd.f14 0) false) (.seq (.seq (.region 1 (rg Tryd.f14 1) false) (.block 0 (.loop (.seq (.region 2 (rg Tryd.f14 2) false) (.seq (.cond (.tmp 12) (.skip) (.exit 0)) (.seq (.block 1 (.seq (.region 3 (rg Tryd.f14 3) false) (.seq (.region 4 (rg Tryd.f14 4) false) (.cond (.tmp 18) (.seq (.region 5 (rg Tryd.f14 5) false) (.ret)) (.skip))))) (.region 6 (rg Tryd.f14 6) false))))))) (.seq (.region 7 (rg Tryd.f14 7) false) (.ret)))) := by kernel_rfl

set_option maxRecDepth 100000 in
set_option maxHeartbeats 8000000 in
theorem Route_c (l : List MountV) (p : Bytes) : Pure Tryd.prog 14 [TV.agg [.s (AL.Mount.slM l)], tc (st p)] (AV.tup [TV.agg [.s (st (((routeM l p).1).1)), .s (i6 ((((routeM l p).1).2).1)), .s (bo ((((routeM l p).1).2).2))], tc (i6 ((routeM l p).2))]) := by
 refine Pure.of_body Tryd.func14 f14_body (by kernel_rfl) Tryd.ntmps14 (by kernel_rfl) (by kernel_rfl) ?_
 refine AMx.celln 0 0 rfl rfl (fun hl => ?_)
 simp only [maxLen] at hl
 refine gS [] [] 22 [(1, vc (st p)), (2, vp 2 0), (4, vp 4 0)] [(2, AObj.row [.s (AL.Mount.slM l)]), (4, AObj.row [.s (st []), .s (i6 0), .s (bo false)])] trivial ?_
 refine gQ ?_
 refine gS [] [] 22 [(1, vc (st p)), (4, vp 4 0), (9, vc (AL.Mount.slM l)), (10, vc (i6 (List.length l : Int))), (11, vc (i6 0))] [(4, AObj.row [.s (st []), .s (i6 0), .s (bo false)])] trivial ?_
 refine AMx.block ?_
 refine AMx.ent (s' := AS.lst 22 [(1, vc (st p)), (4, vp 4 0), (9, vc (AL.Mount.slM l)), (10, vc (i6 (List.length l : Int))), (11, vc (i6 0))] [(4, AObj.row [.s (st []), .s (i6 0), .s (bo false)])]) (ent_proj [1, 4, 9, 10, 11] [4]) ?_
 refine AMx.loop (fun mm ss => ∃ (i : Nat), (i ≤ l.length ∧ ∀ x ∈ List.take i l, AL.Under.belowS p x.1 = false) ∧ mm = l.length - i ∧ ss = AS.lst 22 [(1, vc (st p)), (4, vp 4 0), (9, vc (AL.Mount.slM l)), (10, vc (i6 (List.length l : Int))), (11, vc (i6 (i : Int)))] [(4, AObj.row [.s (st []), .s (i6 0), .s (bo false)])]) ⟨0, ?_, rfl, ?_⟩ ?_
 · exact ⟨by omega, fun x hx => by simp at hx⟩
 · rfl
 rintro mm ss ⟨i, ⟨hI, hN⟩, rfl, rfl⟩
 refine gS [] [] 22 [(1, vc (st p)), (4, vp 4 0), (9, vc (AL.Mount.slM l)), (10, vc (i6 (List.length l : Int))), (11, vc (i6 (i : Int))), (12, vc (bo (decide ((i : Int) < (List.length l : Int)))))] [(4, AObj.row [.s (st []), .s (i6 0), .s (bo false)])] trivial ?_
 refine gQ ?_
 refine gC ((i : Int) < (List.length l : Int)) (fun hc1 => ?_) fun hc1 => ?_
 ·
  refine AMx.skip ?_
  refine gQ ?_
  refine AMx.block ?_
  refine gS [] [(0 : Int) ≤ (i : Int), (i : Int) < List.length l] 22 [(1, vc (st p)), (4, vp 4 0), (7, vp 7 0), (9, vc (AL.Mount.slM l)), (10, vc (i6 (List.length l : Int))), (11, vc (i6 (i : Int)))] [(4, AObj.row [.s (st []), .s (i6 0), .s (bo false)]), (7, AObj.row [.s (st ((List.getD l i AL.Mount.md).1)), .s (i6 (((List.getD l i AL.Mount.md).2).1)), .s (bo (((List.getD l i AL.Mount.md).2).2))])] ⟨(show (0 : Int) ≤ (i : Int) from (by omega)), (show (i : Int) < List.length l from (by omega))⟩ ?_
  refine gS [(3, CE.call [] [] (vc (bo (AL.Under.belowS p ((List.getD l i AL.Mount.md).1)))) [])] [Spec Tryd.prog 13 [tc (st p), tc (st ((List.getD l i AL.Mount.md).1))] (ofH []) (vc (bo (AL.Under.belowS p ((List.getD l i AL.Mount.md).1)))) (ofH [])] 22 [(1, vc (st p)), (4, vp 4 0), (7, vp 7 0), (9, vc (AL.Mount.slM l)), (10, vc (i6 (List.length l : Int))), (11, vc (i6 (i : Int))), (18, vc (bo (AL.Under.belowS p ((List.getD l i AL.Mount.md).1))))] [(4, AObj.row [.s (st []), .s (i6 0), .s (bo false)]), (7, AObj.row [.s (st ((List.getD l i AL.Mount.md).1)), .s (i6 (((List.getD l i AL.Mount.md).2).1)), .s (bo (((List.getD l i AL.Mount.md).2).2))])] (Under.Below_c p ((List.getD l i AL.Mount.md).1)) ?_
  refine gB (AL.Under.belowS p ((List.getD l i AL.Mount.md).1)) (fun hc2 => ?_) fun hc2 => ?_
  ·
   try simp only [xT, xF] at hc2
   refine gS [] [] 22 [(4, vp 4 0), (5, vc (i6 0))] [(4, AObj.row [.s (st ((List.getD l i AL.Mount.md).1)), .s (i6 (((List.getD l i AL.Mount.md).2).1)), .s (bo (((List.getD l i AL.Mount.md).2).2))])] trivial ?_
   exact gT (AV.tup [TV.agg [.s (st ((List.getD l i AL.Mount.md).1)), .s (i6 (((List.getD l i AL.Mount.md).2).1)), .s (bo (((List.getD l i AL.Mount.md).2).2))], tc (i6 0)]) (by rw [show routeM l p = ((List.getD l i AL.Mount.md), 0) from by first | exact route_hit (by omega) hN (by assumption) | exact route_none (fun m hm => hN m (by rwa [List.take_of_length_le (by omega)]))])
  ·
   try simp only [xT, xF] at hc2
   refine AMx.skip ?_
   refine AMx.blk ?_
   refine gR [] [InR .i64 ((i : Int) + 1)] 22 [(1, vc (st p)), (4, vp 4 0), (9, vc (AL.Mount.slM l)), (10, vc (i6 (List.length l : Int))), (11, vc (i6 ((i : Int) + 1)))] [(4, AObj.row [.s (st []), .s (i6 0), .s (bo false)])] (show InR .i64 ((i : Int) + 1) from (inR64 (by omega) (by omega))) ?_
   refine AMx.ent_inv (s' := AS.lst 22 [(1, vc (st p)), (4, vp 4 0), (9, vc (AL.Mount.slM l)), (10, vc (i6 (List.length l : Int))), (11, vc (i6 ((i : Int) + 1)))] [(4, AObj.row [.s (st []), .s (i6 0), .s (bo false)])]) (ent_proj [1, 4, 9, 10, 11] [4]) ?_
   refine AMx.inv ⟨_, ?_, i + 1, ?_, rfl, ?_⟩
   rotate_left
   · exact ⟨by omega, Lib.all_step (α := MountV) md l i (by omega) hN (by assumption)⟩
   · rfl
   · omega
 ·
  refine AMx.exit ?_
  refine AMx.code_exit ?_
  refine AMx.inv_exit ?_
  refine AMx.blk_exit ?_
  refine gS [] [] 22 [(4, vp 4 0), (5, vc (i6 14))] [(4, AObj.row [.s (st []), .s (i6 0), .s (bo false)])] trivial ?_
  exact gT (AV.tup [TV.agg [.s (st []), .s (i6 0), .s (bo false)], tc (i6 14)]) (by rw [show routeM l p = ((([], ((0, false) : AL.Secret.Rul)) : AL.Mount.MountV), 14) from by first | exact route_hit (by omega) hN (by assumption) | exact route_none (fun m hm => hN m (by rwa [List.take_of_length_le (by omega)]))])

theorem f19_body : Tryd.f19.body = some (.seq (.region 0 (rg Tryd.f19 0) false) (.seq (.region 1 (rg Tryd.f19 1) false) (.seq (.seq (.region 2 (rg Tryd.f19 2) false) (.cond (.tmp 11) (.seq (.region 3 (rg Tryd.f19 3) false) (.ret)) (.skip))) (.seq (.region 4 (rg Tryd.f19 4) false) (.ret))))) := by kernel_rfl

set_option maxRecDepth 100000 in
set_option maxHeartbeats 8000000 in
theorem Find_c (l : List MountV) (p : Bytes) : Pure Tryd.prog 19 [TV.agg [.s (AL.Mount.slM l)], tc (st p)] (AV.tup [TV.agg [.s (st (((findT l p).1).1)), .s (i6 ((((findT l p).1).2).1)), .s (bo ((((findT l p).1).2).2))], tc (i6 ((findT l p).2))]) := by
 refine Pure.of_body Tryd.func19 f19_body (by kernel_rfl) Tryd.ntmps19 (by kernel_rfl) (by kernel_rfl) ?_
 have hf := find_lt l p
 refine gS [] [] 18 [(1, vc (st p)), (2, vp 2 0), (4, vp 4 0)] [(2, AObj.row [.s (AL.Mount.slM l)]), (4, AObj.row [.s (st []), .s (i6 0), .s (bo false)])] trivial ?_
 refine gS [(2, CE.call [] [] (vc (i6 (findM l p))) [])] [Spec Tryd.prog 20 [TV.agg [.s (AL.Mount.slM l)], tc (st p)] (ofH []) (vc (i6 (findM l p))) (ofH [])] 18 [(2, vp 2 0), (4, vp 4 0), (6, vc (i6 (findM l p)))] [(2, AObj.row [.s (AL.Mount.slM l)]), (4, AObj.row [.s (st []), .s (i6 0), .s (bo false)])] (find_c l p) ?_
 refine gQ ?_
 refine gS [] [] 18 [(2, vp 2 0), (4, vp 4 0), (6, vc (i6 (findM l p))), (11, vc (bo (decide (findM l p < 0))))] [(2, AObj.row [.s (AL.Mount.slM l)]), (4, AObj.row [.s (st []), .s (i6 0), .s (bo false)])] trivial ?_
 refine gC (findM l p < 0) (fun hc1 => ?_) fun hc1 => ?_
 ·
  refine gS [] [] 18 [(4, vp 4 0), (5, vc (i6 14))] [(4, AObj.row [.s (st []), .s (i6 0), .s (bo false)])] trivial ?_
  exact gT (AV.tup [TV.agg [.s (st []), .s (i6 0), .s (bo false)], tc (i6 14)]) (by rw [show findT l p = ((([], ((0, false) : AL.Secret.Rul)) : AL.Mount.MountV), 14) from by unfold findT; first | rw [if_pos (by assumption)] | rw [if_neg (by assumption)]])
 ·
  refine AMx.skip ?_
  refine gS [] [(0 : Int) ≤ findM l p, findM l p < List.length l] 18 [(4, vp 4 0), (5, vc (i6 0))] [(4, AObj.row [.s (st ((List.getD l (findM l p).toNat AL.Mount.md).1)), .s (i6 (((List.getD l (findM l p).toNat AL.Mount.md).2).1)), .s (bo (((List.getD l (findM l p).toNat AL.Mount.md).2).2))])] ⟨(show (0 : Int) ≤ findM l p from (by omega)), (show findM l p < List.length l from (by omega))⟩ ?_
  exact gT (AV.tup [TV.agg [.s (st ((List.getD l (findM l p).toNat AL.Mount.md).1)), .s (i6 (((List.getD l (findM l p).toNat AL.Mount.md).2).1)), .s (bo (((List.getD l (findM l p).toNat AL.Mount.md).2).2))], tc (i6 0)]) (by rw [show findT l p = ((List.getD l (findM l p).toNat AL.Mount.md), 0) from by unfold findT; first | rw [if_pos (by assumption)] | rw [if_neg (by assumption)]])

theorem f9_body : Tryd.f9.body = some (.seq (.region 0 (rg Tryd.f9 0) false) (.seq (.region 1 (rg Tryd.f9 1) false) (.ret))) := by kernel_rfl

set_option maxRecDepth 100000 in
set_option maxHeartbeats 8000000 in
theorem Own_c (m : MountV) : Pure Tryd.prog 9 [TV.agg [.s (st m.1), .s (i6 m.2.1), .s (bo m.2.2)]] (AV.t (TV.agg [.s (st m.1), .s (i6 m.2.1), .s (bo m.2.2)])) := by
 refine Pure.of_body Tryd.func9 f9_body (by kernel_rfl) Tryd.ntmps9 (by kernel_rfl) (by kernel_rfl) ?_
 refine gS [] [] 8 [(1, vp 1 0), (2, vp 2 0)] [(1, AObj.row [.s (st m.1), .s (i6 m.2.1), .s (bo m.2.2)]), (2, AObj.row [.s (st []), .s (i6 0), .s (bo false)])] trivial ?_
 refine gS [] [] 8 [(2, vp 2 0)] [(2, AObj.row [.s (st m.1), .s (i6 m.2.1), .s (bo m.2.2)])] trivial ?_
 exact gT (AV.t (TV.agg [.s (st m.1), .s (i6 m.2.1), .s (bo m.2.2)])) rfl

theorem f33_body : Tryd.f33.body = some (.seq (.region 0 (rg Tryd.f33 0) false) (.seq (.seq (.region 1 (rg Tryd.f33 1) false) (.cond (.tmp 10) (.seq (.region 2 (rg Tryd.f33 2) false) (.ret)) (.skip))) (.seq (.seq (.region 3 (rg Tryd.f33 3) false) (.block 0 (.loop (.seq (.region 4 (rg Tryd.f33 4) false) (.seq (.cond (.tmp 14) (.skip) (.exit 0)) (.seq (.block 1 (.seq (.region 5 (rg Tryd.f33 5) false) (.seq (.region 6 (rg Tryd.f33 6) true) (.cond (.tmp 24) (.seq (.region 7 (rg Tryd.f33 7) false) (.ret)) (.skip))))) (.region 8 (rg Tryd.f33 8) false))))))) (.seq (.region 9 (rg Tryd.f33 9) false) (.ret))))) := by kernel_rfl

set_option maxRecDepth 100000 in
set_option maxHeartbeats 8000000 in
theorem EqualM_c (a b : List AL.Mount.MountV) : Pure Tryd.prog 33 [tc (AL.Mount.slM a), tc (AL.Mount.slM b)] (vc (bo (decide (a = b)))) := by
 refine Pure.of_body Tryd.func33 f33_body (by kernel_rfl) Tryd.ntmps33 (by kernel_rfl) (by kernel_rfl) ?_
 refine AMx.sl 0 (l := a) rfl (fun hl => ?_)
 simp only [maxLen] at hl
 refine gS [] [] 26 [(0, vc (AL.Mount.slM a)), (1, vc (AL.Mount.slM b))] [] trivial ?_
 refine gQ ?_
 refine gS [] [] 26 [(0, vc (AL.Mount.slM a)), (1, vc (AL.Mount.slM b)), (10, vc (bo (!decide ((List.length a : Int) = (List.length b : Int)))))] [] trivial ?_
 refine gN ((List.length a : Int) = (List.length b : Int)) (fun hc1 => ?_) fun hc1 => ?_
 ·
  refine gS [] [] 26 [(4, vc (bo false))] [] trivial ?_
  exact gT (vc (bo false)) (by rw [decide_eq_false (fun h => by subst h; simp_all)])
 ·
  refine AMx.skip ?_
  refine gQ ?_
  refine gS [] [] 26 [(0, vc (AL.Mount.slM a)), (1, vc (AL.Mount.slM b)), (12, vc (i6 (List.length a : Int))), (13, vc (i6 0))] [] trivial ?_
  refine AMx.block ?_
  refine AMx.ent (s' := AS.lst 26 [(0, vc (AL.Mount.slM a)), (1, vc (AL.Mount.slM b)), (12, vc (i6 (List.length a : Int))), (13, vc (i6 0))] []) (ent_proj [0, 1, 12, 13] []) ?_
  refine AMx.loop (fun mm ss => ∃ (i : Nat), (i ≤ a.length ∧ List.take i a = List.take i b) ∧ mm = a.length - i ∧ ss = AS.lst 26 [(0, vc (AL.Mount.slM a)), (1, vc (AL.Mount.slM b)), (12, vc (i6 (List.length a : Int))), (13, vc (i6 (i : Int)))] []) ⟨0, ?_, rfl, ?_⟩ ?_
  · exact ⟨by omega, rfl⟩
  · rfl
  rintro mm ss ⟨i, ⟨hI, hE⟩, rfl, rfl⟩
  refine gS [] [] 26 [(0, vc (AL.Mount.slM a)), (1, vc (AL.Mount.slM b)), (12, vc (i6 (List.length a : Int))), (13, vc (i6 (i : Int))), (14, vc (bo (decide ((i : Int) < (List.length a : Int)))))] [] trivial ?_
  refine gQ ?_
  refine gC ((i : Int) < (List.length a : Int)) (fun hc2 => ?_) fun hc2 => ?_
  ·
   refine AMx.skip ?_
   refine gQ ?_
   refine AMx.block ?_
   refine gS [] [] 26 [(0, vc (AL.Mount.slM a)), (1, vc (AL.Mount.slM b)), (5, vc (i6 (i : Int))), (12, vc (i6 (List.length a : Int))), (13, vc (i6 (i : Int)))] [] trivial ?_
   refine gY [] [] [(0 : Int) ≤ (i : Int), (i : Int) < List.length a, (0 : Int) ≤ (i : Int), (i : Int) < List.length b] 26 [(0, vc (AL.Mount.slM a)), (1, vc (AL.Mount.slM b)), (12, vc (i6 (List.length a : Int))), (13, vc (i6 (i : Int))), (24, vc (bo (!(decide ((List.getD a i AL.Mount.md).1 = (List.getD b i AL.Mount.md).1) && ((decide (((List.getD a i AL.Mount.md).2).1 = ((List.getD b i AL.Mount.md).2).1) && (((((List.getD a i AL.Mount.md).2).2) == (((List.getD b i AL.Mount.md).2).2)) && true)) && true)))))] [] mixed ⟨(show (0 : Int) ≤ (i : Int) from (by omega)), (show (i : Int) < List.length a from (by omega)), (show (0 : Int) ≤ (i : Int) from (by omega)), (show (i : Int) < List.length b from (by omega))⟩ ?_
   refine gB (!(decide ((List.getD a i AL.Mount.md).1 = (List.getD b i AL.Mount.md).1) && ((decide (((List.getD a i AL.Mount.md).2).1 = ((List.getD b i AL.Mount.md).2).1) && (((((List.getD a i AL.Mount.md).2).2) == (((List.getD b i AL.Mount.md).2).2)) && true)) && true))) (fun hc3 => ?_) fun hc3 => ?_
   ·
    try simp only [xT, xF, xA, xB, xN, xM] at hc3
    refine gS [] [] 26 [(4, vc (bo false))] [] trivial ?_
    exact gT (vc (bo false)) (by rw [decide_eq_false (fun h => by subst h; simp_all)])
   ·
    try simp only [xT, xF, xA, xB, xN, xM] at hc3
    refine AMx.skip ?_
    refine AMx.blk ?_
    refine gR [] [InR .i64 ((i : Int) + 1)] 26 [(0, vc (AL.Mount.slM a)), (1, vc (AL.Mount.slM b)), (12, vc (i6 (List.length a : Int))), (13, vc (i6 ((i : Int) + 1)))] [] (show InR .i64 ((i : Int) + 1) from (inR64 (by omega) (by omega))) ?_
    refine AMx.ent_inv (s' := AS.lst 26 [(0, vc (AL.Mount.slM a)), (1, vc (AL.Mount.slM b)), (12, vc (i6 (List.length a : Int))), (13, vc (i6 ((i : Int) + 1)))] []) (ent_proj [0, 1, 12, 13] []) ?_
    refine AMx.inv ⟨_, ?_, i + 1, ?_, rfl, ?_⟩
    rotate_left
    · exact ⟨by omega, Lib.same_step AL.Mount.md a b i (by omega) (by omega) hE (by grind)⟩
    · rfl
    · omega
  ·
   refine AMx.exit ?_
   refine AMx.code_exit ?_
   refine AMx.inv_exit ?_
   refine AMx.blk_exit ?_
   refine gS [] [] 26 [(4, vc (bo true))] [] trivial ?_
   exact gT (vc (bo true)) (by rw [decide_eq_true (Lib.same_end a b i (by omega) (by omega) hE)])

theorem f17_body : Tryd.f17.body = some (.seq (.region 0 (rg Tryd.f17 0) false) (.seq (.region 1 (rg Tryd.f17 1) false) (.ret))) := by kernel_rfl

set_option maxRecDepth 100000 in
set_option maxHeartbeats 8000000 in
theorem Same_c (a b : List MountV) : Pure Tryd.prog 17 [TV.agg [.s (AL.Mount.slM a)], TV.agg [.s (AL.Mount.slM b)]] (vc (bo (decide (a = b)))) := by
 refine Pure.of_body Tryd.func17 f17_body (by kernel_rfl) Tryd.ntmps17 (by kernel_rfl) (by kernel_rfl) ?_
 refine gS [] [] 10 [(2, vp 2 0), (3, vp 3 0)] [(2, AObj.row [.s (AL.Mount.slM a)]), (3, AObj.row [.s (AL.Mount.slM b)])] trivial ?_
 refine gS [(4, CE.call [] [] (vc (bo (decide (a = b)))) [])] [Spec Tryd.prog 33 [tc (AL.Mount.slM a), tc (AL.Mount.slM b)] (ofH []) (vc (bo (decide (a = b)))) (ofH [])] 10 [(4, vc (bo (decide (a = b))))] [] (EqualM_c a b) ?_
 exact gT (vc (bo (decide (a = b)))) rfl

theorem f27_body : Tryd.f27.body = some (.seq (.region 0 (rg Tryd.f27 0) false) (.seq (.seq (.region 1 (rg Tryd.f27 1) false) (.cond (.tmp 4) (.seq (.region 2 (rg Tryd.f27 2) false) (.ret)) (.skip))) (.seq (.region 3 (rg Tryd.f27 3) false) (.ret)))) := by kernel_rfl

set_option maxRecDepth 100000 in
set_option maxHeartbeats 8000000 in
theorem CloneM_c (l : List AL.Mount.MountV) (hb : l.length ≤ 100000) : ∀ d, Spec Tryd.prog 27 [tc (AL.Mount.slM l)] H0 (vo d) (ofH [(d, AObj.grow 40 3 AL.Mount.MountV AL.Mount.md AL.Mount.rowM l)]) := by
 refine Own.of_body Tryd.func27 f27_body (by kernel_rfl) Tryd.ntmps27 (by kernel_rfl) rfl ?_
 refine AMx.isnil 0 rfl (fun hnil0 => ?_) ?_
 ·
  refine gS [] [] 8 [(0, vc (SC.nilsl))] [] trivial ?_
  refine gQ ?_
  refine gS [] [] 8 [(0, vc (SC.nilsl)), (4, vc (bo true))] [] trivial ?_
  refine gBt ?_
  refine gS [] [] 8 [(2, vc (SC.nilsl))] [] trivial ?_
  refine AMx.ent (s' := AS.lst 8 [(2, vo 2)] [(2, AObj.grow 40 3 AL.Mount.MountV AL.Mount.md AL.Mount.rowM [])]) (ent_adopt (t := 2) (d := 2) 40 3 AL.Mount.MountV AL.Mount.md AL.Mount.rowM (by kernel_rfl) (by kernel_rfl) (by kernel_rfl) (by kernel_rfl)) ?_
  refine AMx.ret ?_
  exact ⟨.inl rfl, 2, AObj.grow 40 3 AL.Mount.MountV AL.Mount.md AL.Mount.rowM [], by kernel_rfl, by kernel_rfl, by first | rfl | (rw [hnil0])⟩
 ·
  refine gS [] [] 8 [(0, vc (SC.nn (AL.Mount.slM l)))] [] trivial ?_
  refine gQ ?_
  refine gS [] [] 8 [(0, vc (SC.nn (AL.Mount.slM l))), (4, vc (bo false))] [] trivial ?_
  refine gBf ?_
  refine AMx.skip ?_
  refine gQ ?_
  refine AMx.ent (ent_weak 0 (v' := vc (AL.Mount.slM l)) (by kernel_rfl) (AV.le_t (TV.le_c AC.le_nn))) ?_
  refine gR [(0, CE.obj (AObj.grow 40 3 AL.Mount.MountV AL.Mount.md AL.Mount.rowM [])), (2, CE.obj (AObj.grow 40 3 AL.Mount.MountV AL.Mount.md AL.Mount.rowM ([] ++ l)))] [flat 3 AL.Mount.rowM [] = [], List.length ([] : List AL.Mount.MountV) = 0, AppC (flat 3 AL.Mount.rowM l) (List.length l) 32 (AObj.grow 40 3 AL.Mount.MountV AL.Mount.md AL.Mount.rowM []) (AObj.grow 40 3 AL.Mount.MountV AL.Mount.md AL.Mount.rowM ([] ++ l))] 8 [(2, vo 7)] [(7, AObj.grow 40 3 AL.Mount.MountV AL.Mount.md AL.Mount.rowM ([] ++ l))] ⟨rfl, rfl, (⟨_, rfl, rfl, rfl, by simp only [List.length_nil]; omega, by simp only [maxLen, List.length_nil]; omega⟩)⟩ ?_
  refine AMx.ret ?_
  exact ⟨.inl rfl, 7, AObj.grow 40 3 AL.Mount.MountV AL.Mount.md AL.Mount.rowM ([] ++ l), by kernel_rfl, by kernel_rfl, by first | rfl | (rw [hnil0])⟩

theorem f10_body : Tryd.f10.body = some (.seq (.region 0 (rg Tryd.f10 0) false) (.seq (.region 1 (rg Tryd.f10 1) false) (.ret))) := by kernel_rfl

set_option maxRecDepth 100000 in
set_option maxHeartbeats 8000000 in
theorem List_c (l : List MountV) (hl : l.length ≤ 1000) : Pure Tryd.prog 10 [TV.agg [.s (AL.Mount.slM l)]] (vc (AL.Mount.slM l)) := by
 refine Pure.of_body Tryd.func10 f10_body (by kernel_rfl) Tryd.ntmps10 (by kernel_rfl) (by kernel_rfl) ?_
 refine gS [] [] 6 [(1, vp 1 0)] [(1, AObj.row [.s (AL.Mount.slM l)])] trivial ?_
 refine gS [(2, CE.call [] [] (vo 5) [(5, AObj.grow 40 3 AL.Mount.MountV AL.Mount.md AL.Mount.rowM l)])] [Spec Tryd.prog 27 [tc (AL.Mount.slM l)] (ofH []) (vo 5) (ofH [(5, AObj.grow 40 3 AL.Mount.MountV AL.Mount.md AL.Mount.rowM l)])] 6 [(2, vo 5)] [(5, AObj.grow 40 3 AL.Mount.MountV AL.Mount.md AL.Mount.rowM l)] (CloneM_c l (by first | omega | (simp only [List.length_drop, List.length_take, List.length_append, List.length_cons, List.length_nil]; omega) | (omega)) 5) ?_
 refine AMx.ent (s' := AS.lst 6 [(2, vc (AL.Mount.slM l))] []) (ent_freeze (id := 5) (T := 40) (by kernel_rfl)) ?_
 exact gT (vc (AL.Mount.slM l)) rfl

end AL.Mount
