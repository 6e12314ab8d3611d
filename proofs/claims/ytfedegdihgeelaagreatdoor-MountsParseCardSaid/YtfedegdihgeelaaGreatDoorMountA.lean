/- mounts: the contracts of its functions, by their walks. No condition. -/
import Derived.Test.YtfedegdihgeelaaGreatDoorMountE
import Derived.Test.YtfedegdihgeelaaGreatDoorQuillA
import Derived.Test.YtfedegdihgeelaaGreatDoorRouteF
import Derived.Test.YtfedegdihgeelaaGreatDoorSecretA
import Derived.Test.YtfedegdihgeelaaGreatDoorUnderB
namespace AL.Mount
open Go Go.Proofs AL
open AL.Quill (rowQ numQ rowB)
set_option linter.unusedVariables false
set_option linter.unusedSimpArgs false

theorem f7_body : Tryz.f7.body = some (.seq (.region 0 (rg Tryz.f7 0) false) (.seq (.seq (.region 1 (rg Tryz.f7 1) false) (.seq (.region 2 (rg Tryz.f7 2) false) (.cond (.tmp 8) (.seq (.region 3 (rg Tryz.f7 3) false) (.ret)) (.skip)))) (.seq (.region 4 (rg Tryz.f7 4) false) (.ret)))) := by kernel_rfl

set_option maxRecDepth 100000 in
set_option maxHeartbeats 8000000 in
theorem Check_c (m : MountV) : Pure Tryz.prog 7 [TV.agg [.s (st m.1), .s (i6 m.2.1), .s (bo m.2.2)]] (vc (i6 (checkM m))) := by
 refine Pure.of_body Tryz.func7 f7_body (by kernel_rfl) Tryz.ntmps7 (by kernel_rfl) (by kernel_rfl) ?_
 refine gS [] [] 14 [(1, vp 1 0)] [(1, AObj.row [.s (st m.1), .s (i6 m.2.1), .s (bo m.2.2)])] trivial ?_
 refine gQ ?_
 refine gS [(2, CE.call [] [] (vc (i6 (AL.Route.checkS m.1))) [])] [Spec Tryz.prog 26 [tc (st m.1)] (ofH []) (vc (i6 (AL.Route.checkS m.1))) (ofH [])] 14 [(1, vp 1 0), (3, vc (i6 (AL.Route.checkS m.1)))] [(1, AObj.row [.s (st m.1), .s (i6 m.2.1), .s (bo m.2.2)])] (Route.Check_c m.1) ?_
 refine gS [] [] 14 [(1, vp 1 0), (3, vc (i6 (AL.Route.checkS m.1))), (8, vc (bo (!decide (AL.Route.checkS m.1 = 0))))] [(1, AObj.row [.s (st m.1), .s (i6 m.2.1), .s (bo m.2.2)])] trivial ?_
 refine gN (AL.Route.checkS m.1 = 0) (fun hc1 => ?_) fun hc1 => ?_
 ·
  refine gS [] [] 14 [(2, vc (i6 (AL.Route.checkS m.1)))] [] trivial ?_
  exact gT (vc (i6 (AL.Route.checkS m.1))) (by rw [show checkM m = AL.Route.checkS m.1 from by first | exact check_1 (by assumption) | exact check_s (by assumption) | exact check_2 (by assumption) (by omega) | exact check_3 (by assumption) (by omega)])
 ·
  refine AMx.skip ?_
  refine gS [(3, CE.call [] [] (vc (i6 (AL.Secret.checkS ((0, false, 0, []) : AL.Secret.Sec) m.2))) [])] [Spec Tryz.prog 27 [TV.agg [.s (i6 0), .s (bo false), .s (i6 0), .s (SC.nilsl)], TV.agg [.s (i6 m.2.1), .s (bo m.2.2)]] (ofH []) (vc (i6 (AL.Secret.checkS ((0, false, 0, []) : AL.Secret.Sec) m.2))) (ofH [])] 14 [(2, vc (i6 (AL.Secret.checkS ((0, false, 0, []) : AL.Secret.Sec) m.2)))] [] (Spec.weak (args' := [TV.agg [.s (i6 0), .s (bo false), .s (i6 0), .s (SC.sl 3 AL.Secret.RowV (0, false, false) AL.Secret.rowR [])], TV.agg [.s (i6 m.2.1), .s (bo m.2.2)]]) ⟨(TV.le_agg (l := [.s (i6 0), .s (bo false), .s (i6 0), .s (SC.nilsl)]) (m := [.s (i6 (((0, false, 0, []) : AL.Secret.Sec).1)), .s (bo (((0, false, 0, []) : AL.Secret.Sec).2.1)), .s (i6 (((0, false, 0, []) : AL.Secret.Sec).2.2.1)), .s (SC.sl 3 AL.Secret.RowV (0, false, false) AL.Secret.rowR (((0, false, 0, []) : AL.Secret.Sec).2.2.2))]) ⟨AC.le_rfl, AC.le_rfl, AC.le_rfl, AC.le_nil, trivial⟩), TV.le_rfl, trivial⟩ (Secret.Check_c ((0, false, 0, []) : AL.Secret.Sec) m.2)) ?_
  exact gT (vc (i6 (AL.Secret.checkS ((0, false, 0, []) : AL.Secret.Sec) m.2))) (by rw [show checkM m = AL.Secret.checkS ((0, false, 0, []) : AL.Secret.Sec) m.2 from by first | exact check_1 (by assumption) | exact check_s (by assumption) | exact check_2 (by assumption) (by omega) | exact check_3 (by assumption) (by omega)])

theorem f9_body : Tryz.f9.body = some (.seq (.region 0 (rg Tryz.f9 0) false) (.seq (.region 1 (rg Tryz.f9 1) false) (.seq (.seq (.region 2 (rg Tryz.f9 2) false) (.cond (.tmp 8) (.seq (.region 3 (rg Tryz.f9 3) false) (.ret)) (.skip))) (.seq (.seq (.region 4 (rg Tryz.f9 4) false) (.cond (.tmp 19) (.seq (.region 5 (rg Tryz.f9 5) false) (.ret)) (.skip))) (.seq (.region 6 (rg Tryz.f9 6) false) (.ret)))))) := by kernel_rfl

set_option maxRecDepth 100000 in
set_option maxHeartbeats 8000000 in
theorem RCheck_c (m : MountV) : Pure Tryz.prog 9 [TV.agg [.s (st m.1), .s (i6 m.2.1), .s (bo m.2.2)]] (vc (i6 (checkM m))) := by
 refine Pure.of_body Tryz.func9 f9_body (by kernel_rfl) Tryz.ntmps9 (by kernel_rfl) (by kernel_rfl) ?_
 refine gS [] [] 20 [(1, vp 1 0)] [(1, AObj.row [.s (st m.1), .s (i6 m.2.1), .s (bo m.2.2)])] trivial ?_
 refine gS [(2, CE.call [] [] (vc (i6 (AL.Route.checkS m.1))) [])] [Spec Tryz.prog 28 [tc (st m.1)] (ofH []) (vc (i6 (AL.Route.checkS m.1))) (ofH [])] 20 [(1, vp 1 0), (3, vc (i6 (AL.Route.checkS m.1)))] [(1, AObj.row [.s (st m.1), .s (i6 m.2.1), .s (bo m.2.2)])] (Route.RCheck_c m.1) ?_
 refine gQ ?_
 refine gS [] [] 20 [(1, vp 1 0), (3, vc (i6 (AL.Route.checkS m.1))), (8, vc (bo (!decide (AL.Route.checkS m.1 = 0))))] [(1, AObj.row [.s (st m.1), .s (i6 m.2.1), .s (bo m.2.2)])] trivial ?_
 refine gN (AL.Route.checkS m.1 = 0) (fun hc1 => ?_) fun hc1 => ?_
 ·
  refine gS [] [] 20 [(2, vc (i6 (AL.Route.checkS m.1)))] [] trivial ?_
  exact gT (vc (i6 (AL.Route.checkS m.1))) (by rw [show checkM m = AL.Route.checkS m.1 from by first | exact check_1 (by assumption) | exact check_s (by assumption) | exact check_2 (by assumption) (by omega) | exact check_3 (by assumption) (by omega)])
 ·
  refine AMx.skip ?_
  refine gQ ?_
  refine gS [] [((decide (m.2.1 < 1)) = false) → allP [], ((decide (m.2.1 < 1)) = false) → allP [(decide (m.2.1 < 1)) = false], ((decide (m.2.1 < 1)) = false) → allP [(decide (m.2.1 < 1)) = false], ((decide (m.2.1 < 1)) = false) → allP [(decide (m.2.1 < 1)) = false], (decide (m.2.1 < 1)) = false → allP [(decide (m.2.1 < 1)) = false]] 20 [(19, vc (bo ((decide (m.2.1 < 1)) || (decide (6 < m.2.1)))))] [] ⟨(fun _ => trivial), (fun hp => hp), (fun hp => hp), (fun hp => hp), (fun hp2 => (by first | exact hp2 | exact ⟨hp, hp2⟩))⟩ ?_
  refine gB (((decide (m.2.1 < 1)) || (decide (6 < m.2.1)))) (fun hc2 => ?_) fun hc2 => ?_
  ·
   try simp only [xT, xF, xO, xP] at hc2
   refine gS [] [] 20 [(2, vc (i6 2))] [] trivial ?_
   exact gT (vc (i6 2)) (by rw [show checkM m = 2 from by first | exact check_1 (by assumption) | exact check_s (by assumption) | exact check_2 (by assumption) (by omega) | exact check_3 (by assumption) (by omega)])
  ·
   try simp only [xT, xF, xO, xP] at hc2
   refine AMx.skip ?_
   refine gS [] [] 20 [(2, vc (i6 0))] [] trivial ?_
   exact gT (vc (i6 0)) (by rw [show checkM m = 0 from by first | exact check_1 (by assumption) | exact check_s (by assumption) | exact check_2 (by assumption) (by omega) | exact check_3 (by assumption) (by omega)])

theorem f54_body : Tryz.f54.body = some (.seq (.region 0 (rg Tryz.f54 0) false) (.seq (.region 1 (rg Tryz.f54 1) false) (.ret))) := by kernel_rfl

set_option maxRecDepth 100000 in
set_option maxHeartbeats 8000000 in
theorem findC_c (m : MountV) (p : Bytes) : Pure Tryz.prog 54 [TV.agg [.s (st m.1), .s (i6 m.2.1), .s (bo m.2.2)], tc (SC.ref 1 (rl [st p]))] (vc (bo (decide (m.1 = p)))) := by
 refine Pure.of_body Tryz.func54 f54_body (by kernel_rfl) Tryz.ntmps54 (by kernel_rfl) (by kernel_rfl) ?_
 refine gS [] [] 8 [(1, vc (SC.ref 1 (rl [st p]))), (2, vp 2 0)] [(2, AObj.row [.s (st m.1), .s (i6 m.2.1), .s (bo m.2.2)])] trivial ?_
 refine gS [] [] 8 [(3, vc (bo (decide (m.1 = p))))] [] trivial ?_
 exact gT (vc (bo (decide (m.1 = p)))) rfl

theorem f53_body : Tryz.f53.body = some (.seq (.region 0 (rg Tryz.f53 0) false) (.seq (.seq (.region 1 (rg Tryz.f53 1) false) (.block 0 (.loop (.seq (.region 2 (rg Tryz.f53 2) false) (.seq (.cond (.tmp 9) (.skip) (.exit 0)) (.seq (.block 1 (.seq (.region 3 (rg Tryz.f53 3) false) (.seq (.region 4 (rg Tryz.f53 4) false) (.cond (.tmp 16) (.seq (.region 5 (rg Tryz.f53 5) false) (.ret)) (.skip))))) (.region 6 (rg Tryz.f53 6) false))))))) (.seq (.region 7 (rg Tryz.f53 7) false) (.ret)))) := by kernel_rfl

set_option maxRecDepth 100000 in
set_option maxHeartbeats 8000000 in
theorem IndexM_c (f : FuncId) (caps : List Cap) (p : AL.Mount.MountV → Bool) (hf : ∀ x : AL.Mount.MountV, Pure Tryz.prog f ([TV.agg [.s (st x.1), .s (i6 x.2.1), .s (bo x.2.2)]] ++ List.map capT caps) (vc (bo (p x)))) (l : List AL.Mount.MountV) : Pure Tryz.prog 53 [tc (AL.Mount.slM l), TV.c (.fn f caps)] (vc (i6 (Lib.idxS p l))) := by
 refine Pure.of_body Tryz.func53 f53_body (by kernel_rfl) Tryz.ntmps53 (by kernel_rfl) (by kernel_rfl) ?_
 refine AMx.sl 0 (l := l) rfl (fun hl => ?_)
 simp only [maxLen] at hl
 refine gS [] [] 19 [(0, vc (AL.Mount.slM l)), (1, AV.t (TV.c (.fn f caps)))] [] trivial ?_
 refine gQ ?_
 refine gS [] [] 19 [(0, vc (AL.Mount.slM l)), (1, AV.t (TV.c (.fn f caps))), (7, vc (i6 (List.length l : Int))), (8, vc (i6 0))] [] trivial ?_
 refine AMx.block ?_
 refine AMx.ent (s' := AS.lst 19 [(0, vc (AL.Mount.slM l)), (1, AV.t (TV.c (.fn f caps))), (7, vc (i6 (List.length l : Int))), (8, vc (i6 0))] []) (ent_proj [0, 1, 7, 8] []) ?_
 refine AMx.loop (fun mm ss => ∃ (k : Nat), (k ≤ l.length ∧ ∀ x ∈ List.take k l, p x = false) ∧ mm = l.length - k ∧ ss = AS.lst 19 [(0, vc (AL.Mount.slM l)), (1, AV.t (TV.c (.fn f caps))), (7, vc (i6 (List.length l : Int))), (8, vc (i6 (k : Int)))] []) ⟨0, ?_, rfl, ?_⟩ ?_
 · exact ⟨by omega, fun x hx => by simp at hx⟩
 · rfl
 rintro mm ss ⟨k, ⟨hI, hN⟩, rfl, rfl⟩
 refine gS [] [] 19 [(0, vc (AL.Mount.slM l)), (1, AV.t (TV.c (.fn f caps))), (7, vc (i6 (List.length l : Int))), (8, vc (i6 (k : Int))), (9, vc (bo (decide ((k : Int) < (List.length l : Int)))))] [] trivial ?_
 refine gQ ?_
 refine gC ((k : Int) < (List.length l : Int)) (fun hc1 => ?_) fun hc1 => ?_
 ·
  refine AMx.skip ?_
  refine gQ ?_
  refine AMx.block ?_
  refine gS [] [] 19 [(0, vc (AL.Mount.slM l)), (1, AV.t (TV.c (.fn f caps))), (5, vc (i6 (k : Int))), (7, vc (i6 (List.length l : Int))), (8, vc (i6 (k : Int)))] [] trivial ?_
  refine gS [(5, CE.call [] [] (vc (bo (p (List.getD l k AL.Mount.md)))) [])] [(0 : Int) ≤ (k : Int), (k : Int) < List.length l, Spec Tryz.prog f ([TV.agg [.s (st ((List.getD l k AL.Mount.md).1)), .s (i6 (((List.getD l k AL.Mount.md).2).1)), .s (bo (((List.getD l k AL.Mount.md).2).2))]] ++ List.map capT caps) (ofH []) (vc (bo (p (List.getD l k AL.Mount.md)))) (ofH [])] 19 [(0, vc (AL.Mount.slM l)), (1, AV.t (TV.c (.fn f caps))), (5, vc (i6 (k : Int))), (7, vc (i6 (List.length l : Int))), (8, vc (i6 (k : Int))), (16, vc (bo (p (List.getD l k AL.Mount.md))))] [] ⟨(show (0 : Int) ≤ (k : Int) from (by omega)), (show (k : Int) < List.length l from (by omega)), (hf (List.getD l k AL.Mount.md))⟩ ?_
  refine gB (p (List.getD l k AL.Mount.md)) (fun hc2 => ?_) fun hc2 => ?_
  ·
   try simp only [xT, xF] at hc2
   refine gS [] [] 19 [(4, vc (i6 (k : Int)))] [] trivial ?_
   exact gT (vc (i6 (k : Int))) (by rw [Lib.idx_hit AL.Mount.md l k (by omega) hN (by assumption)])
  ·
   try simp only [xT, xF] at hc2
   refine AMx.skip ?_
   refine AMx.blk ?_
   refine gR [] [InR .i64 ((k : Int) + 1)] 19 [(0, vc (AL.Mount.slM l)), (1, AV.t (TV.c (.fn f caps))), (7, vc (i6 (List.length l : Int))), (8, vc (i6 ((k : Int) + 1)))] [] (show InR .i64 ((k : Int) + 1) from (inR64 (by omega) (by omega))) ?_
   refine AMx.ent_inv (s' := AS.lst 19 [(0, vc (AL.Mount.slM l)), (1, AV.t (TV.c (.fn f caps))), (7, vc (i6 (List.length l : Int))), (8, vc (i6 ((k : Int) + 1)))] []) (ent_proj [0, 1, 7, 8] []) ?_
   refine AMx.inv ⟨_, ?_, k + 1, ?_, rfl, ?_⟩
   rotate_left
   · exact ⟨by omega, Lib.all_step AL.Mount.md l k (by omega) hN (by assumption)⟩
   · rfl
   · omega
 ·
  refine AMx.exit ?_
  refine AMx.code_exit ?_
  refine AMx.inv_exit ?_
  refine AMx.blk_exit ?_
  refine gS [] [] 19 [(4, vc (i6 (-1)))] [] trivial ?_
  exact gT (vc (i6 (-1))) (by rw [Lib.idx_none (fun x hx => hN x (by rwa [List.take_of_length_le (by omega)]))])

theorem f29_body : Tryz.f29.body = some (.seq (.region 0 (rg Tryz.f29 0) false) (.seq (.region 1 (rg Tryz.f29 1) false) (.ret))) := by kernel_rfl

set_option maxRecDepth 100000 in
set_option maxHeartbeats 8000000 in
theorem find_c (l : List MountV) (p : Bytes) : Pure Tryz.prog 29 [TV.agg [.s (AL.Mount.slM l)], tc (st p)] (vc (i6 (findM l p))) := by
 refine Pure.of_body Tryz.func29 f29_body (by kernel_rfl) Tryz.ntmps29 (by kernel_rfl) (by kernel_rfl) ?_
 refine gS [(1, CE.shr none)] [] 9 [(2, vp 2 0), (3, vc (SC.ref 1 (rl [st p])))] [(2, AObj.row [.s (AL.Mount.slM l)])] trivial ?_
 refine gS [(3, CE.call [] [] (vc (i6 (Lib.idxS (fun x : AL.Mount.MountV => decide (x.1 = p)) l))) [])] [Spec Tryz.prog 53 [tc (AL.Mount.slM l), TV.c (.fn 54 [.s (SC.ref 1 (rl [st p]))])] (ofH []) (vc (i6 (Lib.idxS (fun x : AL.Mount.MountV => decide (x.1 = p)) l))) (ofH [])] 9 [(4, vc (i6 (Lib.idxS (fun x : AL.Mount.MountV => decide (x.1 = p)) l)))] [] (IndexM_c 54 [.s (SC.ref 1 (rl [st p]))] (fun x : AL.Mount.MountV => decide (x.1 = p)) (fun x => findC_c x p) l) ?_
 exact gT (vc (i6 (Lib.idxS (fun x : AL.Mount.MountV => decide (x.1 = p)) l))) rfl

theorem f18_body : Tryz.f18.body = some (.seq (.region 0 (rg Tryz.f18 0) false) (.seq (.seq (.region 1 (rg Tryz.f18 1) false) (.block 0 (.loop (.seq (.seq (.region 2 (rg Tryz.f18 2) false) (.cond (.tmp 9) (.skip) (.exit 0))) (.seq (.block 1 (.seq (.region 4 (rg Tryz.f18 4) false) (.cond (.tmp 18) (.seq (.region 5 (rg Tryz.f18 5) false) (.ret)) (.skip)))) (.region 3 (rg Tryz.f18 3) false)))))) (.seq (.region 6 (rg Tryz.f18 6) false) (.ret)))) := by kernel_rfl

set_option maxRecDepth 100000 in
set_option maxHeartbeats 8000000 in
theorem RFind_c (l : List MountV) (p : Bytes) : Pure Tryz.prog 18 [tc (AL.Mount.slM l), tc (st p)] (vc (i6 (findM l p))) := by
 refine Pure.of_body Tryz.func18 f18_body (by kernel_rfl) Tryz.ntmps18 (by kernel_rfl) (by kernel_rfl) ?_
 refine AMx.sl 0 (l := l) rfl (fun hl => ?_)
 simp only [maxLen] at hl
 refine gS [] [] 20 [(0, vc (AL.Mount.slM l)), (1, vc (st p))] [] trivial ?_
 refine gQ ?_
 refine gS [] [] 20 [(0, vc (AL.Mount.slM l)), (1, vc (st p)), (5, vc (i6 0))] [] trivial ?_
 refine AMx.block ?_
 refine AMx.ent (s' := AS.lst 20 [(0, vc (AL.Mount.slM l)), (1, vc (st p)), (5, vc (i6 0))] []) (ent_proj [0, 1, 5] []) ?_
 refine AMx.loop (fun mm ss => ∃ (i : Nat), (i ≤ l.length ∧ ∀ x ∈ List.take i l, decide (x.1 = p) = false) ∧ mm = l.length - i ∧ ss = AS.lst 20 [(0, vc (AL.Mount.slM l)), (1, vc (st p)), (5, vc (i6 (i : Int)))] []) ⟨0, ?_, rfl, ?_⟩ ?_
 · exact ⟨by omega, fun x hx => by simp at hx⟩
 · rfl
 rintro mm ss ⟨i, ⟨hI, hN⟩, rfl, rfl⟩
 refine gQ ?_
 refine gS [] [] 20 [(0, vc (AL.Mount.slM l)), (1, vc (st p)), (5, vc (i6 (i : Int))), (9, vc (bo (decide ((i : Int) < (List.length l : Int)))))] [] trivial ?_
 refine gC ((i : Int) < (List.length l : Int)) (fun hc1 => ?_) fun hc1 => ?_
 ·
  refine AMx.skip ?_
  refine gQ ?_
  refine AMx.block ?_
  refine gS [] [(0 : Int) ≤ (i : Int), (i : Int) < List.length l] 20 [(0, vc (AL.Mount.slM l)), (1, vc (st p)), (5, vc (i6 (i : Int))), (18, vc (bo (decide ((List.getD l i AL.Mount.md).1 = p))))] [] ⟨(show (0 : Int) ≤ (i : Int) from (by omega)), (show (i : Int) < List.length l from (by omega))⟩ ?_
  refine gC ((List.getD l i AL.Mount.md).1 = p) (fun hc2 => ?_) fun hc2 => ?_
  ·
   refine gS [] [] 20 [(4, vc (i6 (i : Int)))] [] trivial ?_
   exact gT (vc (i6 (i : Int))) (by rw [show findM l p = (i : Int) from by first | exact find_none (fun m hm => of_decide_eq_false (hN m (by rwa [List.take_of_length_le (by omega)]))) | exact Lib.idx_hit md l i (by omega) hN (decide_eq_true (by assumption))])
  ·
   refine AMx.skip ?_
   refine AMx.blk ?_
   refine gR [] [InR .i64 ((i : Int) + 1)] 20 [(0, vc (AL.Mount.slM l)), (1, vc (st p)), (5, vc (i6 ((i : Int) + 1)))] [] (show InR .i64 ((i : Int) + 1) from (inR64 (by omega) (by omega))) ?_
   refine AMx.ent_inv (s' := AS.lst 20 [(0, vc (AL.Mount.slM l)), (1, vc (st p)), (5, vc (i6 ((i : Int) + 1)))] []) (ent_proj [0, 1, 5] []) ?_
   refine AMx.inv ⟨_, ?_, i + 1, ?_, rfl, ?_⟩
   rotate_left
   · exact ⟨by omega, Lib.all_step (α := MountV) md l i (by omega) hN (by first | exact decide_eq_false (by assumption) | assumption)⟩
   · rfl
   · omega
 ·
  refine AMx.exit ?_
  refine AMx.code_exit ?_
  refine AMx.inv_exit ?_
  refine AMx.blk_exit ?_
  refine gS [] [] 20 [(4, vc (i6 (-1)))] [] trivial ?_
  exact gT (vc (i6 (-1))) (by rw [show findM l p = (-1) from by first | exact find_none (fun m hm => of_decide_eq_false (hN m (by rwa [List.take_of_length_le (by omega)]))) | exact Lib.idx_hit md l i (by omega) hN (decide_eq_true (by assumption))])

theorem f17_body : Tryz.f17.body = some (.seq (.region 0 (rg Tryz.f17 0) false) (.seq (.seq (.region 1 (rg Tryz.f17 1) false) (.block 0 (.loop (.seq (.seq (.region 2 (rg Tryz.f17 2) false) (.cond (.tmp 9) (.skip) (.exit 0))) (.seq (.block 1 (.seq (.region 4 (rg Tryz.f17 4) false) (.cond (.tmp 18) (.seq (.region 5 (rg Tryz.f17 5) false) (.ret)) (.skip)))) (.region 3 (rg Tryz.f17 3) false)))))) (.seq (.region 6 (rg Tryz.f17 6) false) (.ret)))) := by kernel_rfl

set_option maxRecDepth 100000 in
set_option maxHeartbeats 8000000 in
theorem RRoute_c (l : List MountV) (p : Bytes) (hp : p.length ≤ 100000) (hm : ∀ m ∈ l, m.1.length ≤ 100000) : Pure Tryz.prog 17 [tc (AL.Mount.slM l), tc (st p)] (vc (i6 (placeM l p))) := by
 refine Pure.of_body Tryz.func17 f17_body (by kernel_rfl) Tryz.ntmps17 (by kernel_rfl) (by kernel_rfl) ?_
 refine AMx.sl 0 (l := l) rfl (fun hl => ?_)
 simp only [maxLen] at hl
 refine gS [] [] 20 [(0, vc (AL.Mount.slM l)), (1, vc (st p))] [] trivial ?_
 refine gQ ?_
 refine gS [] [] 20 [(0, vc (AL.Mount.slM l)), (1, vc (st p)), (5, vc (i6 0))] [] trivial ?_
 refine AMx.block ?_
 refine AMx.ent (s' := AS.lst 20 [(0, vc (AL.Mount.slM l)), (1, vc (st p)), (5, vc (i6 0))] []) (ent_proj [0, 1, 5] []) ?_
 refine AMx.loop (fun mm ss => ∃ (i : Nat), (i ≤ l.length ∧ ∀ x ∈ List.take i l, AL.Under.belowS p x.1 = false) ∧ mm = l.length - i ∧ ss = AS.lst 20 [(0, vc (AL.Mount.slM l)), (1, vc (st p)), (5, vc (i6 (i : Int)))] []) ⟨0, ?_, rfl, ?_⟩ ?_
 · exact ⟨by omega, fun x hx => by simp at hx⟩
 · rfl
 rintro mm ss ⟨i, ⟨hI, hN⟩, rfl, rfl⟩
 refine gQ ?_
 refine gS [] [] 20 [(0, vc (AL.Mount.slM l)), (1, vc (st p)), (5, vc (i6 (i : Int))), (9, vc (bo (decide ((i : Int) < (List.length l : Int)))))] [] trivial ?_
 refine gC ((i : Int) < (List.length l : Int)) (fun hc1 => ?_) fun hc1 => ?_
 ·
  refine AMx.skip ?_
  refine gQ ?_
  refine AMx.block ?_
  refine gS [(6, CE.call [] [] (vc (bo (AL.Under.belowS p ((List.getD l i AL.Mount.md).1)))) [])] [(0 : Int) ≤ (i : Int), (i : Int) < List.length l, Spec Tryz.prog 39 [tc (st p), tc (st ((List.getD l i AL.Mount.md).1))] (ofH []) (vc (bo (AL.Under.belowS p ((List.getD l i AL.Mount.md).1)))) (ofH [])] 20 [(0, vc (AL.Mount.slM l)), (1, vc (st p)), (5, vc (i6 (i : Int))), (18, vc (bo (AL.Under.belowS p ((List.getD l i AL.Mount.md).1))))] [] ⟨(show (0 : Int) ≤ (i : Int) from (by first | omega | exact hm _ (Lib.getD_mem md l i (by omega)) | (have z := hm _ (Lib.getD_mem md l i (by omega)); omega))), (show (i : Int) < List.length l from (by first | omega | exact hm _ (Lib.getD_mem md l i (by omega)) | (have z := hm _ (Lib.getD_mem md l i (by omega)); omega))), (Under.RBelow_c p ((List.getD l i AL.Mount.md).1) (by first | omega | exact hm _ (Lib.getD_mem md l i (by omega)) | (have z := hm _ (Lib.getD_mem md l i (by omega)); omega)))⟩ ?_
  refine gB (AL.Under.belowS p ((List.getD l i AL.Mount.md).1)) (fun hc2 => ?_) fun hc2 => ?_
  ·
   try simp only [xT, xF] at hc2
   refine gS [] [] 20 [(4, vc (i6 (i : Int)))] [] trivial ?_
   exact gT (vc (i6 (i : Int))) (by rw [show placeM l p = (i : Int) from by first | exact place_none (fun m hm => hN m (by rwa [List.take_of_length_le (by omega)])) | exact place_hit (by omega) hN (by assumption)])
  ·
   try simp only [xT, xF] at hc2
   refine AMx.skip ?_
   refine AMx.blk ?_
   refine gR [] [InR .i64 ((i : Int) + 1)] 20 [(0, vc (AL.Mount.slM l)), (1, vc (st p)), (5, vc (i6 ((i : Int) + 1)))] [] (show InR .i64 ((i : Int) + 1) from (inR64 (by first | omega | exact hm _ (Lib.getD_mem md l i (by omega)) | (have z := hm _ (Lib.getD_mem md l i (by omega)); omega)) (by first | omega | exact hm _ (Lib.getD_mem md l i (by omega)) | (have z := hm _ (Lib.getD_mem md l i (by omega)); omega)))) ?_
   refine AMx.ent_inv (s' := AS.lst 20 [(0, vc (AL.Mount.slM l)), (1, vc (st p)), (5, vc (i6 ((i : Int) + 1)))] []) (ent_proj [0, 1, 5] []) ?_
   refine AMx.inv ⟨_, ?_, i + 1, ?_, rfl, ?_⟩
   rotate_left
   · exact ⟨by omega, Lib.all_step (α := MountV) md l i (by omega) hN (by first | exact decide_eq_false (by assumption) | assumption)⟩
   · rfl
   · omega
 ·
  refine AMx.exit ?_
  refine AMx.code_exit ?_
  refine AMx.inv_exit ?_
  refine AMx.blk_exit ?_
  refine gS [] [] 20 [(4, vc (i6 (-1)))] [] trivial ?_
  exact gT (vc (i6 (-1))) (by rw [show placeM l p = (-1) from by first | exact place_none (fun m hm => hN m (by rwa [List.take_of_length_le (by omega)])) | exact place_hit (by omega) hN (by assumption)])

theorem f15_body : Tryz.f15.body = some (.seq (.region 0 (rg Tryz.f15 0) false) (.seq (.seq (.region 1 (rg Tryz.f15 1) false) (.block 0 (.loop (.seq (.region 2 (rg Tryz.f15 2) false) (.seq (.cond (.tmp 12) (.skip) (.exit 0)) (.seq (.block 1 (.seq (.region 3 (rg Tryz.f15 3) false) (.seq (.region 4 (rg Tryz.f15 4) false) (.cond (.tmp 18) (.seq (.region 5 (rg Tryz.f15 5) false) (.ret)) (.skip))))) (.region 6 (rg Tryz.f15 6) false))))))) (.seq (.region 7 (rg Tryz.f15 7) false) (.ret)))) := by kernel_rfl

set_option maxRecDepth 100000 in
set_option maxHeartbeats 8000000 in
theorem Route_c (l : List MountV) (p : Bytes) : Pure Tryz.prog 15 [TV.agg [.s (AL.Mount.slM l)], tc (st p)] (AV.tup [TV.agg [.s (st (((routeM l p).1).1)), .s (i6 ((((routeM l p).1).2).1)), .s (bo ((((routeM l p).1).2).2))], tc (i6 ((routeM l p).2))]) := by
 refine Pure.of_body Tryz.func15 f15_body (by kernel_rfl) Tryz.ntmps15 (by kernel_rfl) (by kernel_rfl) ?_
 refine AMx.celln 0 0 rfl rfl (fun hl => ?_)
 simp only [maxLen] at hl
 refine gS [] [] 22 [(1, vc (st p)), (2, vp 2 0), (4, vp 4 0)] [(2, AObj.row [.s (AL.Mount.slM l)]), (4, AObj.row [.s (st []), .s (i6 0), .s (bo false)])] trivial ?_
 refine gQ ?_
 refine gS [] [] 22 [(1, vc (st p)), (4, vp 4 0), (9, vc (AL.Mount.slM l)), (10, vc (i6 (List.length l : Int))), (11, vc (i6 0))] [(4, AObj.row [.s (st []), .s (i6 0), .s (bo false)])] trivial ?_
 refine AMx.block ?_
 refine AMx.ent (s' := AS.lst 22 [(1, vc (st p)), (4, vp 4 0), (9, vc (AL.Mount.slM l)), (10, vc (i6 (List.length l : Int))), (11, vc (i6 0))] [(4, AObj.row [.s (st []), .s (i6 0), .s (bo false)])]) (ent_proj [1, 4, 9, 10, 11] [4]) ?_
 refine AMx.loop (fun mm ss => ∃ (i : Nat), (i ≤ l.length ∧ ∀ x ∈ List.take i l, AL.Under.belowS p x.1 = false) ∧ mm = l.length - i ∧ ss = AS.lst 22 [(1, vc (st p)), (4, vp 4 0), (9, vc (AL.Mount.slM l)), (10, vc (i6 (List.length l : Int))), (11, vc (i6 (i : Int)))] [(4, AObj.row [.s (st []), .s (i6 0), .s (bo false)])]) ⟨0, ?_, rfl, ?_⟩ ?_
 · exact ⟨by omega, fun x hx => by simp at hx⟩
 · rfl
 rintro mm ss ⟨i, ⟨hI, hN⟩, rfl, rfl⟩
 refine gS [] [] 22 [(1, vc (st p)), (4, vp 4 0), (9, vc (AL.Mount.slM l)), (10, vc (i6 (List.length l : Int))), (11, vc (i6 (i : Int))), (12, vc (bo (decide ((i : Int) < (List.length l : Int)))))] [(4, AObj.row [.s (st []), .s (i6 0), .s (bo false)])] trivial ?_
 refine gQ ?_
 refine gC ((i : Int) < (List.length l : Int)) (fun hc1 => ?_) fun hc1 => ?_
 ·
  refine AMx.skip ?_
  refine gQ ?_
  refine AMx.block ?_
  refine gS [] [(0 : Int) ≤ (i : Int), (i : Int) < List.length l] 22 [(1, vc (st p)), (4, vp 4 0), (7, vp 7 0), (9, vc (AL.Mount.slM l)), (10, vc (i6 (List.length l : Int))), (11, vc (i6 (i : Int)))] [(4, AObj.row [.s (st []), .s (i6 0), .s (bo false)]), (7, AObj.row [.s (st ((List.getD l i AL.Mount.md).1)), .s (i6 (((List.getD l i AL.Mount.md).2).1)), .s (bo (((List.getD l i AL.Mount.md).2).2))])] ⟨(show (0 : Int) ≤ (i : Int) from (by omega)), (show (i : Int) < List.length l from (by omega))⟩ ?_
  refine gS [(3, CE.call [] [] (vc (bo (AL.Under.belowS p ((List.getD l i AL.Mount.md).1)))) [])] [Spec Tryz.prog 38 [tc (st p), tc (st ((List.getD l i AL.Mount.md).1))] (ofH []) (vc (bo (AL.Under.belowS p ((List.getD l i AL.Mount.md).1)))) (ofH [])] 22 [(1, vc (st p)), (4, vp 4 0), (7, vp 7 0), (9, vc (AL.Mount.slM l)), (10, vc (i6 (List.length l : Int))), (11, vc (i6 (i : Int))), (18, vc (bo (AL.Under.belowS p ((List.getD l i AL.Mount.md).1))))] [(4, AObj.row [.s (st []), .s (i6 0), .s (bo false)]), (7, AObj.row [.s (st ((List.getD l i AL.Mount.md).1)), .s (i6 (((List.getD l i AL.Mount.md).2).1)), .s (bo (((List.getD l i AL.Mount.md).2).2))])] (Under.Below_c p ((List.getD l i AL.Mount.md).1)) ?_
  refine gB (AL.Under.belowS p ((List.getD l i AL.Mount.md).1)) (fun hc2 => ?_) fun hc2 => ?_
  ·
   try simp only [xT, xF] at hc2
   refine gS [] [] 22 [(4, vp 4 0), (5, vc (i6 0))] [(4, AObj.row [.s (st ((List.getD l i AL.Mount.md).1)), .s (i6 (((List.getD l i AL.Mount.md).2).1)), .s (bo (((List.getD l i AL.Mount.md).2).2))])] trivial ?_
   exact gT (AV.tup [TV.agg [.s (st ((List.getD l i AL.Mount.md).1)), .s (i6 (((List.getD l i AL.Mount.md).2).1)), .s (bo (((List.getD l i AL.Mount.md).2).2))], tc (i6 0)]) (by rw [show routeM l p = ((List.getD l i AL.Mount.md), 0) from by first | exact route_hit (by omega) hN (by assumption) | exact route_none (fun m hm => hN m (by rwa [List.take_of_length_le (by omega)]))])
  ·
   try simp only [xT, xF] at hc2
   refine AMx.skip ?_
   refine AMx.blk ?_
   refine gR [] [InR .i64 ((i : Int) + 1)] 22 [(1, vc (st p)), (4, vp 4 0), (9, vc (AL.Mount.slM l)), (10, vc (i6 (List.length l : Int))), (11, vc (i6 ((i : Int) + 1)))] [(4, AObj.row [.s (st []), .s (i6 0), .s (bo false)])] (show InR .i64 ((i : Int) + 1) from (inR64 (by omega) (by omega))) ?_
   refine AMx.ent_inv (s' := AS.lst 22 [(1, vc (st p)), (4, vp 4 0), (9, vc (AL.Mount.slM l)), (10, vc (i6 (List.length l : Int))), (11, vc (i6 ((i : Int) + 1)))] [(4, AObj.row [.s (st []), .s (i6 0), .s (bo false)])]) (ent_proj [1, 4, 9, 10, 11] [4]) ?_
   refine AMx.inv ⟨_, ?_, i + 1, ?_, rfl, ?_⟩
   rotate_left
   · exact ⟨by omega, Lib.all_step (α := MountV) md l i (by omega) hN (by assumption)⟩
   · rfl
   · omega
 ·
  refine AMx.exit ?_
  refine AMx.code_exit ?_
  refine AMx.inv_exit ?_
  refine AMx.blk_exit ?_
  refine gS [] [] 22 [(4, vp 4 0), (5, vc (i6 14))] [(4, AObj.row [.s (st []), .s (i6 0), .s (bo false)])] trivial ?_
  exact gT (AV.tup [TV.agg [.s (st []), .s (i6 0), .s (bo false)], tc (i6 14)]) (by rw [show routeM l p = ((([], ((0, false) : AL.Secret.Rul)) : AL.Mount.MountV), 14) from by first | exact route_hit (by omega) hN (by assumption) | exact route_none (fun m hm => hN m (by rwa [List.take_of_length_le (by omega)]))])

theorem f16_body : Tryz.f16.body = some (.seq (.region 0 (rg Tryz.f16 0) false) (.seq (.region 1 (rg Tryz.f16 1) false) (.seq (.seq (.region 2 (rg Tryz.f16 2) false) (.cond (.tmp 11) (.seq (.region 3 (rg Tryz.f16 3) false) (.ret)) (.skip))) (.seq (.region 4 (rg Tryz.f16 4) false) (.ret))))) := by kernel_rfl

set_option maxRecDepth 100000 in
set_option maxHeartbeats 8000000 in
theorem Find_c (l : List MountV) (p : Bytes) : Pure Tryz.prog 16 [TV.agg [.s (AL.Mount.slM l)], tc (st p)] (AV.tup [TV.agg [.s (st (((findT l p).1).1)), .s (i6 ((((findT l p).1).2).1)), .s (bo ((((findT l p).1).2).2))], tc (i6 ((findT l p).2))]) := by
 refine Pure.of_body Tryz.func16 f16_body (by kernel_rfl) Tryz.ntmps16 (by kernel_rfl) (by kernel_rfl) ?_
 have hf := find_lt l p
 refine gS [] [] 18 [(1, vc (st p)), (2, vp 2 0), (4, vp 4 0)] [(2, AObj.row [.s (AL.Mount.slM l)]), (4, AObj.row [.s (st []), .s (i6 0), .s (bo false)])] trivial ?_
 refine gS [(2, CE.call [] [] (vc (i6 (findM l p))) [])] [Spec Tryz.prog 29 [TV.agg [.s (AL.Mount.slM l)], tc (st p)] (ofH []) (vc (i6 (findM l p))) (ofH [])] 18 [(2, vp 2 0), (4, vp 4 0), (6, vc (i6 (findM l p)))] [(2, AObj.row [.s (AL.Mount.slM l)]), (4, AObj.row [.s (st []), .s (i6 0), .s (bo false)])] (find_c l p) ?_
 refine gQ ?_
 refine gS [] [] 18 [(2, vp 2 0), (4, vp 4 0), (6, vc (i6 (findM l p))), (11, vc (bo (decide (findM l p < 0))))] [(2, AObj.row [.s (AL.Mount.slM l)]), (4, AObj.row [.s (st []), .s (i6 0), .s (bo false)])] trivial ?_
 refine gC (findM l p < 0) (fun hc1 => ?_) fun hc1 => ?_
 ·
  refine gS [] [] 18 [(4, vp 4 0), (5, vc (i6 14))] [(4, AObj.row [.s (st []), .s (i6 0), .s (bo false)])] trivial ?_
  exact gT (AV.tup [TV.agg [.s (st []), .s (i6 0), .s (bo false)], tc (i6 14)]) (by rw [show findT l p = ((([], ((0, false) : AL.Secret.Rul)) : AL.Mount.MountV), 14) from by unfold findT; first | rw [if_pos (by assumption)] | rw [if_neg (by assumption)]])
 ·
  refine AMx.skip ?_
  refine gS [] [(0 : Int) ≤ findM l p, findM l p < List.length l] 18 [(4, vp 4 0), (5, vc (i6 0))] [(4, AObj.row [.s (st ((List.getD l (findM l p).toNat AL.Mount.md).1)), .s (i6 (((List.getD l (findM l p).toNat AL.Mount.md).2).1)), .s (bo (((List.getD l (findM l p).toNat AL.Mount.md).2).2))])] ⟨(show (0 : Int) ≤ findM l p from (by omega)), (show findM l p < List.length l from (by omega))⟩ ?_
  exact gT (AV.tup [TV.agg [.s (st ((List.getD l (findM l p).toNat AL.Mount.md).1)), .s (i6 (((List.getD l (findM l p).toNat AL.Mount.md).2).1)), .s (bo (((List.getD l (findM l p).toNat AL.Mount.md).2).2))], tc (i6 0)]) (by rw [show findT l p = ((List.getD l (findM l p).toNat AL.Mount.md), 0) from by unfold findT; first | rw [if_pos (by assumption)] | rw [if_neg (by assumption)]])

theorem f8_body : Tryz.f8.body = some (.seq (.region 0 (rg Tryz.f8 0) false) (.seq (.region 1 (rg Tryz.f8 1) false) (.ret))) := by kernel_rfl

set_option maxRecDepth 100000 in
set_option maxHeartbeats 8000000 in
theorem Own_c (m : MountV) : Pure Tryz.prog 8 [TV.agg [.s (st m.1), .s (i6 m.2.1), .s (bo m.2.2)]] (AV.t (TV.agg [.s (st m.1), .s (i6 m.2.1), .s (bo m.2.2)])) := by
 refine Pure.of_body Tryz.func8 f8_body (by kernel_rfl) Tryz.ntmps8 (by kernel_rfl) (by kernel_rfl) ?_
 refine gS [] [] 8 [(1, vp 1 0), (2, vp 2 0)] [(1, AObj.row [.s (st m.1), .s (i6 m.2.1), .s (bo m.2.2)]), (2, AObj.row [.s (st []), .s (i6 0), .s (bo false)])] trivial ?_
 refine gS [] [] 8 [(2, vp 2 0)] [(2, AObj.row [.s (st m.1), .s (i6 m.2.1), .s (bo m.2.2)])] trivial ?_
 exact gT (AV.t (TV.agg [.s (st m.1), .s (i6 m.2.1), .s (bo m.2.2)])) rfl

theorem f43_body : Tryz.f43.body = some (.seq (.region 0 (rg Tryz.f43 0) false) (.seq (.seq (.region 1 (rg Tryz.f43 1) false) (.cond (.tmp 10) (.seq (.region 2 (rg Tryz.f43 2) false) (.ret)) (.skip))) (.seq (.seq (.region 3 (rg Tryz.f43 3) false) (.block 0 (.loop (.seq (.region 4 (rg Tryz.f43 4) false) (.seq (.cond (.tmp 14) (.skip) (.exit 0)) (.seq (.block 1 (.seq (.region 5 (rg Tryz.f43 5) false) (.seq (.region 6 (rg Tryz.f43 6) true) (.cond (.tmp 24) (.seq (.region 7 (rg Tryz.f43 7) false) (.ret)) (.skip))))) (.region 8 (rg Tryz.f43 8) false))))))) (.seq (.region 9 (rg Tryz.f43 9) false) (.ret))))) := by kernel_rfl

set_option maxRecDepth 100000 in
set_option maxHeartbeats 8000000 in
theorem EqualM_c (a b : List AL.Mount.MountV) : Pure Tryz.prog 43 [tc (AL.Mount.slM a), tc (AL.Mount.slM b)] (vc (bo (decide (a = b)))) := by
 refine Pure.of_body Tryz.func43 f43_body (by kernel_rfl) Tryz.ntmps43 (by kernel_rfl) (by kernel_rfl) ?_
 refine AMx.sl 0 (l := a) rfl (fun hl => ?_)
 simp only [maxLen] at hl
 refine gS [] [] 26 [(0, vc (AL.Mount.slM a)), (1, vc (AL.Mount.slM b))] [] trivial ?_
 refine gQ ?_
 refine gS [] [] 26 [(0, vc (AL.Mount.slM a)), (1, vc (AL.Mount.slM b)), (10, vc (bo (!decide ((List.length a : Int) = (List.length b : Int)))))] [] trivial ?_
 refine gN ((List.length a : Int) = (List.length b : Int)) (fun hc1 => ?_) fun hc1 => ?_
 ·
  refine gS [] [] 26 [(4, vc (bo false))] [] trivial ?_
  exact gT (vc (bo false)) (by rw [decide_eq_false (fun h => by subst h; simp_all)])
 ·
  refine AMx.skip ?_
  refine gQ ?_
  refine gS [] [] 26 [(0, vc (AL.Mount.slM a)), (1, vc (AL.Mount.slM b)), (12, vc (i6 (List.length a : Int))), (13, vc (i6 0))] [] trivial ?_
  refine AMx.block ?_
  refine AMx.ent (s' := AS.lst 26 [(0, vc (AL.Mount.slM a)), (1, vc (AL.Mount.slM b)), (12, vc (i6 (List.length a : Int))), (13, vc (i6 0))] []) (ent_proj [0, 1, 12, 13] []) ?_
  refine AMx.loop (fun mm ss => ∃ (i : Nat), (i ≤ a.length ∧ List.take i a = List.take i b) ∧ mm = a.length - i ∧ ss = AS.lst 26 [(0, vc (AL.Mount.slM a)), (1, vc (AL.Mount.slM b)), (12, vc (i6 (List.length a : Int))), (13, vc (i6 (i : Int)))] []) ⟨0, ?_, rfl, ?_⟩ ?_
  · exact ⟨by omega, rfl⟩
  · rfl
  rintro mm ss ⟨i, ⟨hI, hE⟩, rfl, rfl⟩
  refine gS [] [] 26 [(0, vc (AL.Mount.slM a)), (1, vc (AL.Mount.slM b)), (12, vc (i6 (List.length a : Int))), (13, vc (i6 (i : Int))), (14, vc (bo (decide ((i : Int) < (List.length a : Int)))))] [] trivial ?_
  refine gQ ?_
  refine gC ((i : Int) < (List.length a : Int)) (fun hc2 => ?_) fun hc2 => ?_
  ·
   refine AMx.skip ?_
   refine gQ ?_
   refine AMx.block ?_
   refine gS [] [] 26 [(0, vc (AL.Mount.slM a)), (1, vc (AL.Mount.slM b)), (5, vc (i6 (i : Int))), (12, vc (i6 (List.length a : Int))), (13, vc (i6 (i : Int)))] [] trivial ?_
   refine gY [] [] [(0 : Int) ≤ (i : Int), (i : Int) < List.length a, (0 : Int) ≤ (i : Int), (i : Int) < List.length b] 26 [(0, vc (AL.Mount.slM a)), (1, vc (AL.Mount.slM b)), (12, vc (i6 (List.length a : Int))), (13, vc (i6 (i : Int))), (24, vc (bo (!(decide ((List.getD a i AL.Mount.md).1 = (List.getD b i AL.Mount.md).1) && ((decide (((List.getD a i AL.Mount.md).2).1 = ((List.getD b i AL.Mount.md).2).1) && (((((List.getD a i AL.Mount.md).2).2) == (((List.getD b i AL.Mount.md).2).2)) && true)) && true)))))] [] mixed ⟨(show (0 : Int) ≤ (i : Int) from (by omega)), (show (i : Int) < List.length a from (by omega)), (show (0 : Int) ≤ (i : Int) from (by omega)), (show (i : Int) < List.length b from (by omega))⟩ ?_
   refine gB (!(decide ((List.getD a i AL.Mount.md).1 = (List.getD b i AL.Mount.md).1) && ((decide (((List.getD a i AL.Mount.md).2).1 = ((List.getD b i AL.Mount.md).2).1) && (((((List.getD a i AL.Mount.md).2).2) == (((List.getD b i AL.Mount.md).2).2)) && true)) && true))) (fun hc3 => ?_) fun hc3 => ?_
   ·
    try simp only [xT, xF, xA, xB, xN, xM] at hc3
    refine gS [] [] 26 [(4, vc (bo false))] [] trivial ?_
    exact gT (vc (bo false)) (by rw [decide_eq_false (fun h => by subst h; simp_all)])
   ·
    try simp only [xT, xF, xA, xB, xN, xM] at hc3
    refine AMx.skip ?_
    refine AMx.blk ?_
    refine gR [] [InR .i64 ((i : Int) + 1)] 26 [(0, vc (AL.Mount.slM a)), (1, vc (AL.Mount.slM b)), (12, vc (i6 (List.length a : Int))), (13, vc (i6 ((i : Int) + 1)))] [] (show InR .i64 ((i : Int) + 1) from (inR64 (by omega) (by omega))) ?_
    refine AMx.ent_inv (s' := AS.lst 26 [(0, vc (AL.Mount.slM a)), (1, vc (AL.Mount.slM b)), (12, vc (i6 (List.length a : Int))), (13, vc (i6 ((i : Int) + 1)))] []) (ent_proj [0, 1, 12, 13] []) ?_
    refine AMx.inv ⟨_, ?_, i + 1, ?_, rfl, ?_⟩
    rotate_left
    · exact ⟨by omega, Lib.same_step AL.Mount.md a b i (by omega) (by omega) hE (by grind)⟩
    · rfl
    · omega
  ·
   refine AMx.exit ?_
   refine AMx.code_exit ?_
   refine AMx.inv_exit ?_
   refine AMx.blk_exit ?_
   refine gS [] [] 26 [(4, vc (bo true))] [] trivial ?_
   exact gT (vc (bo true)) (by rw [decide_eq_true (Lib.same_end a b i (by omega) (by omega) hE)])

theorem f21_body : Tryz.f21.body = some (.seq (.region 0 (rg Tryz.f21 0) false) (.seq (.region 1 (rg Tryz.f21 1) false) (.ret))) := by kernel_rfl

set_option maxRecDepth 100000 in
set_option maxHeartbeats 8000000 in
theorem Same_c (a b : List MountV) : Pure Tryz.prog 21 [TV.agg [.s (AL.Mount.slM a)], TV.agg [.s (AL.Mount.slM b)]] (vc (bo (decide (a = b)))) := by
 refine Pure.of_body Tryz.func21 f21_body (by kernel_rfl) Tryz.ntmps21 (by kernel_rfl) (by kernel_rfl) ?_
 refine gS [] [] 10 [(2, vp 2 0), (3, vp 3 0)] [(2, AObj.row [.s (AL.Mount.slM a)]), (3, AObj.row [.s (AL.Mount.slM b)])] trivial ?_
 refine gS [(4, CE.call [] [] (vc (bo (decide (a = b)))) [])] [Spec Tryz.prog 43 [tc (AL.Mount.slM a), tc (AL.Mount.slM b)] (ofH []) (vc (bo (decide (a = b)))) (ofH [])] 10 [(4, vc (bo (decide (a = b))))] [] (EqualM_c a b) ?_
 exact gT (vc (bo (decide (a = b)))) rfl

theorem f22_body : Tryz.f22.body = some (.seq (.region 0 (rg Tryz.f22 0) false) (.seq (.seq (.region 1 (rg Tryz.f22 1) false) (.cond (.tmp 10) (.seq (.region 2 (rg Tryz.f22 2) false) (.ret)) (.skip))) (.seq (.seq (.region 3 (rg Tryz.f22 3) false) (.block 0 (.loop (.seq (.seq (.region 4 (rg Tryz.f22 4) false) (.cond (.tmp 14) (.skip) (.exit 0))) (.seq (.block 1 (.seq (.region 6 (rg Tryz.f22 6) true) (.cond (.tmp 25) (.seq (.region 7 (rg Tryz.f22 7) false) (.ret)) (.skip)))) (.region 5 (rg Tryz.f22 5) false)))))) (.seq (.region 8 (rg Tryz.f22 8) false) (.ret))))) := by kernel_rfl

set_option maxRecDepth 100000 in
set_option maxHeartbeats 8000000 in
theorem RSame_c (a b : List AL.Mount.MountV) : Pure Tryz.prog 22 [tc (AL.Mount.slM a), tc (AL.Mount.slM b)] (vc (bo (decide (a = b)))) := by
 refine Pure.of_body Tryz.func22 f22_body (by kernel_rfl) Tryz.ntmps22 (by kernel_rfl) (by kernel_rfl) ?_
 refine AMx.sl 0 (l := a) rfl (fun hl => ?_)
 simp only [maxLen] at hl
 refine gS [] [] 26 [(0, vc (AL.Mount.slM a)), (1, vc (AL.Mount.slM b))] [] trivial ?_
 refine gQ ?_
 refine gS [] [] 26 [(0, vc (AL.Mount.slM a)), (1, vc (AL.Mount.slM b)), (10, vc (bo (!decide ((List.length a : Int) = (List.length b : Int)))))] [] trivial ?_
 refine gN ((List.length a : Int) = (List.length b : Int)) (fun hc1 => ?_) fun hc1 => ?_
 ·
  refine gS [] [] 26 [(4, vc (bo false))] [] trivial ?_
  exact gT (vc (bo false)) (by rw [decide_eq_false (fun h => by subst h; simp_all)])
 ·
  refine AMx.skip ?_
  refine gQ ?_
  refine gS [] [] 26 [(0, vc (AL.Mount.slM a)), (1, vc (AL.Mount.slM b)), (5, vc (i6 0))] [] trivial ?_
  refine AMx.block ?_
  refine AMx.ent (s' := AS.lst 26 [(0, vc (AL.Mount.slM a)), (1, vc (AL.Mount.slM b)), (5, vc (i6 0))] []) (ent_proj [0, 1, 5] []) ?_
  refine AMx.loop (fun mm ss => ∃ (i : Nat), (i ≤ a.length ∧ List.take i a = List.take i b) ∧ mm = a.length - i ∧ ss = AS.lst 26 [(0, vc (AL.Mount.slM a)), (1, vc (AL.Mount.slM b)), (5, vc (i6 (i : Int)))] []) ⟨0, ?_, rfl, ?_⟩ ?_
  · exact ⟨by omega, rfl⟩
  · rfl
  rintro mm ss ⟨i, ⟨hI, hE⟩, rfl, rfl⟩
  refine gQ ?_
  refine gS [] [] 26 [(0, vc (AL.Mount.slM a)), (1, vc (AL.Mount.slM b)), (5, vc (i6 (i : Int))), (14, vc (bo (decide ((i : Int) < (List.length a : Int)))))] [] trivial ?_
  refine gC ((i : Int) < (List.length a : Int)) (fun hc2 => ?_) fun hc2 => ?_
  ·
   refine AMx.skip ?_
   refine gQ ?_
   refine AMx.block ?_
   refine gY [] [] [(0 : Int) ≤ (i : Int), (i : Int) < List.length a, (0 : Int) ≤ (i : Int), (i : Int) < List.length b] 26 [(0, vc (AL.Mount.slM a)), (1, vc (AL.Mount.slM b)), (5, vc (i6 (i : Int))), (25, vc (bo (!(decide ((List.getD a i AL.Mount.md).1 = (List.getD b i AL.Mount.md).1) && ((decide (((List.getD a i AL.Mount.md).2).1 = ((List.getD b i AL.Mount.md).2).1) && (((((List.getD a i AL.Mount.md).2).2) == (((List.getD b i AL.Mount.md).2).2)) && true)) && true)))))] [] mixed ⟨(show (0 : Int) ≤ (i : Int) from (by omega)), (show (i : Int) < List.length a from (by omega)), (show (0 : Int) ≤ (i : Int) from (by omega)), (show (i : Int) < List.length b from (by omega))⟩ ?_
   refine gB (!(decide ((List.getD a i AL.Mount.md).1 = (List.getD b i AL.Mount.md).1) && ((decide (((List.getD a i AL.Mount.md).2).1 = ((List.getD b i AL.Mount.md).2).1) && (((((List.getD a i AL.Mount.md).2).2) == (((List.getD b i AL.Mount.md).2).2)) && true)) && true))) (fun hc3 => ?_) fun hc3 => ?_
   ·
    try simp only [xT, xF, xA, xB, xN, xM] at hc3
    refine gS [] [] 26 [(4, vc (bo false))] [] trivial ?_
    exact gT (vc (bo false)) (by rw [decide_eq_false (fun h => by subst h; simp_all)])
   ·
    try simp only [xT, xF, xA, xB, xN, xM] at hc3
    refine AMx.skip ?_
    refine AMx.blk ?_
    refine gR [] [InR .i64 ((i : Int) + 1)] 26 [(0, vc (AL.Mount.slM a)), (1, vc (AL.Mount.slM b)), (5, vc (i6 ((i : Int) + 1)))] [] (show InR .i64 ((i : Int) + 1) from (inR64 (by omega) (by omega))) ?_
    refine AMx.ent_inv (s' := AS.lst 26 [(0, vc (AL.Mount.slM a)), (1, vc (AL.Mount.slM b)), (5, vc (i6 ((i : Int) + 1)))] []) (ent_proj [0, 1, 5] []) ?_
    refine AMx.inv ⟨_, ?_, i + 1, ?_, rfl, ?_⟩
    rotate_left
    · exact ⟨by omega, Lib.same_step AL.Mount.md a b i (by omega) (by omega) hE (by grind)⟩
    · rfl
    · omega
  ·
   refine AMx.exit ?_
   refine AMx.code_exit ?_
   refine AMx.inv_exit ?_
   refine AMx.blk_exit ?_
   refine gS [] [] 26 [(4, vc (bo true))] [] trivial ?_
   exact gT (vc (bo true)) (by rw [decide_eq_true (Lib.same_end a b i (by omega) (by omega) hE)])

theorem f45_body : Tryz.f45.body = some (.seq (.region 0 (rg Tryz.f45 0) false) (.seq (.seq (.region 1 (rg Tryz.f45 1) false) (.cond (.tmp 4) (.seq (.region 2 (rg Tryz.f45 2) false) (.ret)) (.skip))) (.seq (.region 3 (rg Tryz.f45 3) false) (.ret)))) := by kernel_rfl

set_option maxRecDepth 100000 in
set_option maxHeartbeats 8000000 in
theorem CloneM_c (l : List AL.Mount.MountV) (hb : l.length ≤ 100000) : ∀ d, Spec Tryz.prog 45 [tc (AL.Mount.slM l)] H0 (vo d) (ofH [(d, AObj.grow 39 3 AL.Mount.MountV AL.Mount.md AL.Mount.rowM l)]) := by
 refine Own.of_body Tryz.func45 f45_body (by kernel_rfl) Tryz.ntmps45 (by kernel_rfl) rfl ?_
 refine AMx.isnil 0 rfl (fun hnil0 => ?_) ?_
 ·
  refine gS [] [] 8 [(0, vc (SC.nilsl))] [] trivial ?_
  refine gQ ?_
  refine gS [] [] 8 [(0, vc (SC.nilsl)), (4, vc (bo true))] [] trivial ?_
  refine gBt ?_
  refine gS [] [] 8 [(2, vc (SC.nilsl))] [] trivial ?_
  refine AMx.ent (s' := AS.lst 8 [(2, vo 2)] [(2, AObj.grow 39 3 AL.Mount.MountV AL.Mount.md AL.Mount.rowM [])]) (ent_adopt (t := 2) (d := 2) 39 3 AL.Mount.MountV AL.Mount.md AL.Mount.rowM (by kernel_rfl) (by kernel_rfl) (by kernel_rfl) (by kernel_rfl)) ?_
  refine AMx.ret ?_
  exact ⟨.inl rfl, 2, AObj.grow 39 3 AL.Mount.MountV AL.Mount.md AL.Mount.rowM [], by kernel_rfl, by kernel_rfl, by first | rfl | (rw [hnil0])⟩
 ·
  refine gS [] [] 8 [(0, vc (SC.nn (AL.Mount.slM l)))] [] trivial ?_
  refine gQ ?_
  refine gS [] [] 8 [(0, vc (SC.nn (AL.Mount.slM l))), (4, vc (bo false))] [] trivial ?_
  refine gBf ?_
  refine AMx.skip ?_
  refine gQ ?_
  refine AMx.ent (ent_weak 0 (v' := vc (AL.Mount.slM l)) (by kernel_rfl) (AV.le_t (TV.le_c AC.le_nn))) ?_
  refine gR [(0, CE.obj (AObj.grow 39 3 AL.Mount.MountV AL.Mount.md AL.Mount.rowM [])), (2, CE.obj (AObj.grow 39 3 AL.Mount.MountV AL.Mount.md AL.Mount.rowM ([] ++ l)))] [flat 3 AL.Mount.rowM [] = [], List.length ([] : List AL.Mount.MountV) = 0, AppC (flat 3 AL.Mount.rowM l) (List.length l) 32 (AObj.grow 39 3 AL.Mount.MountV AL.Mount.md AL.Mount.rowM []) (AObj.grow 39 3 AL.Mount.MountV AL.Mount.md AL.Mount.rowM ([] ++ l))] 8 [(2, vo 7)] [(7, AObj.grow 39 3 AL.Mount.MountV AL.Mount.md AL.Mount.rowM ([] ++ l))] ⟨rfl, rfl, (⟨_, rfl, rfl, rfl, by simp only [List.length_nil]; omega, by simp only [maxLen, List.length_nil]; omega⟩)⟩ ?_
  refine AMx.ret ?_
  exact ⟨.inl rfl, 7, AObj.grow 39 3 AL.Mount.MountV AL.Mount.md AL.Mount.rowM ([] ++ l), by kernel_rfl, by kernel_rfl, by first | rfl | (rw [hnil0])⟩

theorem f24_body : Tryz.f24.body = some (.seq (.region 0 (rg Tryz.f24 0) false) (.seq (.region 1 (rg Tryz.f24 1) false) (.ret))) := by kernel_rfl

set_option maxRecDepth 100000 in
set_option maxHeartbeats 8000000 in
theorem List_c (l : List MountV) (hl : l.length ≤ 1000) : Pure Tryz.prog 24 [TV.agg [.s (AL.Mount.slM l)]] (vc (AL.Mount.slM l)) := by
 refine Pure.of_body Tryz.func24 f24_body (by kernel_rfl) Tryz.ntmps24 (by kernel_rfl) (by kernel_rfl) ?_
 refine gS [] [] 6 [(1, vp 1 0)] [(1, AObj.row [.s (AL.Mount.slM l)])] trivial ?_
 refine gS [(2, CE.call [] [] (vo 5) [(5, AObj.grow 39 3 AL.Mount.MountV AL.Mount.md AL.Mount.rowM l)])] [Spec Tryz.prog 45 [tc (AL.Mount.slM l)] (ofH []) (vo 5) (ofH [(5, AObj.grow 39 3 AL.Mount.MountV AL.Mount.md AL.Mount.rowM l)])] 6 [(2, vo 5)] [(5, AObj.grow 39 3 AL.Mount.MountV AL.Mount.md AL.Mount.rowM l)] (CloneM_c l (by first | omega | (simp only [List.length_drop, List.length_take, List.length_append, List.length_cons, List.length_nil]; omega) | (omega)) 5) ?_
 refine AMx.ent (s' := AS.lst 6 [(2, vc (AL.Mount.slM l))] []) (ent_freeze (id := 5) (T := 39) (by kernel_rfl)) ?_
 exact gT (vc (AL.Mount.slM l)) rfl

end AL.Mount
