/- The proof library and the contracts that the law reaches: joined by a program. No condition. -/
import Derived.Test.YtiiiecdfganahaaGreatDoorSBc
namespace AL.Ask
open Go Go.Proofs AL
set_option linter.unusedVariables false
set_option linter.unusedSimpArgs false
theorem f23_body : Tryz.f23.body = some (.seq (.region 0 (rg Tryz.f23 0) false) (.seq (.region 1 (rg Tryz.f23 1) false) (.seq (.seq (.region 2 (rg Tryz.f23 2) false) (.cond (.tmp 25) (.seq (.region 3 (rg Tryz.f23 3) false) (.ret)) (.skip))) (.seq (.region 4 (rg Tryz.f23 4) false) (.ret))))) := by kernel_rfl
set_option maxRecDepth 100000 in
set_option maxHeartbeats 8000000 in
theorem formOf_c (op : Int) : Pure Tryz.prog 23 [tc (u8 op)] (AV.t (TV.agg [.s (st (wordS op)), .s (st (kindS op))])) := by
 refine Pure.of_body Tryz.func23 f23_body (by kernel_rfl) Tryz.ntmps23 (by kernel_rfl) (by kernel_rfl) ?_
 refine AMx.int 0 rfl (fun hop => ?_)
 rw [inR8_iff] at hop
 refine gS [] [] 30 [(0, vc (u8 op)), (2, vp 2 0)] [(2, AObj.row [.s (st []), .s (st [])])] trivial ?_
 refine gS [] [] 30 [(0, vc (u8 op)), (2, vp 2 0), (3, vp 3 0)] [(2, AObj.row [.s (st []), .s (st [])]), (3, AObj.row [.s (st []), .s (st []), .s (st [115, 116, 97, 116, 117, 115]), .s (st []), .s (st [117, 110, 115, 101, 97, 108]), .s (st [107]), .s (st [115, 101, 97, 108]), .s (st [116]), .s (st [114, 111, 116, 97, 116, 101]), .s (st [116]), .s (st [109, 111, 117, 110, 116]), .s (st [116, 112, 110, 102]), .s (st [117, 110, 109, 111, 117, 110, 116]), .s (st [116, 112]), .s (st [109, 97, 107, 101]), .s (st [116, 109, 114]), .s (st [114, 101, 118, 111, 107, 101]), .s (st [116, 109]), .s (st [114, 101, 97, 100]), .s (st [116, 112, 110]), .s (st [119, 114, 105, 116, 101]), .s (st [116, 112, 99, 100]), .s (st [100, 101, 108, 101, 116, 101]), .s (st [116, 112, 108]), .s (st [117, 110, 100, 101, 108, 101, 116, 101]), .s (st [116, 112, 108]), .s (st [100, 101, 115, 116, 114, 111, 121]), .s (st [116, 112, 108]), .s (st [109, 101, 116, 97]), .s (st [116, 112]), .s (st [99, 111, 110, 102, 105, 103]), .s (st [116, 112, 110, 102]), .s (st [112, 117, 114, 103, 101]), .s (st [116, 112]), .s (st [108, 105, 115, 116]), .s (st [116, 112]), .s (st [99, 111, 112, 121]), .s (st [116, 112, 113])])] trivial ?_
 refine gQ ?_
 refine gS [] [] 30 [(0, vc (u8 op)), (2, vp 2 0), (3, vp 3 0), (25, vc (bo (decide (19 ≤ op))))] [(2, AObj.row [.s (st []), .s (st [])]), (3, AObj.row [.s (st []), .s (st []), .s (st [115, 116, 97, 116, 117, 115]), .s (st []), .s (st [117, 110, 115, 101, 97, 108]), .s (st [107]), .s (st [115, 101, 97, 108]), .s (st [116]), .s (st [114, 111, 116, 97, 116, 101]), .s (st [116]), .s (st [109, 111, 117, 110, 116]), .s (st [116, 112, 110, 102]), .s (st [117, 110, 109, 111, 117, 110, 116]), .s (st [116, 112]), .s (st [109, 97, 107, 101]), .s (st [116, 109, 114]), .s (st [114, 101, 118, 111, 107, 101]), .s (st [116, 109]), .s (st [114, 101, 97, 100]), .s (st [116, 112, 110]), .s (st [119, 114, 105, 116, 101]), .s (st [116, 112, 99, 100]), .s (st [100, 101, 108, 101, 116, 101]), .s (st [116, 112, 108]), .s (st [117, 110, 100, 101, 108, 101, 116, 101]), .s (st [116, 112, 108]), .s (st [100, 101, 115, 116, 114, 111, 121]), .s (st [116, 112, 108]), .s (st [109, 101, 116, 97]), .s (st [116, 112]), .s (st [99, 111, 110, 102, 105, 103]), .s (st [116, 112, 110, 102]), .s (st [112, 117, 114, 103, 101]), .s (st [116, 112]), .s (st [108, 105, 115, 116]), .s (st [116, 112]), .s (st [99, 111, 112, 121]), .s (st [116, 112, 113])])] trivial ?_
 refine gC (19 ≤ op) (fun hc1 => ?_) fun hc1 => ?_
 ·
  refine gS [] [] 30 [(2, vp 2 0)] [(2, AObj.row [.s (st []), .s (st [])])] trivial ?_
  exact gT (AV.t (TV.agg [.s (st []), .s (st [])])) (by first | rfl | rw [(word_out (by omega)).1, (word_out (by omega)).2])
 ·
  refine AMx.skip ?_
  refine gQ ?_
  rcases (show op = 0 ∨ op = 1 ∨ op = 2 ∨ op = 3 ∨ op = 4 ∨ op = 5 ∨ op = 6 ∨ op = 7 ∨ op = 8 ∨ op = 9 ∨ op = 10 ∨ op = 11 ∨ op = 12 ∨ op = 13 ∨ op = 14 ∨ op = 15 ∨ op = 16 ∨ op = 17 ∨ op = 18 by omega) with rfl | rfl | rfl | rfl | rfl | rfl | rfl | rfl | rfl | rfl | rfl | rfl | rfl | rfl | rfl | rfl | rfl | rfl | rfl
  ·
   refine gR [] [(0 : Int) ≤ 0, (0 : Int) < 19] 30 [(2, vp 2 0)] [(2, AObj.row [.s (st []), .s (st [])])] ⟨(show (0 : Int) ≤ 0 from (by omega)), (show (0 : Int) < 19 from (by omega))⟩ ?_
   exact gT (AV.t (TV.agg [.s (st []), .s (st [])])) (by first | rfl | rw [(word_out (by omega)).1, (word_out (by omega)).2])
  ·
   refine gR [] [(0 : Int) ≤ 1, (1 : Int) < 19] 30 [(2, vp 2 0)] [(2, AObj.row [.s (st [115, 116, 97, 116, 117, 115]), .s (st [])])] ⟨(show (0 : Int) ≤ 1 from (by omega)), (show (1 : Int) < 19 from (by omega))⟩ ?_
   exact gT (AV.t (TV.agg [.s (st [115, 116, 97, 116, 117, 115]), .s (st [])])) (by first | rfl | rw [(word_out (by omega)).1, (word_out (by omega)).2])
  ·
   refine gR [] [(0 : Int) ≤ 2, (2 : Int) < 19] 30 [(2, vp 2 0)] [(2, AObj.row [.s (st [117, 110, 115, 101, 97, 108]), .s (st [107])])] ⟨(show (0 : Int) ≤ 2 from (by omega)), (show (2 : Int) < 19 from (by omega))⟩ ?_
   exact gT (AV.t (TV.agg [.s (st [117, 110, 115, 101, 97, 108]), .s (st [107])])) (by first | rfl | rw [(word_out (by omega)).1, (word_out (by omega)).2])
  ·
   refine gR [] [(0 : Int) ≤ 3, (3 : Int) < 19] 30 [(2, vp 2 0)] [(2, AObj.row [.s (st [115, 101, 97, 108]), .s (st [116])])] ⟨(show (0 : Int) ≤ 3 from (by omega)), (show (3 : Int) < 19 from (by omega))⟩ ?_
   exact gT (AV.t (TV.agg [.s (st [115, 101, 97, 108]), .s (st [116])])) (by first | rfl | rw [(word_out (by omega)).1, (word_out (by omega)).2])
  ·
   refine gR [] [(0 : Int) ≤ 4, (4 : Int) < 19] 30 [(2, vp 2 0)] [(2, AObj.row [.s (st [114, 111, 116, 97, 116, 101]), .s (st [116])])] ⟨(show (0 : Int) ≤ 4 from (by omega)), (show (4 : Int) < 19 from (by omega))⟩ ?_
   exact gT (AV.t (TV.agg [.s (st [114, 111, 116, 97, 116, 101]), .s (st [116])])) (by first | rfl | rw [(word_out (by omega)).1, (word_out (by omega)).2])
  ·
   refine gR [] [(0 : Int) ≤ 5, (5 : Int) < 19] 30 [(2, vp 2 0)] [(2, AObj.row [.s (st [109, 111, 117, 110, 116]), .s (st [116, 112, 110, 102])])] ⟨(show (0 : Int) ≤ 5 from (by omega)), (show (5 : Int) < 19 from (by omega))⟩ ?_
   exact gT (AV.t (TV.agg [.s (st [109, 111, 117, 110, 116]), .s (st [116, 112, 110, 102])])) (by first | rfl | rw [(word_out (by omega)).1, (word_out (by omega)).2])
  ·
   refine gR [] [(0 : Int) ≤ 6, (6 : Int) < 19] 30 [(2, vp 2 0)] [(2, AObj.row [.s (st [117, 110, 109, 111, 117, 110, 116]), .s (st [116, 112])])] ⟨(show (0 : Int) ≤ 6 from (by omega)), (show (6 : Int) < 19 from (by omega))⟩ ?_
   exact gT (AV.t (TV.agg [.s (st [117, 110, 109, 111, 117, 110, 116]), .s (st [116, 112])])) (by first | rfl | rw [(word_out (by omega)).1, (word_out (by omega)).2])
  ·
   refine gR [] [(0 : Int) ≤ 7, (7 : Int) < 19] 30 [(2, vp 2 0)] [(2, AObj.row [.s (st [109, 97, 107, 101]), .s (st [116, 109, 114])])] ⟨(show (0 : Int) ≤ 7 from (by omega)), (show (7 : Int) < 19 from (by omega))⟩ ?_
   exact gT (AV.t (TV.agg [.s (st [109, 97, 107, 101]), .s (st [116, 109, 114])])) (by first | rfl | rw [(word_out (by omega)).1, (word_out (by omega)).2])
  ·
   refine gR [] [(0 : Int) ≤ 8, (8 : Int) < 19] 30 [(2, vp 2 0)] [(2, AObj.row [.s (st [114, 101, 118, 111, 107, 101]), .s (st [116, 109])])] ⟨(show (0 : Int) ≤ 8 from (by omega)), (show (8 : Int) < 19 from (by omega))⟩ ?_
   exact gT (AV.t (TV.agg [.s (st [114, 101, 118, 111, 107, 101]), .s (st [116, 109])])) (by first | rfl | rw [(word_out (by omega)).1, (word_out (by omega)).2])
  ·
   refine gR [] [(0 : Int) ≤ 9, (9 : Int) < 19] 30 [(2, vp 2 0)] [(2, AObj.row [.s (st [114, 101, 97, 100]), .s (st [116, 112, 110])])] ⟨(show (0 : Int) ≤ 9 from (by omega)), (show (9 : Int) < 19 from (by omega))⟩ ?_
   exact gT (AV.t (TV.agg [.s (st [114, 101, 97, 100]), .s (st [116, 112, 110])])) (by first | rfl | rw [(word_out (by omega)).1, (word_out (by omega)).2])
  ·
   refine gR [] [(0 : Int) ≤ 10, (10 : Int) < 19] 30 [(2, vp 2 0)] [(2, AObj.row [.s (st [119, 114, 105, 116, 101]), .s (st [116, 112, 99, 100])])] ⟨(show (0 : Int) ≤ 10 from (by omega)), (show (10 : Int) < 19 from (by omega))⟩ ?_
   exact gT (AV.t (TV.agg [.s (st [119, 114, 105, 116, 101]), .s (st [116, 112, 99, 100])])) (by first | rfl | rw [(word_out (by omega)).1, (word_out (by omega)).2])
  ·
   refine gR [] [(0 : Int) ≤ 11, (11 : Int) < 19] 30 [(2, vp 2 0)] [(2, AObj.row [.s (st [100, 101, 108, 101, 116, 101]), .s (st [116, 112, 108])])] ⟨(show (0 : Int) ≤ 11 from (by omega)), (show (11 : Int) < 19 from (by omega))⟩ ?_
   exact gT (AV.t (TV.agg [.s (st [100, 101, 108, 101, 116, 101]), .s (st [116, 112, 108])])) (by first | rfl | rw [(word_out (by omega)).1, (word_out (by omega)).2])
  ·
   refine gR [] [(0 : Int) ≤ 12, (12 : Int) < 19] 30 [(2, vp 2 0)] [(2, AObj.row [.s (st [117, 110, 100, 101, 108, 101, 116, 101]), .s (st [116, 112, 108])])] ⟨(show (0 : Int) ≤ 12 from (by omega)), (show (12 : Int) < 19 from (by omega))⟩ ?_
   exact gT (AV.t (TV.agg [.s (st [117, 110, 100, 101, 108, 101, 116, 101]), .s (st [116, 112, 108])])) (by first | rfl | rw [(word_out (by omega)).1, (word_out (by omega)).2])
  ·
   refine gR [] [(0 : Int) ≤ 13, (13 : Int) < 19] 30 [(2, vp 2 0)] [(2, AObj.row [.s (st [100, 101, 115, 116, 114, 111, 121]), .s (st [116, 112, 108])])] ⟨(show (0 : Int) ≤ 13 from (by omega)), (show (13 : Int) < 19 from (by omega))⟩ ?_
   exact gT (AV.t (TV.agg [.s (st [100, 101, 115, 116, 114, 111, 121]), .s (st [116, 112, 108])])) (by first | rfl | rw [(word_out (by omega)).1, (word_out (by omega)).2])
  ·
   refine gR [] [(0 : Int) ≤ 14, (14 : Int) < 19] 30 [(2, vp 2 0)] [(2, AObj.row [.s (st [109, 101, 116, 97]), .s (st [116, 112])])] ⟨(show (0 : Int) ≤ 14 from (by omega)), (show (14 : Int) < 19 from (by omega))⟩ ?_
   exact gT (AV.t (TV.agg [.s (st [109, 101, 116, 97]), .s (st [116, 112])])) (by first | rfl | rw [(word_out (by omega)).1, (word_out (by omega)).2])
  ·
   refine gR [] [(0 : Int) ≤ 15, (15 : Int) < 19] 30 [(2, vp 2 0)] [(2, AObj.row [.s (st [99, 111, 110, 102, 105, 103]), .s (st [116, 112, 110, 102])])] ⟨(show (0 : Int) ≤ 15 from (by omega)), (show (15 : Int) < 19 from (by omega))⟩ ?_
   exact gT (AV.t (TV.agg [.s (st [99, 111, 110, 102, 105, 103]), .s (st [116, 112, 110, 102])])) (by first | rfl | rw [(word_out (by omega)).1, (word_out (by omega)).2])
  ·
   refine gR [] [(0 : Int) ≤ 16, (16 : Int) < 19] 30 [(2, vp 2 0)] [(2, AObj.row [.s (st [112, 117, 114, 103, 101]), .s (st [116, 112])])] ⟨(show (0 : Int) ≤ 16 from (by omega)), (show (16 : Int) < 19 from (by omega))⟩ ?_
   exact gT (AV.t (TV.agg [.s (st [112, 117, 114, 103, 101]), .s (st [116, 112])])) (by first | rfl | rw [(word_out (by omega)).1, (word_out (by omega)).2])
  ·
   refine gR [] [(0 : Int) ≤ 17, (17 : Int) < 19] 30 [(2, vp 2 0)] [(2, AObj.row [.s (st [108, 105, 115, 116]), .s (st [116, 112])])] ⟨(show (0 : Int) ≤ 17 from (by omega)), (show (17 : Int) < 19 from (by omega))⟩ ?_
   exact gT (AV.t (TV.agg [.s (st [108, 105, 115, 116]), .s (st [116, 112])])) (by first | rfl | rw [(word_out (by omega)).1, (word_out (by omega)).2])
  ·
   refine gR [] [(0 : Int) ≤ 18, (18 : Int) < 19] 30 [(2, vp 2 0)] [(2, AObj.row [.s (st [99, 111, 112, 121]), .s (st [116, 112, 113])])] ⟨(show (0 : Int) ≤ 18 from (by omega)), (show (18 : Int) < 19 from (by omega))⟩ ?_
   exact gT (AV.t (TV.agg [.s (st [99, 111, 112, 121]), .s (st [116, 112, 113])])) (by first | rfl | rw [(word_out (by omega)).1, (word_out (by omega)).2])
theorem f34_body : Tryz.f34.body = some (.seq (.region 0 (rg Tryz.f34 0) false) (.seq (.seq (.region 1 (rg Tryz.f34 1) false) (.block 0 (.loop (.seq (.seq (.region 2 (rg Tryz.f34 2) false) (.cond (.tmp 5) (.skip) (.exit 0))) (.seq (.block 1 (.seq (.region 4 (rg Tryz.f34 4) false) (.cond (.tmp 12) (.seq (.region 5 (rg Tryz.f34 5) false) (.ret)) (.skip)))) (.region 3 (rg Tryz.f34 3) false)))))) (.seq (.region 6 (rg Tryz.f34 6) false) (.ret)))) := by kernel_rfl
set_option maxRecDepth 100000 in
set_option maxHeartbeats 8000000 in
theorem opOf_c (w : Bytes) : Pure Tryz.prog 34 [tc (st w)] (vc (u8 (opS w))) := by
 refine Pure.of_body Tryz.func34 f34_body (by kernel_rfl) Tryz.ntmps34 (by kernel_rfl) (by kernel_rfl) ?_
 refine gS [] [] 14 [(0, vc (st w))] [] trivial ?_
 refine gQ ?_
 refine gS [] [] 14 [(0, vc (st w)), (3, vc (u8 1))] [] trivial ?_
 refine AMx.block ?_
 refine AMx.ent (s' := AS.lst 14 [(0, vc (st w)), (3, vc (u8 1))] []) (ent_proj [0, 3] []) ?_
 refine AMx.loop (fun mm ss => ∃ (k : Nat), ((1 ≤ k ∧ k ≤ 19) ∧ ∀ j, 1 ≤ j → j < k → ¬ List.getD wordsL j [] = w) ∧ mm = 19 - k ∧ ss = AS.lst 14 [(0, vc (st w)), (3, vc (u8 (k : Int)))] []) ⟨1, ?_, rfl, ?_⟩ ?_
 · exact ⟨by omega, fun j h1 h2 => by omega⟩
 · rfl
 rintro mm ss ⟨k, ⟨hI, hN⟩, rfl, rfl⟩
 refine gQ ?_
 refine gS [] [] 14 [(0, vc (st w)), (3, vc (u8 (k : Int))), (5, vc (bo (decide ((k : Int) ≤ 18))))] [] trivial ?_
 refine gC ((k : Int) ≤ 18) (fun hc1 => ?_) fun hc1 => ?_
 ·
  refine AMx.skip ?_
  refine gQ ?_
  refine AMx.block ?_
  refine gS [(1, CE.call [] [] (AV.t (TV.agg [.s (st (wordS (k : Int))), .s (st (kindS (k : Int)))])) [])] [Spec Tryz.prog 23 [tc (u8 (k : Int))] (ofH []) (AV.t (TV.agg [.s (st (wordS (k : Int))), .s (st (kindS (k : Int)))])) (ofH [])] 14 [(0, vc (st w)), (3, vc (u8 (k : Int))), (12, vc (bo (decide (wordS (k : Int) = w))))] [] (formOf_c (k : Int)) ?_
  refine gC (wordS (k : Int) = w) (fun hc2 => ?_) fun hc2 => ?_
  ·
   refine gS [] [] 14 [(2, vc (u8 (k : Int)))] [] trivial ?_
   exact gT (vc (u8 (k : Int))) (by rw [op_some (k := k) (by omega) (by omega) (by assumption)])
  ·
   refine AMx.skip ?_
   refine AMx.blk ?_
   refine gR [] [] 14 [(0, vc (st w)), (3, vc (u8 (IntKind.wrap .u8 ((k : Int) + 1))))] [] trivial ?_
   refine AMx.ent_inv (s' := AS.lst 14 [(0, vc (st w)), (3, vc (u8 (IntKind.wrap .u8 ((k : Int) + 1))))] []) (ent_proj [0, 3] []) ?_
   refine AMx.inv ⟨_, ?_, k + 1, ?_, rfl, ?_⟩
   rotate_left
   · exact ⟨by omega, fun j h1 h2 => by rcases Nat.lt_or_ge j k with q | q; exact hN j h1 q; rw [show j = k by omega]; assumption⟩
   · rw [wrap_u8 (by omega) (by omega)]; rfl
   · omega
 ·
  refine AMx.exit ?_
  refine AMx.code_exit ?_
  refine AMx.inv_exit ?_
  refine AMx.blk_exit ?_
  refine gS [] [] 14 [(2, vc (u8 0))] [] trivial ?_
  exact gT (vc (u8 0)) (by rw [op_none (fun j h1 h2 => hN j h1 (by omega))])
theorem f24_body : Tryz.f24.body = some (.seq (.region 0 (rg Tryz.f24 0) false) (.seq (.seq (.region 1 (rg Tryz.f24 1) false) (.block 0 (.seq (.region 2 (rg Tryz.f24 2) false) (.cond (.tmp 6) (.seq (.region 3 (rg Tryz.f24 3) false) (.ret)) (.seq (.region 4 (rg Tryz.f24 4) false) (.cond (.tmp 12) (.seq (.region 5 (rg Tryz.f24 5) false) (.ret)) (.seq (.region 6 (rg Tryz.f24 6) false) (.cond (.tmp 18) (.seq (.region 7 (rg Tryz.f24 7) false) (.ret)) (.seq (.region 8 (rg Tryz.f24 8) false) (.cond (.tmp 23) (.seq (.region 9 (rg Tryz.f24 9) false) (.ret)) (.seq (.region 10 (rg Tryz.f24 10) false) (.cond (.tmp 28) (.seq (.region 11 (rg Tryz.f24 11) false) (.ret)) (.seq (.region 12 (rg Tryz.f24 12) false) (.cond (.tmp 34) (.seq (.region 13 (rg Tryz.f24 13) false) (.ret)) (.seq (.region 14 (rg Tryz.f24 14) false) (.cond (.tmp 40) (.seq (.region 15 (rg Tryz.f24 15) false) (.ret)) (.seq (.region 16 (rg Tryz.f24 16) false) (.cond (.tmp 46) (.seq (.region 17 (rg Tryz.f24 17) false) (.ret)) (.seq (.region 18 (rg Tryz.f24 18) false) (.cond (.tmp 51) (.seq (.region 19 (rg Tryz.f24 19) false) (.ret)) (.skip))))))))))))))))))))) (.seq (.region 20 (rg Tryz.f24 20) false) (.ret)))) := by kernel_rfl
set_option maxRecDepth 100000 in
set_option maxHeartbeats 8000000 in
theorem field_c (a : AskV) (c : Int) : Pure Tryz.prog 24 [TV.agg (rwA a), tc (i3 c)] (vc (i6 (fieldS a c))) := by
 refine Pure.of_body Tryz.func24 f24_body (by kernel_rfl) Tryz.ntmps24 (by kernel_rfl) (by kernel_rfl) ?_
 refine gS [] [] 58 [(1, vc (i3 c)), (2, vp 2 0)] [(2, AObj.row (rwA a))] trivial ?_
 refine gQ ?_
 refine gS [] [] 58 [(2, vp 2 0), (5, vc (i3 c))] [(2, AObj.row (rwA a))] trivial ?_
 refine AMx.block ?_
 refine gS [] [] 58 [(2, vp 2 0), (5, vc (i3 c)), (6, vc (bo (decide (c = 116))))] [(2, AObj.row (rwA a))] trivial ?_
 refine gC (c = 116) (fun hc1 => ?_) fun hc1 => ?_
 ·
  refine gS [(2, CE.call [] [] (vc (bo (Rows.namedS a.token))) []), (3, CE.call [] [] (vc (i6 (fineS (Rows.namedS a.token)))) [])] [Spec Tryz.prog 44 [tc (st a.token)] (ofH []) (vc (bo (Rows.namedS a.token))) (ofH []), Spec Tryz.prog 43 [tc (bo (Rows.namedS a.token))] (ofH []) (vc (i6 (fineS (Rows.namedS a.token)))) (ofH [])] 58 [(4, vc (i6 (fineS (Rows.namedS a.token))))] [] ⟨(named_c a.token), (fine_c (Rows.namedS a.token))⟩ ?_
  exact gT (vc (i6 (fineS (Rows.namedS a.token)))) (by first | (subst_vars; rfl) | (subst_vars; rw [key16]; rfl) | (unfold fieldS; rw [if_neg (by assumption), if_neg (by assumption), if_neg (by assumption), if_neg (by assumption), if_neg (by assumption), if_neg (by assumption), if_neg (by assumption), if_neg (by assumption), if_neg (by assumption)]))
 ·
  refine gS [] [] 58 [(2, vp 2 0), (5, vc (i3 c)), (12, vc (bo (decide (c = 109))))] [(2, AObj.row (rwA a))] trivial ?_
  refine gC (c = 109) (fun hc2 => ?_) fun hc2 => ?_
  ·
   refine gS [(2, CE.call [] [] (vc (bo (Rows.namedS a.other))) []), (3, CE.call [] [] (vc (i6 (fineS (Rows.namedS a.other)))) [])] [Spec Tryz.prog 44 [tc (st a.other)] (ofH []) (vc (bo (Rows.namedS a.other))) (ofH []), Spec Tryz.prog 43 [tc (bo (Rows.namedS a.other))] (ofH []) (vc (i6 (fineS (Rows.namedS a.other)))) (ofH [])] 58 [(4, vc (i6 (fineS (Rows.namedS a.other))))] [] ⟨(named_c a.other), (fine_c (Rows.namedS a.other))⟩ ?_
   exact gT (vc (i6 (fineS (Rows.namedS a.other)))) (by first | (subst_vars; rfl) | (subst_vars; rw [key16]; rfl) | (unfold fieldS; rw [if_neg (by assumption), if_neg (by assumption), if_neg (by assumption), if_neg (by assumption), if_neg (by assumption), if_neg (by assumption), if_neg (by assumption), if_neg (by assumption), if_neg (by assumption)]))
  ·
   refine gS [] [] 58 [(2, vp 2 0), (5, vc (i3 c)), (18, vc (bo (decide (c = 112))))] [(2, AObj.row (rwA a))] trivial ?_
   refine gC (c = 112) (fun hc3 => ?_) fun hc3 => ?_
   ·
    refine gS [(2, CE.call [] [] (vc (i6 (Route.checkS a.path))) [])] [Spec Tryz.prog 45 [tc (st a.path)] (ofH []) (vc (i6 (Route.checkS a.path))) (ofH [])] 58 [(4, vc (i6 (Route.checkS a.path)))] [] (Route.Check_c a.path) ?_
    exact gT (vc (i6 (Route.checkS a.path))) (by first | (subst_vars; rfl) | (subst_vars; rw [key16]; rfl) | (unfold fieldS; rw [if_neg (by assumption), if_neg (by assumption), if_neg (by assumption), if_neg (by assumption), if_neg (by assumption), if_neg (by assumption), if_neg (by assumption), if_neg (by assumption), if_neg (by assumption)]))
   ·
    refine gS [] [] 58 [(2, vp 2 0), (5, vc (i3 c)), (23, vc (bo (decide (c = 113))))] [(2, AObj.row (rwA a))] trivial ?_
    refine gC (c = 113) (fun hc4 => ?_) fun hc4 => ?_
    ·
     refine gS [(2, CE.call [] [] (vc (i6 (Route.checkS a.other))) [])] [Spec Tryz.prog 45 [tc (st a.other)] (ofH []) (vc (i6 (Route.checkS a.other))) (ofH [])] 58 [(4, vc (i6 (Route.checkS a.other)))] [] (Route.Check_c a.other) ?_
     exact gT (vc (i6 (Route.checkS a.other))) (by first | (subst_vars; rfl) | (subst_vars; rw [key16]; rfl) | (unfold fieldS; rw [if_neg (by assumption), if_neg (by assumption), if_neg (by assumption), if_neg (by assumption), if_neg (by assumption), if_neg (by assumption), if_neg (by assumption), if_neg (by assumption), if_neg (by assumption)]))
    ·
     refine gS [] [] 58 [(2, vp 2 0), (5, vc (i3 c)), (28, vc (bo (decide (c = 110))))] [(2, AObj.row (rwA a))] trivial ?_
     refine gC (c = 110) (fun hc5 => ?_) fun hc5 => ?_
     ·
      refine gS [(2, CE.call [] [] (vc (bo (withinI a.n 0 999))) []), (3, CE.call [] [] (vc (i6 (fineS (withinI a.n 0 999)))) [])] [Spec Tryz.prog 46 [tc (i6 a.n), tc (i6 0), tc (i6 999)] (ofH []) (vc (bo (withinI a.n 0 999))) (ofH []), Spec Tryz.prog 43 [tc (bo (withinI a.n 0 999))] (ofH []) (vc (i6 (fineS (withinI a.n 0 999)))) (ofH [])] 58 [(4, vc (i6 (fineS (withinI a.n 0 999))))] [] ⟨(within_c a.n 0 999), (fine_c (withinI a.n 0 999))⟩ ?_
      exact gT (vc (i6 (fineS (withinI a.n 0 999)))) (by first | (subst_vars; rfl) | (subst_vars; rw [key16]; rfl) | (unfold fieldS; rw [if_neg (by assumption), if_neg (by assumption), if_neg (by assumption), if_neg (by assumption), if_neg (by assumption), if_neg (by assumption), if_neg (by assumption), if_neg (by assumption), if_neg (by assumption)]))
     ·
      refine gS [] [] 58 [(2, vp 2 0), (5, vc (i3 c)), (34, vc (bo (decide (c = 99))))] [(2, AObj.row (rwA a))] trivial ?_
      refine gC (c = 99) (fun hc6 => ?_) fun hc6 => ?_
      ·
       refine gS [(2, CE.call [] [] (vc (bo (withinI a.cas (-1) 999))) []), (3, CE.call [] [] (vc (i6 (fineS (withinI a.cas (-1) 999)))) [])] [Spec Tryz.prog 46 [tc (i6 a.cas), tc (i6 (-1)), tc (i6 999)] (ofH []) (vc (bo (withinI a.cas (-1) 999))) (ofH []), Spec Tryz.prog 43 [tc (bo (withinI a.cas (-1) 999))] (ofH []) (vc (i6 (fineS (withinI a.cas (-1) 999)))) (ofH [])] 58 [(4, vc (i6 (fineS (withinI a.cas (-1) 999))))] [] ⟨(within_c a.cas (-1) 999), (fine_c (withinI a.cas (-1) 999))⟩ ?_
       exact gT (vc (i6 (fineS (withinI a.cas (-1) 999)))) (by first | (subst_vars; rfl) | (subst_vars; rw [key16]; rfl) | (unfold fieldS; rw [if_neg (by assumption), if_neg (by assumption), if_neg (by assumption), if_neg (by assumption), if_neg (by assumption), if_neg (by assumption), if_neg (by assumption), if_neg (by assumption), if_neg (by assumption)]))
      ·
       refine gS [] [] 58 [(2, vp 2 0), (5, vc (i3 c)), (40, vc (bo (decide (c = 108))))] [(2, AObj.row (rwA a))] trivial ?_
       refine gC (c = 108) (fun hc7 => ?_) fun hc7 => ?_
       ·
        refine gS [(2, CE.call [] [] (vc (bo (okNs a.ns))) []), (3, CE.call [] [] (vc (i6 (fineS (okNs a.ns)))) [])] [Spec Tryz.prog 47 [tc (AL.Fnv.slI a.ns)] (ofH []) (vc (bo (okNs a.ns))) (ofH []), Spec Tryz.prog 43 [tc (bo (okNs a.ns))] (ofH []) (vc (i6 (fineS (okNs a.ns)))) (ofH [])] 58 [(4, vc (i6 (fineS (okNs a.ns))))] [] ⟨(counted_c a.ns), (fine_c (okNs a.ns))⟩ ?_
        exact gT (vc (i6 (fineS (okNs a.ns)))) (by first | (subst_vars; rfl) | (subst_vars; rw [key16]; rfl) | (unfold fieldS; rw [if_neg (by assumption), if_neg (by assumption), if_neg (by assumption), if_neg (by assumption), if_neg (by assumption), if_neg (by assumption), if_neg (by assumption), if_neg (by assumption), if_neg (by assumption)]))
       ·
        refine gS [] [] 58 [(2, vp 2 0), (5, vc (i3 c)), (46, vc (bo (decide (c = 114))))] [(2, AObj.row (rwA a))] trivial ?_
        refine gC (c = 114) (fun hc8 => ?_) fun hc8 => ?_
        ·
         refine gS [(2, CE.call [] [] (vc (i6 (Policy.checkP a.rules))) [])] [Spec Tryz.prog 48 [tc (Policy.slP a.rules)] (ofH []) (vc (i6 (Policy.checkP a.rules))) (ofH [])] 58 [(4, vc (i6 (Policy.checkP a.rules)))] [] (Policy.Check_c a.rules) ?_
         exact gT (vc (i6 (Policy.checkP a.rules))) (by first | (subst_vars; rfl) | (subst_vars; rw [key16]; rfl) | (unfold fieldS; rw [if_neg (by assumption), if_neg (by assumption), if_neg (by assumption), if_neg (by assumption), if_neg (by assumption), if_neg (by assumption), if_neg (by assumption), if_neg (by assumption), if_neg (by assumption)]))
        ·
         refine gS [] [] 58 [(2, vp 2 0), (51, vc (bo (decide (c = 107))))] [(2, AObj.row (rwA a))] trivial ?_
         refine gC (c = 107) (fun hc9 => ?_) fun hc9 => ?_
         ·
          refine gS [(4, CE.call [] [] (vc (i6 (fineS (decide ((List.length a.key : Int) = 16))))) [])] [Spec Tryz.prog 43 [tc (bo (decide ((List.length a.key : Int) = 16)))] (ofH []) (vc (i6 (fineS (decide ((List.length a.key : Int) = 16))))) (ofH [])] 58 [(4, vc (i6 (fineS (decide ((List.length a.key : Int) = 16)))))] [] (fine_c (decide ((List.length a.key : Int) = 16))) ?_
          exact gT (vc (i6 (fineS (decide ((List.length a.key : Int) = 16))))) (by first | (subst_vars; rfl) | (subst_vars; rw [key16]; rfl) | (unfold fieldS; rw [if_neg (by assumption), if_neg (by assumption), if_neg (by assumption), if_neg (by assumption), if_neg (by assumption), if_neg (by assumption), if_neg (by assumption), if_neg (by assumption), if_neg (by assumption)]))
         ·
          refine AMx.skip ?_
          refine AMx.blk ?_
          refine gS [] [] 58 [(4, vc (i6 0))] [] trivial ?_
          exact gT (vc (i6 0)) (by first | (subst_vars; rfl) | (subst_vars; rw [key16]; rfl) | (unfold fieldS; rw [if_neg (by assumption), if_neg (by assumption), if_neg (by assumption), if_neg (by assumption), if_neg (by assumption), if_neg (by assumption), if_neg (by assumption), if_neg (by assumption), if_neg (by assumption)]))
theorem f25_body : Tryz.f25.body = some (.seq (.region 0 (rg Tryz.f25 0) false) (.seq (.seq (.region 1 (rg Tryz.f25 1) false) (.block 0 (.seq (.region 2 (rg Tryz.f25 2) false) (.cond (.tmp 6) (.region 3 (rg Tryz.f25 3) false) (.seq (.region 4 (rg Tryz.f25 4) false) (.cond (.tmp 9) (.region 5 (rg Tryz.f25 5) false) (.seq (.seq (.region 6 (rg Tryz.f25 6) false) (.cond (.tmp 12) (.skip) (.region 7 (rg Tryz.f25 7) false))) (.cond (.tmp 12) (.region 8 (rg Tryz.f25 8) false) (.seq (.region 9 (rg Tryz.f25 9) false) (.cond (.tmp 16) (.region 10 (rg Tryz.f25 10) false) (.seq (.region 11 (rg Tryz.f25 11) false) (.cond (.tmp 19) (.region 12 (rg Tryz.f25 12) false) (.seq (.region 13 (rg Tryz.f25 13) false) (.cond (.tmp 22) (.region 14 (rg Tryz.f25 14) false) (.seq (.region 15 (rg Tryz.f25 15) false) (.cond (.tmp 25) (.region 16 (rg Tryz.f25 16) false) (.seq (.region 17 (rg Tryz.f25 17) false) (.cond (.tmp 28) (.region 18 (rg Tryz.f25 18) false) (.seq (.region 19 (rg Tryz.f25 19) false) (.cond (.tmp 31) (.region 20 (rg Tryz.f25 20) false) (.seq (.region 21 (rg Tryz.f25 21) false) (.cond (.tmp 34) (.region 22 (rg Tryz.f25 22) false) (.skip))))))))))))))))))))))) (.seq (.region 23 (rg Tryz.f25 23) false) (.ret)))) := by kernel_rfl
set_option maxRecDepth 100000 in
set_option maxHeartbeats 8000000 in
theorem without_c (a : AskV) (c : Int) : Pure Tryz.prog 25 [TV.agg (rwA a), tc (i3 c)] (AV.t (TV.agg (rwA (withoutS a c)))) := by
 refine Pure.of_body Tryz.func25 f25_body (by kernel_rfl) Tryz.ntmps25 (by kernel_rfl) (by kernel_rfl) ?_
 refine gS [] [] 38 [(1, vc (i3 c)), (2, vp 2 0), (4, vp 4 0)] [(2, AObj.row (rwA a)), (4, AObj.row [.s (u8 0), .s (st []), .s (st []), .s (st []), .s (i6 0), .s (i6 0), .s (bo false), .s (SC.nilsl), .s (st []), .s (SC.nilsl), .s (st [])])] trivial ?_
 refine gQ ?_
 refine gS [] [] 38 [(2, vp 2 0), (4, vp 4 0), (5, vc (i3 c))] [(2, AObj.row (rwA a)), (4, AObj.row [.s (u8 0), .s (st []), .s (st []), .s (st []), .s (i6 0), .s (i6 0), .s (bo false), .s (SC.nilsl), .s (st []), .s (SC.nilsl), .s (st [])])] trivial ?_
 refine AMx.block ?_
 refine gS [] [] 38 [(2, vp 2 0), (4, vp 4 0), (5, vc (i3 c)), (6, vc (bo (decide (c = 116))))] [(2, AObj.row (rwA a)), (4, AObj.row [.s (u8 0), .s (st []), .s (st []), .s (st []), .s (i6 0), .s (i6 0), .s (bo false), .s (SC.nilsl), .s (st []), .s (SC.nilsl), .s (st [])])] trivial ?_
 refine gC (c = 116) (fun hc1 => ?_) fun hc1 => ?_
 ·
  refine gR [] [] 38 [(2, vp 2 0), (4, vp 4 0)] [(2, AObj.row [.s (u8 a.op), .s (st []), .s (st a.path), .s (st a.other), .s (i6 a.n), .s (i6 a.cas), .s (bo a.flag), .s (AL.Fnv.slI a.ns), .s (st a.data), .s (Policy.slP a.rules), .s (st a.key)]), (4, AObj.row [.s (u8 0), .s (st []), .s (st []), .s (st []), .s (i6 0), .s (i6 0), .s (bo false), .s (SC.nilsl), .s (st []), .s (SC.nilsl), .s (st [])])] trivial ?_
  refine AMx.blk ?_
  refine gS [] [] 38 [(4, vp 4 0)] [(4, AObj.row [.s (u8 a.op), .s (st []), .s (st a.path), .s (st a.other), .s (i6 a.n), .s (i6 a.cas), .s (bo a.flag), .s (AL.Fnv.slI a.ns), .s (st a.data), .s (Policy.slP a.rules), .s (st a.key)])] trivial ?_
  exact gT (AV.t (TV.agg [.s (u8 a.op), .s (st []), .s (st a.path), .s (st a.other), .s (i6 a.n), .s (i6 a.cas), .s (bo a.flag), .s (AL.Fnv.slI a.ns), .s (st a.data), .s (Policy.slP a.rules), .s (st a.key)])) (by rw [show withoutS a c = (⟨a.op, [], a.path, a.other, a.n, a.cas, a.flag, a.ns, a.data, a.rules, a.key⟩ : AskV) from by first | (subst_vars; rfl) | (unfold withoutS; simp only [*, if_false, or_self]; done) | (unfold withoutS; simp [*])])
 ·
  refine gS [] [] 38 [(2, vp 2 0), (4, vp 4 0), (5, vc (i3 c)), (9, vc (bo (decide (c = 112))))] [(2, AObj.row (rwA a)), (4, AObj.row [.s (u8 0), .s (st []), .s (st []), .s (st []), .s (i6 0), .s (i6 0), .s (bo false), .s (SC.nilsl), .s (st []), .s (SC.nilsl), .s (st [])])] trivial ?_
  refine gC (c = 112) (fun hc2 => ?_) fun hc2 => ?_
  ·
   refine gR [] [] 38 [(2, vp 2 0), (4, vp 4 0)] [(2, AObj.row [.s (u8 a.op), .s (st a.token), .s (st []), .s (st a.other), .s (i6 a.n), .s (i6 a.cas), .s (bo a.flag), .s (AL.Fnv.slI a.ns), .s (st a.data), .s (Policy.slP a.rules), .s (st a.key)]), (4, AObj.row [.s (u8 0), .s (st []), .s (st []), .s (st []), .s (i6 0), .s (i6 0), .s (bo false), .s (SC.nilsl), .s (st []), .s (SC.nilsl), .s (st [])])] trivial ?_
   refine AMx.blk ?_
   refine gS [] [] 38 [(4, vp 4 0)] [(4, AObj.row [.s (u8 a.op), .s (st a.token), .s (st []), .s (st a.other), .s (i6 a.n), .s (i6 a.cas), .s (bo a.flag), .s (AL.Fnv.slI a.ns), .s (st a.data), .s (Policy.slP a.rules), .s (st a.key)])] trivial ?_
   exact gT (AV.t (TV.agg [.s (u8 a.op), .s (st a.token), .s (st []), .s (st a.other), .s (i6 a.n), .s (i6 a.cas), .s (bo a.flag), .s (AL.Fnv.slI a.ns), .s (st a.data), .s (Policy.slP a.rules), .s (st a.key)])) (by rw [show withoutS a c = (⟨a.op, a.token, [], a.other, a.n, a.cas, a.flag, a.ns, a.data, a.rules, a.key⟩ : AskV) from by first | (subst_vars; rfl) | (unfold withoutS; simp only [*, if_false, or_self]; done) | (unfold withoutS; simp [*])])
  ·
   refine gQ ?_
   refine gS [] [] 38 [(2, vp 2 0), (4, vp 4 0), (5, vc (i3 c)), (12, vc (bo (decide (c = 109))))] [(2, AObj.row (rwA a)), (4, AObj.row [.s (u8 0), .s (st []), .s (st []), .s (st []), .s (i6 0), .s (i6 0), .s (bo false), .s (SC.nilsl), .s (st []), .s (SC.nilsl), .s (st [])])] trivial ?_
   refine gC (c = 109) (fun hc3 => ?_) fun hc3 => ?_
   ·
    refine AMx.skip ?_
    refine gC (c = 109) (fun hc4 => ?_) fun hc4 => ?_
    ·
     refine gR [] [] 38 [(2, vp 2 0), (4, vp 4 0)] [(2, AObj.row [.s (u8 a.op), .s (st a.token), .s (st a.path), .s (st []), .s (i6 a.n), .s (i6 a.cas), .s (bo a.flag), .s (AL.Fnv.slI a.ns), .s (st a.data), .s (Policy.slP a.rules), .s (st a.key)]), (4, AObj.row [.s (u8 0), .s (st []), .s (st []), .s (st []), .s (i6 0), .s (i6 0), .s (bo false), .s (SC.nilsl), .s (st []), .s (SC.nilsl), .s (st [])])] trivial ?_
     refine AMx.blk ?_
     refine gS [] [] 38 [(4, vp 4 0)] [(4, AObj.row [.s (u8 a.op), .s (st a.token), .s (st a.path), .s (st []), .s (i6 a.n), .s (i6 a.cas), .s (bo a.flag), .s (AL.Fnv.slI a.ns), .s (st a.data), .s (Policy.slP a.rules), .s (st a.key)])] trivial ?_
     exact gT (AV.t (TV.agg [.s (u8 a.op), .s (st a.token), .s (st a.path), .s (st []), .s (i6 a.n), .s (i6 a.cas), .s (bo a.flag), .s (AL.Fnv.slI a.ns), .s (st a.data), .s (Policy.slP a.rules), .s (st a.key)])) (by rw [show withoutS a c = (⟨a.op, a.token, a.path, [], a.n, a.cas, a.flag, a.ns, a.data, a.rules, a.key⟩ : AskV) from by first | (subst_vars; rfl) | (unfold withoutS; simp only [*, if_false, or_self]; done) | (unfold withoutS; simp [*])])
    ·
     exfalso; first | exact hc3 hc4 | exact hc4 hc3 | (rw [hc4] at hc3; cases hc3) | simp_all
   ·
    refine gR [] [] 38 [(2, vp 2 0), (4, vp 4 0), (5, vc (i3 c)), (12, vc (bo (decide (c = 113))))] [(2, AObj.row (rwA a)), (4, AObj.row [.s (u8 0), .s (st []), .s (st []), .s (st []), .s (i6 0), .s (i6 0), .s (bo false), .s (SC.nilsl), .s (st []), .s (SC.nilsl), .s (st [])])] trivial ?_
    refine gC (c = 113) (fun hc5 => ?_) fun hc5 => ?_
    ·
     refine gR [] [] 38 [(2, vp 2 0), (4, vp 4 0)] [(2, AObj.row [.s (u8 a.op), .s (st a.token), .s (st a.path), .s (st []), .s (i6 a.n), .s (i6 a.cas), .s (bo a.flag), .s (AL.Fnv.slI a.ns), .s (st a.data), .s (Policy.slP a.rules), .s (st a.key)]), (4, AObj.row [.s (u8 0), .s (st []), .s (st []), .s (st []), .s (i6 0), .s (i6 0), .s (bo false), .s (SC.nilsl), .s (st []), .s (SC.nilsl), .s (st [])])] trivial ?_
     refine AMx.blk ?_
     refine gS [] [] 38 [(4, vp 4 0)] [(4, AObj.row [.s (u8 a.op), .s (st a.token), .s (st a.path), .s (st []), .s (i6 a.n), .s (i6 a.cas), .s (bo a.flag), .s (AL.Fnv.slI a.ns), .s (st a.data), .s (Policy.slP a.rules), .s (st a.key)])] trivial ?_
     exact gT (AV.t (TV.agg [.s (u8 a.op), .s (st a.token), .s (st a.path), .s (st []), .s (i6 a.n), .s (i6 a.cas), .s (bo a.flag), .s (AL.Fnv.slI a.ns), .s (st a.data), .s (Policy.slP a.rules), .s (st a.key)])) (by rw [show withoutS a c = (⟨a.op, a.token, a.path, [], a.n, a.cas, a.flag, a.ns, a.data, a.rules, a.key⟩ : AskV) from by first | (subst_vars; rfl) | (unfold withoutS; simp only [*, if_false, or_self]; done) | (unfold withoutS; simp [*])])
    ·
     refine gS [] [] 38 [(2, vp 2 0), (4, vp 4 0), (5, vc (i3 c)), (16, vc (bo (decide (c = 110))))] [(2, AObj.row (rwA a)), (4, AObj.row [.s (u8 0), .s (st []), .s (st []), .s (st []), .s (i6 0), .s (i6 0), .s (bo false), .s (SC.nilsl), .s (st []), .s (SC.nilsl), .s (st [])])] trivial ?_
     refine gC (c = 110) (fun hc6 => ?_) fun hc6 => ?_
     ·
      refine gR [] [] 38 [(2, vp 2 0), (4, vp 4 0)] [(2, AObj.row [.s (u8 a.op), .s (st a.token), .s (st a.path), .s (st a.other), .s (i6 0), .s (i6 a.cas), .s (bo a.flag), .s (AL.Fnv.slI a.ns), .s (st a.data), .s (Policy.slP a.rules), .s (st a.key)]), (4, AObj.row [.s (u8 0), .s (st []), .s (st []), .s (st []), .s (i6 0), .s (i6 0), .s (bo false), .s (SC.nilsl), .s (st []), .s (SC.nilsl), .s (st [])])] trivial ?_
      refine AMx.blk ?_
      refine gS [] [] 38 [(4, vp 4 0)] [(4, AObj.row [.s (u8 a.op), .s (st a.token), .s (st a.path), .s (st a.other), .s (i6 0), .s (i6 a.cas), .s (bo a.flag), .s (AL.Fnv.slI a.ns), .s (st a.data), .s (Policy.slP a.rules), .s (st a.key)])] trivial ?_
      exact gT (AV.t (TV.agg [.s (u8 a.op), .s (st a.token), .s (st a.path), .s (st a.other), .s (i6 0), .s (i6 a.cas), .s (bo a.flag), .s (AL.Fnv.slI a.ns), .s (st a.data), .s (Policy.slP a.rules), .s (st a.key)])) (by rw [show withoutS a c = (⟨a.op, a.token, a.path, a.other, 0, a.cas, a.flag, a.ns, a.data, a.rules, a.key⟩ : AskV) from by first | (subst_vars; rfl) | (unfold withoutS; simp only [*, if_false, or_self]; done) | (unfold withoutS; simp [*])])
     ·
      refine gS [] [] 38 [(2, vp 2 0), (4, vp 4 0), (5, vc (i3 c)), (19, vc (bo (decide (c = 99))))] [(2, AObj.row (rwA a)), (4, AObj.row [.s (u8 0), .s (st []), .s (st []), .s (st []), .s (i6 0), .s (i6 0), .s (bo false), .s (SC.nilsl), .s (st []), .s (SC.nilsl), .s (st [])])] trivial ?_
      refine gC (c = 99) (fun hc7 => ?_) fun hc7 => ?_
      ·
       refine gR [] [] 38 [(2, vp 2 0), (4, vp 4 0)] [(2, AObj.row [.s (u8 a.op), .s (st a.token), .s (st a.path), .s (st a.other), .s (i6 a.n), .s (i6 0), .s (bo a.flag), .s (AL.Fnv.slI a.ns), .s (st a.data), .s (Policy.slP a.rules), .s (st a.key)]), (4, AObj.row [.s (u8 0), .s (st []), .s (st []), .s (st []), .s (i6 0), .s (i6 0), .s (bo false), .s (SC.nilsl), .s (st []), .s (SC.nilsl), .s (st [])])] trivial ?_
       refine AMx.blk ?_
       refine gS [] [] 38 [(4, vp 4 0)] [(4, AObj.row [.s (u8 a.op), .s (st a.token), .s (st a.path), .s (st a.other), .s (i6 a.n), .s (i6 0), .s (bo a.flag), .s (AL.Fnv.slI a.ns), .s (st a.data), .s (Policy.slP a.rules), .s (st a.key)])] trivial ?_
       exact gT (AV.t (TV.agg [.s (u8 a.op), .s (st a.token), .s (st a.path), .s (st a.other), .s (i6 a.n), .s (i6 0), .s (bo a.flag), .s (AL.Fnv.slI a.ns), .s (st a.data), .s (Policy.slP a.rules), .s (st a.key)])) (by rw [show withoutS a c = (⟨a.op, a.token, a.path, a.other, a.n, 0, a.flag, a.ns, a.data, a.rules, a.key⟩ : AskV) from by first | (subst_vars; rfl) | (unfold withoutS; simp only [*, if_false, or_self]; done) | (unfold withoutS; simp [*])])
      ·
       refine gS [] [] 38 [(2, vp 2 0), (4, vp 4 0), (5, vc (i3 c)), (22, vc (bo (decide (c = 102))))] [(2, AObj.row (rwA a)), (4, AObj.row [.s (u8 0), .s (st []), .s (st []), .s (st []), .s (i6 0), .s (i6 0), .s (bo false), .s (SC.nilsl), .s (st []), .s (SC.nilsl), .s (st [])])] trivial ?_
       refine gC (c = 102) (fun hc8 => ?_) fun hc8 => ?_
       ·
        refine gR [] [] 38 [(2, vp 2 0), (4, vp 4 0)] [(2, AObj.row [.s (u8 a.op), .s (st a.token), .s (st a.path), .s (st a.other), .s (i6 a.n), .s (i6 a.cas), .s (bo false), .s (AL.Fnv.slI a.ns), .s (st a.data), .s (Policy.slP a.rules), .s (st a.key)]), (4, AObj.row [.s (u8 0), .s (st []), .s (st []), .s (st []), .s (i6 0), .s (i6 0), .s (bo false), .s (SC.nilsl), .s (st []), .s (SC.nilsl), .s (st [])])] trivial ?_
        refine AMx.blk ?_
        refine gS [] [] 38 [(4, vp 4 0)] [(4, AObj.row [.s (u8 a.op), .s (st a.token), .s (st a.path), .s (st a.other), .s (i6 a.n), .s (i6 a.cas), .s (bo false), .s (AL.Fnv.slI a.ns), .s (st a.data), .s (Policy.slP a.rules), .s (st a.key)])] trivial ?_
        exact gT (AV.t (TV.agg [.s (u8 a.op), .s (st a.token), .s (st a.path), .s (st a.other), .s (i6 a.n), .s (i6 a.cas), .s (bo false), .s (AL.Fnv.slI a.ns), .s (st a.data), .s (Policy.slP a.rules), .s (st a.key)])) (by rw [show withoutS a c = (⟨a.op, a.token, a.path, a.other, a.n, a.cas, false, a.ns, a.data, a.rules, a.key⟩ : AskV) from by first | (subst_vars; rfl) | (unfold withoutS; simp only [*, if_false, or_self]; done) | (unfold withoutS; simp [*])])
       ·
        refine gS [] [] 38 [(2, vp 2 0), (4, vp 4 0), (5, vc (i3 c)), (25, vc (bo (decide (c = 108))))] [(2, AObj.row (rwA a)), (4, AObj.row [.s (u8 0), .s (st []), .s (st []), .s (st []), .s (i6 0), .s (i6 0), .s (bo false), .s (SC.nilsl), .s (st []), .s (SC.nilsl), .s (st [])])] trivial ?_
        refine gC (c = 108) (fun hc9 => ?_) fun hc9 => ?_
        ·
         refine gR [] [] 38 [(2, vp 2 0), (4, vp 4 0)] [(2, AObj.row [.s (u8 a.op), .s (st a.token), .s (st a.path), .s (st a.other), .s (i6 a.n), .s (i6 a.cas), .s (bo a.flag), .s (SC.nilsl), .s (st a.data), .s (Policy.slP a.rules), .s (st a.key)]), (4, AObj.row [.s (u8 0), .s (st []), .s (st []), .s (st []), .s (i6 0), .s (i6 0), .s (bo false), .s (SC.nilsl), .s (st []), .s (SC.nilsl), .s (st [])])] trivial ?_
         refine AMx.blk ?_
         refine gS [] [] 38 [(4, vp 4 0)] [(4, AObj.row [.s (u8 a.op), .s (st a.token), .s (st a.path), .s (st a.other), .s (i6 a.n), .s (i6 a.cas), .s (bo a.flag), .s (SC.nilsl), .s (st a.data), .s (Policy.slP a.rules), .s (st a.key)])] trivial ?_
         refine AMx.ent (ent_row 4 (l := [.s (u8 a.op), .s (st a.token), .s (st a.path), .s (st a.other), .s (i6 a.n), .s (i6 a.cas), .s (bo a.flag), .s (SC.nilsl), .s (st a.data), .s (Policy.slP a.rules), .s (st a.key)]) (m := [.s (u8 a.op), .s (st a.token), .s (st a.path), .s (st a.other), .s (i6 a.n), .s (i6 a.cas), .s (bo a.flag), .s (AL.Fnv.slI []), .s (st a.data), .s (Policy.slP a.rules), .s (st a.key)]) (by kernel_rfl) ⟨AC.le_rfl, AC.le_rfl, AC.le_rfl, AC.le_rfl, AC.le_rfl, AC.le_rfl, AC.le_rfl, AC.le_nil, AC.le_rfl, AC.le_rfl, AC.le_rfl, trivial⟩) ?_
         exact gT (AV.t (TV.agg [.s (u8 a.op), .s (st a.token), .s (st a.path), .s (st a.other), .s (i6 a.n), .s (i6 a.cas), .s (bo a.flag), .s (AL.Fnv.slI []), .s (st a.data), .s (Policy.slP a.rules), .s (st a.key)])) (by rw [show withoutS a c = (⟨a.op, a.token, a.path, a.other, a.n, a.cas, a.flag, [], a.data, a.rules, a.key⟩ : AskV) from by first | (subst_vars; rfl) | (unfold withoutS; simp only [*, if_false, or_self]; done) | (unfold withoutS; simp [*])])
        ·
         refine gS [] [] 38 [(2, vp 2 0), (4, vp 4 0), (5, vc (i3 c)), (28, vc (bo (decide (c = 100))))] [(2, AObj.row (rwA a)), (4, AObj.row [.s (u8 0), .s (st []), .s (st []), .s (st []), .s (i6 0), .s (i6 0), .s (bo false), .s (SC.nilsl), .s (st []), .s (SC.nilsl), .s (st [])])] trivial ?_
         refine gC (c = 100) (fun hc10 => ?_) fun hc10 => ?_
         ·
          refine gR [] [] 38 [(2, vp 2 0), (4, vp 4 0)] [(2, AObj.row [.s (u8 a.op), .s (st a.token), .s (st a.path), .s (st a.other), .s (i6 a.n), .s (i6 a.cas), .s (bo a.flag), .s (AL.Fnv.slI a.ns), .s (st []), .s (Policy.slP a.rules), .s (st a.key)]), (4, AObj.row [.s (u8 0), .s (st []), .s (st []), .s (st []), .s (i6 0), .s (i6 0), .s (bo false), .s (SC.nilsl), .s (st []), .s (SC.nilsl), .s (st [])])] trivial ?_
          refine AMx.blk ?_
          refine gS [] [] 38 [(4, vp 4 0)] [(4, AObj.row [.s (u8 a.op), .s (st a.token), .s (st a.path), .s (st a.other), .s (i6 a.n), .s (i6 a.cas), .s (bo a.flag), .s (AL.Fnv.slI a.ns), .s (st []), .s (Policy.slP a.rules), .s (st a.key)])] trivial ?_
          exact gT (AV.t (TV.agg [.s (u8 a.op), .s (st a.token), .s (st a.path), .s (st a.other), .s (i6 a.n), .s (i6 a.cas), .s (bo a.flag), .s (AL.Fnv.slI a.ns), .s (st []), .s (Policy.slP a.rules), .s (st a.key)])) (by rw [show withoutS a c = (⟨a.op, a.token, a.path, a.other, a.n, a.cas, a.flag, a.ns, [], a.rules, a.key⟩ : AskV) from by first | (subst_vars; rfl) | (unfold withoutS; simp only [*, if_false, or_self]; done) | (unfold withoutS; simp [*])])
         ·
          refine gS [] [] 38 [(2, vp 2 0), (4, vp 4 0), (5, vc (i3 c)), (31, vc (bo (decide (c = 114))))] [(2, AObj.row (rwA a)), (4, AObj.row [.s (u8 0), .s (st []), .s (st []), .s (st []), .s (i6 0), .s (i6 0), .s (bo false), .s (SC.nilsl), .s (st []), .s (SC.nilsl), .s (st [])])] trivial ?_
          refine gC (c = 114) (fun hc11 => ?_) fun hc11 => ?_
          ·
           refine gR [] [] 38 [(2, vp 2 0), (4, vp 4 0)] [(2, AObj.row [.s (u8 a.op), .s (st a.token), .s (st a.path), .s (st a.other), .s (i6 a.n), .s (i6 a.cas), .s (bo a.flag), .s (AL.Fnv.slI a.ns), .s (st a.data), .s (SC.nilsl), .s (st a.key)]), (4, AObj.row [.s (u8 0), .s (st []), .s (st []), .s (st []), .s (i6 0), .s (i6 0), .s (bo false), .s (SC.nilsl), .s (st []), .s (SC.nilsl), .s (st [])])] trivial ?_
           refine AMx.blk ?_
           refine gS [] [] 38 [(4, vp 4 0)] [(4, AObj.row [.s (u8 a.op), .s (st a.token), .s (st a.path), .s (st a.other), .s (i6 a.n), .s (i6 a.cas), .s (bo a.flag), .s (AL.Fnv.slI a.ns), .s (st a.data), .s (SC.nilsl), .s (st a.key)])] trivial ?_
           refine AMx.ent (ent_row 4 (l := [.s (u8 a.op), .s (st a.token), .s (st a.path), .s (st a.other), .s (i6 a.n), .s (i6 a.cas), .s (bo a.flag), .s (AL.Fnv.slI a.ns), .s (st a.data), .s (SC.nilsl), .s (st a.key)]) (m := [.s (u8 a.op), .s (st a.token), .s (st a.path), .s (st a.other), .s (i6 a.n), .s (i6 a.cas), .s (bo a.flag), .s (AL.Fnv.slI a.ns), .s (st a.data), .s (Policy.slP []), .s (st a.key)]) (by kernel_rfl) ⟨AC.le_rfl, AC.le_rfl, AC.le_rfl, AC.le_rfl, AC.le_rfl, AC.le_rfl, AC.le_rfl, AC.le_rfl, AC.le_rfl, AC.le_nil, AC.le_rfl, trivial⟩) ?_
           exact gT (AV.t (TV.agg [.s (u8 a.op), .s (st a.token), .s (st a.path), .s (st a.other), .s (i6 a.n), .s (i6 a.cas), .s (bo a.flag), .s (AL.Fnv.slI a.ns), .s (st a.data), .s (Policy.slP []), .s (st a.key)])) (by rw [show withoutS a c = (⟨a.op, a.token, a.path, a.other, a.n, a.cas, a.flag, a.ns, a.data, [], a.key⟩ : AskV) from by first | (subst_vars; rfl) | (unfold withoutS; simp only [*, if_false, or_self]; done) | (unfold withoutS; simp [*])])
          ·
           refine gS [] [] 38 [(2, vp 2 0), (4, vp 4 0), (34, vc (bo (decide (c = 107))))] [(2, AObj.row (rwA a)), (4, AObj.row [.s (u8 0), .s (st []), .s (st []), .s (st []), .s (i6 0), .s (i6 0), .s (bo false), .s (SC.nilsl), .s (st []), .s (SC.nilsl), .s (st [])])] trivial ?_
           refine gC (c = 107) (fun hc12 => ?_) fun hc12 => ?_
           ·
            refine gR [] [] 38 [(2, vp 2 0), (4, vp 4 0)] [(2, AObj.row [.s (u8 a.op), .s (st a.token), .s (st a.path), .s (st a.other), .s (i6 a.n), .s (i6 a.cas), .s (bo a.flag), .s (AL.Fnv.slI a.ns), .s (st a.data), .s (Policy.slP a.rules), .s (st [])]), (4, AObj.row [.s (u8 0), .s (st []), .s (st []), .s (st []), .s (i6 0), .s (i6 0), .s (bo false), .s (SC.nilsl), .s (st []), .s (SC.nilsl), .s (st [])])] trivial ?_
            refine AMx.blk ?_
            refine gS [] [] 38 [(4, vp 4 0)] [(4, AObj.row [.s (u8 a.op), .s (st a.token), .s (st a.path), .s (st a.other), .s (i6 a.n), .s (i6 a.cas), .s (bo a.flag), .s (AL.Fnv.slI a.ns), .s (st a.data), .s (Policy.slP a.rules), .s (st [])])] trivial ?_
            exact gT (AV.t (TV.agg [.s (u8 a.op), .s (st a.token), .s (st a.path), .s (st a.other), .s (i6 a.n), .s (i6 a.cas), .s (bo a.flag), .s (AL.Fnv.slI a.ns), .s (st a.data), .s (Policy.slP a.rules), .s (st [])])) (by rw [show withoutS a c = (⟨a.op, a.token, a.path, a.other, a.n, a.cas, a.flag, a.ns, a.data, a.rules, []⟩ : AskV) from by first | (subst_vars; rfl) | (unfold withoutS; simp only [*, if_false, or_self]; done) | (unfold withoutS; simp [*])])
           ·
            refine AMx.skip ?_
            refine AMx.blk ?_
            refine gS [] [] 38 [(4, vp 4 0)] [(4, AObj.row (rwA a))] trivial ?_
            exact gT (AV.t (TV.agg (rwA a))) (by rw [show withoutS a c = a from by first | (subst_vars; rfl) | (unfold withoutS; simp only [*, if_false, or_self]; done) | (unfold withoutS; simp [*])])
theorem f29_body : Tryz.f29.body = some (.seq (.region 0 (rg Tryz.f29 0) false) (.seq (.seq (.region 1 (rg Tryz.f29 1) false) (.cond (.tmp 10) (.seq (.region 2 (rg Tryz.f29 2) false) (.ret)) (.skip))) (.seq (.seq (.region 3 (rg Tryz.f29 3) false) (.block 0 (.loop (.seq (.region 4 (rg Tryz.f29 4) false) (.seq (.cond (.tmp 14) (.skip) (.exit 0)) (.seq (.block 1 (.seq (.region 5 (rg Tryz.f29 5) false) (.seq (.region 6 (rg Tryz.f29 6) true) (.cond (.tmp 24) (.seq (.region 7 (rg Tryz.f29 7) false) (.ret)) (.skip))))) (.region 8 (rg Tryz.f29 8) false))))))) (.seq (.region 9 (rg Tryz.f29 9) false) (.ret))))) := by kernel_rfl
set_option maxRecDepth 100000 in
set_option maxHeartbeats 8000000 in
theorem EqualI_c (a b : List Int) : Pure Tryz.prog 29 [tc (AL.Fnv.slI a), tc (AL.Fnv.slI b)] (vc (bo (decide (a = b)))) := by
 refine Pure.of_body Tryz.func29 f29_body (by kernel_rfl) Tryz.ntmps29 (by kernel_rfl) (by kernel_rfl) ?_
 refine AMx.sl 0 (l := a) rfl (fun hl => ?_)
 simp only [maxLen] at hl
 refine gS [] [] 26 [(0, vc (AL.Fnv.slI a)), (1, vc (AL.Fnv.slI b))] [] trivial ?_
 refine gQ ?_
 refine gS [] [] 26 [(0, vc (AL.Fnv.slI a)), (1, vc (AL.Fnv.slI b)), (10, vc (bo (!decide ((List.length a : Int) = (List.length b : Int)))))] [] trivial ?_
 refine gN ((List.length a : Int) = (List.length b : Int)) (fun hc1 => ?_) fun hc1 => ?_
 ·
  refine gS [] [] 26 [(4, vc (bo false))] [] trivial ?_
  exact gT (vc (bo false)) (by rw [decide_eq_false (fun h => by subst h; simp_all)])
 ·
  refine AMx.skip ?_
  refine gQ ?_
  refine gS [] [] 26 [(0, vc (AL.Fnv.slI a)), (1, vc (AL.Fnv.slI b)), (12, vc (i6 (List.length a : Int))), (13, vc (i6 0))] [] trivial ?_
  refine AMx.block ?_
  refine AMx.ent (s' := AS.lst 26 [(0, vc (AL.Fnv.slI a)), (1, vc (AL.Fnv.slI b)), (12, vc (i6 (List.length a : Int))), (13, vc (i6 0))] []) (ent_proj [0, 1, 12, 13] []) ?_
  refine AMx.loop (fun mm ss => ∃ (i : Nat), (i ≤ a.length ∧ List.take i a = List.take i b) ∧ mm = a.length - i ∧ ss = AS.lst 26 [(0, vc (AL.Fnv.slI a)), (1, vc (AL.Fnv.slI b)), (12, vc (i6 (List.length a : Int))), (13, vc (i6 (i : Int)))] []) ⟨0, ?_, rfl, ?_⟩ ?_
  · exact ⟨by omega, rfl⟩
  · rfl
  rintro mm ss ⟨i, ⟨hI, hE⟩, rfl, rfl⟩
  refine gS [] [] 26 [(0, vc (AL.Fnv.slI a)), (1, vc (AL.Fnv.slI b)), (12, vc (i6 (List.length a : Int))), (13, vc (i6 (i : Int))), (14, vc (bo (decide ((i : Int) < (List.length a : Int)))))] [] trivial ?_
  refine gQ ?_
  refine gC ((i : Int) < (List.length a : Int)) (fun hc2 => ?_) fun hc2 => ?_
  ·
   refine AMx.skip ?_
   refine gQ ?_
   refine AMx.block ?_
   refine gS [] [] 26 [(0, vc (AL.Fnv.slI a)), (1, vc (AL.Fnv.slI b)), (5, vc (i6 (i : Int))), (12, vc (i6 (List.length a : Int))), (13, vc (i6 (i : Int)))] [] trivial ?_
   refine gY [] [] [(0 : Int) ≤ (i : Int), (i : Int) < List.length a, (0 : Int) ≤ (i : Int), (i : Int) < List.length b] 26 [(0, vc (AL.Fnv.slI a)), (1, vc (AL.Fnv.slI b)), (12, vc (i6 (List.length a : Int))), (13, vc (i6 (i : Int))), (24, vc (bo (!decide ((List.getD a i 0) = (List.getD b i 0)))))] [] mixed ⟨(show (0 : Int) ≤ (i : Int) from (by omega)), (show (i : Int) < List.length a from (by omega)), (show (0 : Int) ≤ (i : Int) from (by omega)), (show (i : Int) < List.length b from (by omega))⟩ ?_
   refine gN ((List.getD a i 0) = (List.getD b i 0)) (fun hc3 => ?_) fun hc3 => ?_
   ·
    refine gS [] [] 26 [(4, vc (bo false))] [] trivial ?_
    exact gT (vc (bo false)) (by rw [decide_eq_false (fun h => by subst h; simp_all)])
   ·
    refine AMx.skip ?_
    refine AMx.blk ?_
    refine gR [] [InR .i64 ((i : Int) + 1)] 26 [(0, vc (AL.Fnv.slI a)), (1, vc (AL.Fnv.slI b)), (12, vc (i6 (List.length a : Int))), (13, vc (i6 ((i : Int) + 1)))] [] (show InR .i64 ((i : Int) + 1) from (inR64 (by omega) (by omega))) ?_
    refine AMx.ent_inv (s' := AS.lst 26 [(0, vc (AL.Fnv.slI a)), (1, vc (AL.Fnv.slI b)), (12, vc (i6 (List.length a : Int))), (13, vc (i6 ((i : Int) + 1)))] []) (ent_proj [0, 1, 12, 13] []) ?_
    refine AMx.inv ⟨_, ?_, i + 1, ?_, rfl, ?_⟩
    rotate_left
    · exact ⟨by omega, Lib.same_step 0 a b i (by omega) (by omega) hE (by assumption)⟩
    · rfl
    · omega
  ·
   refine AMx.exit ?_
   refine AMx.code_exit ?_
   refine AMx.inv_exit ?_
   refine AMx.blk_exit ?_
   refine gS [] [] 26 [(4, vc (bo true))] [] trivial ?_
   exact gT (vc (bo true)) (by rw [decide_eq_true (Lib.same_end a b i (by omega) (by omega) hE)])
theorem f12_body : Tryz.f12.body = some (.seq (.region 0 (rg Tryz.f12 0) false) (.seq (.seq (.region 1 (rg Tryz.f12 1) false) (.cond (.tmp 19) (.seq (.region 2 (rg Tryz.f12 2) false) (.ret)) (.skip))) (.seq (.region 3 (rg Tryz.f12 3) false) (.seq (.region 4 (rg Tryz.f12 4) false) (.ret))))) := by kernel_rfl
set_option maxRecDepth 100000 in
set_option maxHeartbeats 8000000 in
theorem Same_c (a b : AskV) : Pure Tryz.prog 12 [TV.agg (rwA a), TV.agg (rwA b)] (vc (bo (decide (a = b)))) := by
 refine Pure.of_body Tryz.func12 f12_body (by kernel_rfl) Tryz.ntmps12 (by kernel_rfl) (by kernel_rfl) ?_
 refine gS [] [] 82 [(2, vp 2 0), (3, vp 3 0)] [(2, AObj.row (rwA a)), (3, AObj.row (rwA b))] trivial ?_
 refine gQ ?_
 refine gS [(4, CE.call [] [] (vc (bo (decide (a.ns = b.ns)))) []), (11, CE.call [] [] (vc (bo (decide (a.rules = b.rules)))) [])] [Spec Tryz.prog 29 [tc (AL.Fnv.slI a.ns), tc (AL.Fnv.slI b.ns)] (ofH []) (vc (bo (decide (a.ns = b.ns)))) (ofH []), ((!(decide (a.ns = b.ns))) = false) → allP [], ((!(decide (a.ns = b.ns))) = false) → allP [(!(decide (a.ns = b.ns))) = false], ((!(decide (a.ns = b.ns))) = false) → allP [], ((!(decide (a.ns = b.ns))) = false) → allP [(!(decide (a.ns = b.ns))) = false], ((!(decide (a.ns = b.ns))) = false) → allP [(!(decide (a.ns = b.ns))) = false, (!(decide (a.ns = b.ns))) = false, Spec Tryz.prog 30 [tc (Policy.slP a.rules), tc (Policy.slP b.rules)] (ofH []) (vc (bo (decide (a.rules = b.rules)))) (ofH [])], ((!(decide (a.ns = b.ns))) = false) → allP [(!(decide (a.ns = b.ns))) = false], (!(decide (a.ns = b.ns))) = false → allP [(!(decide (a.ns = b.ns))) = false]] 82 [(2, vp 2 0), (3, vp 3 0), (19, vc (bo ((!(decide (a.ns = b.ns))) || (!(decide (a.rules = b.rules))))))] [(2, AObj.row (rwA a)), (3, AObj.row (rwA b))] ⟨(EqualI_c a.ns b.ns), (fun _ => trivial), (fun hp => hp), (fun _ => trivial), (fun hp => hp), (fun hp => by have hq := hp; (try simp only [decide_eq_true_eq, decide_eq_false_iff_not, Bool.and_eq_true, Bool.or_eq_true, Bool.and_eq_false_iff, Bool.or_eq_false_iff, Bool.not_eq_true', Bool.not_eq_false', Bool.not_eq_true, Bool.not_eq_false] at hq); exact ⟨hp, hp, (Policy.Same_c a.rules b.rules)⟩), (fun hp => hp), (fun hp2 => (by first | exact hp2 | exact ⟨hp, hp2⟩))⟩ ?_
 refine gB (((!(decide (a.ns = b.ns))) || (!(decide (a.rules = b.rules))))) (fun hc1 => ?_) fun hc1 => ?_
 ·
  try simp only [xT, xF, xO, xP, xN, xM] at hc1
  refine gS [] [] 82 [(4, vc (bo false))] [] trivial ?_
  exact gT (vc (bo false)) (by rw [decide_eq_false (fun e => by subst e; simp at hc1)])
 ·
  try simp only [xT, xF, xO, xP, xN, xM] at hc1
  refine AMx.skip ?_
  refine gS [] [((decide (a.op = b.op)) = true) → allP [], ((decide (a.op = b.op)) = true) → allP [(decide (a.op = b.op)) = true], ((decide (a.op = b.op)) = true) → allP [], ((decide (a.op = b.op)) = true) → allP [(decide (a.op = b.op)) = true], ((decide (a.op = b.op)) = true) → allP [(decide (a.op = b.op)) = true, (decide (a.op = b.op)) = true], (decide (a.op = b.op)) = true → allP [(decide (a.op = b.op)) = true], (((decide (a.op = b.op)) && (decide (a.token = b.token))) = true) → allP [], (((decide (a.op = b.op)) && (decide (a.token = b.token))) = true) → allP [((decide (a.op = b.op)) && (decide (a.token = b.token))) = true], (((decide (a.op = b.op)) && (decide (a.token = b.token))) = true) → allP [], (((decide (a.op = b.op)) && (decide (a.token = b.token))) = true) → allP [((decide (a.op = b.op)) && (decide (a.token = b.token))) = true], (((decide (a.op = b.op)) && (decide (a.token = b.token))) = true) → allP [((decide (a.op = b.op)) && (decide (a.token = b.token))) = true, ((decide (a.op = b.op)) && (decide (a.token = b.token))) = true], ((decide (a.op = b.op)) && (decide (a.token = b.token))) = true → allP [((decide (a.op = b.op)) && (decide (a.token = b.token))) = true], ((((decide (a.op = b.op)) && (decide (a.token = b.token))) && (decide (a.path = b.path))) = true) → allP [], ((((decide (a.op = b.op)) && (decide (a.token = b.token))) && (decide (a.path = b.path))) = true) → allP [(((decide (a.op = b.op)) && (decide (a.token = b.token))) && (decide (a.path = b.path))) = true], ((((decide (a.op = b.op)) && (decide (a.token = b.token))) && (decide (a.path = b.path))) = true) → allP [], ((((decide (a.op = b.op)) && (decide (a.token = b.token))) && (decide (a.path = b.path))) = true) → allP [(((decide (a.op = b.op)) && (decide (a.token = b.token))) && (decide (a.path = b.path))) = true], ((((decide (a.op = b.op)) && (decide (a.token = b.token))) && (decide (a.path = b.path))) = true) → allP [(((decide (a.op = b.op)) && (decide (a.token = b.token))) && (decide (a.path = b.path))) = true, (((decide (a.op = b.op)) && (decide (a.token = b.token))) && (decide (a.path = b.path))) = true], (((decide (a.op = b.op)) && (decide (a.token = b.token))) && (decide (a.path = b.path))) = true → allP [(((decide (a.op = b.op)) && (decide (a.token = b.token))) && (decide (a.path = b.path))) = true]] 82 [(2, vp 2 0), (3, vp 3 0), (5, vc (bo ((((decide (a.op = b.op)) && (decide (a.token = b.token))) && (decide (a.path = b.path))) && (decide (a.other = b.other)))))] [(2, AObj.row (rwA a)), (3, AObj.row (rwA b))] ⟨(fun _ => trivial), (fun hp => hp), (fun _ => trivial), (fun hp => hp), (fun hp => ⟨hp, hp⟩), (fun hp2 => (by first | exact hp2 | exact ⟨hp, hp2⟩)), (fun _ => trivial), (fun hp => hp), (fun _ => trivial), (fun hp => hp), (fun hp => ⟨hp, hp⟩), (fun hp2 => (by first | exact hp2 | exact ⟨hp, hp2⟩)), (fun _ => trivial), (fun hp => hp), (fun _ => trivial), (fun hp => hp), (fun hp => ⟨hp, hp⟩), (fun hp2 => (by first | exact hp2 | exact ⟨hp, hp2⟩))⟩ ?_
  refine gS [] [(((((decide (a.op = b.op)) && (decide (a.token = b.token))) && (decide (a.path = b.path))) && (decide (a.other = b.other))) = true) → allP [], (((((decide (a.op = b.op)) && (decide (a.token = b.token))) && (decide (a.path = b.path))) && (decide (a.other = b.other))) = true) → allP [((((decide (a.op = b.op)) && (decide (a.token = b.token))) && (decide (a.path = b.path))) && (decide (a.other = b.other))) = true], (((((decide (a.op = b.op)) && (decide (a.token = b.token))) && (decide (a.path = b.path))) && (decide (a.other = b.other))) = true) → allP [], (((((decide (a.op = b.op)) && (decide (a.token = b.token))) && (decide (a.path = b.path))) && (decide (a.other = b.other))) = true) → allP [((((decide (a.op = b.op)) && (decide (a.token = b.token))) && (decide (a.path = b.path))) && (decide (a.other = b.other))) = true], (((((decide (a.op = b.op)) && (decide (a.token = b.token))) && (decide (a.path = b.path))) && (decide (a.other = b.other))) = true) → allP [((((decide (a.op = b.op)) && (decide (a.token = b.token))) && (decide (a.path = b.path))) && (decide (a.other = b.other))) = true, ((((decide (a.op = b.op)) && (decide (a.token = b.token))) && (decide (a.path = b.path))) && (decide (a.other = b.other))) = true], ((((decide (a.op = b.op)) && (decide (a.token = b.token))) && (decide (a.path = b.path))) && (decide (a.other = b.other))) = true → allP [((((decide (a.op = b.op)) && (decide (a.token = b.token))) && (decide (a.path = b.path))) && (decide (a.other = b.other))) = true], ((((((decide (a.op = b.op)) && (decide (a.token = b.token))) && (decide (a.path = b.path))) && (decide (a.other = b.other))) && (decide (a.n = b.n))) = true) → allP [], ((((((decide (a.op = b.op)) && (decide (a.token = b.token))) && (decide (a.path = b.path))) && (decide (a.other = b.other))) && (decide (a.n = b.n))) = true) → allP [(((((decide (a.op = b.op)) && (decide (a.token = b.token))) && (decide (a.path = b.path))) && (decide (a.other = b.other))) && (decide (a.n = b.n))) = true], ((((((decide (a.op = b.op)) && (decide (a.token = b.token))) && (decide (a.path = b.path))) && (decide (a.other = b.other))) && (decide (a.n = b.n))) = true) → allP [], ((((((decide (a.op = b.op)) && (decide (a.token = b.token))) && (decide (a.path = b.path))) && (decide (a.other = b.other))) && (decide (a.n = b.n))) = true) → allP [(((((decide (a.op = b.op)) && (decide (a.token = b.token))) && (decide (a.path = b.path))) && (decide (a.other = b.other))) && (decide (a.n = b.n))) = true], ((((((decide (a.op = b.op)) && (decide (a.token = b.token))) && (decide (a.path = b.path))) && (decide (a.other = b.other))) && (decide (a.n = b.n))) = true) → allP [(((((decide (a.op = b.op)) && (decide (a.token = b.token))) && (decide (a.path = b.path))) && (decide (a.other = b.other))) && (decide (a.n = b.n))) = true, (((((decide (a.op = b.op)) && (decide (a.token = b.token))) && (decide (a.path = b.path))) && (decide (a.other = b.other))) && (decide (a.n = b.n))) = true], (((((decide (a.op = b.op)) && (decide (a.token = b.token))) && (decide (a.path = b.path))) && (decide (a.other = b.other))) && (decide (a.n = b.n))) = true → allP [(((((decide (a.op = b.op)) && (decide (a.token = b.token))) && (decide (a.path = b.path))) && (decide (a.other = b.other))) && (decide (a.n = b.n))) = true], (((((((decide (a.op = b.op)) && (decide (a.token = b.token))) && (decide (a.path = b.path))) && (decide (a.other = b.other))) && (decide (a.n = b.n))) && (decide (a.cas = b.cas))) = true) → allP [], (((((((decide (a.op = b.op)) && (decide (a.token = b.token))) && (decide (a.path = b.path))) && (decide (a.other = b.other))) && (decide (a.n = b.n))) && (decide (a.cas = b.cas))) = true) → allP [((((((decide (a.op = b.op)) && (decide (a.token = b.token))) && (decide (a.path = b.path))) && (decide (a.other = b.other))) && (decide (a.n = b.n))) && (decide (a.cas = b.cas))) = true], (((((((decide (a.op = b.op)) && (decide (a.token = b.token))) && (decide (a.path = b.path))) && (decide (a.other = b.other))) && (decide (a.n = b.n))) && (decide (a.cas = b.cas))) = true) → allP [], (((((((decide (a.op = b.op)) && (decide (a.token = b.token))) && (decide (a.path = b.path))) && (decide (a.other = b.other))) && (decide (a.n = b.n))) && (decide (a.cas = b.cas))) = true) → allP [((((((decide (a.op = b.op)) && (decide (a.token = b.token))) && (decide (a.path = b.path))) && (decide (a.other = b.other))) && (decide (a.n = b.n))) && (decide (a.cas = b.cas))) = true], (((((((decide (a.op = b.op)) && (decide (a.token = b.token))) && (decide (a.path = b.path))) && (decide (a.other = b.other))) && (decide (a.n = b.n))) && (decide (a.cas = b.cas))) = true) → allP [((((((decide (a.op = b.op)) && (decide (a.token = b.token))) && (decide (a.path = b.path))) && (decide (a.other = b.other))) && (decide (a.n = b.n))) && (decide (a.cas = b.cas))) = true, ((((((decide (a.op = b.op)) && (decide (a.token = b.token))) && (decide (a.path = b.path))) && (decide (a.other = b.other))) && (decide (a.n = b.n))) && (decide (a.cas = b.cas))) = true], ((((((decide (a.op = b.op)) && (decide (a.token = b.token))) && (decide (a.path = b.path))) && (decide (a.other = b.other))) && (decide (a.n = b.n))) && (decide (a.cas = b.cas))) = true → allP [((((((decide (a.op = b.op)) && (decide (a.token = b.token))) && (decide (a.path = b.path))) && (decide (a.other = b.other))) && (decide (a.n = b.n))) && (decide (a.cas = b.cas))) = true], ((((((((decide (a.op = b.op)) && (decide (a.token = b.token))) && (decide (a.path = b.path))) && (decide (a.other = b.other))) && (decide (a.n = b.n))) && (decide (a.cas = b.cas))) && (a.flag == b.flag)) = true) → allP [], ((((((((decide (a.op = b.op)) && (decide (a.token = b.token))) && (decide (a.path = b.path))) && (decide (a.other = b.other))) && (decide (a.n = b.n))) && (decide (a.cas = b.cas))) && (a.flag == b.flag)) = true) → allP [(((((((decide (a.op = b.op)) && (decide (a.token = b.token))) && (decide (a.path = b.path))) && (decide (a.other = b.other))) && (decide (a.n = b.n))) && (decide (a.cas = b.cas))) && (a.flag == b.flag)) = true], ((((((((decide (a.op = b.op)) && (decide (a.token = b.token))) && (decide (a.path = b.path))) && (decide (a.other = b.other))) && (decide (a.n = b.n))) && (decide (a.cas = b.cas))) && (a.flag == b.flag)) = true) → allP [], ((((((((decide (a.op = b.op)) && (decide (a.token = b.token))) && (decide (a.path = b.path))) && (decide (a.other = b.other))) && (decide (a.n = b.n))) && (decide (a.cas = b.cas))) && (a.flag == b.flag)) = true) → allP [(((((((decide (a.op = b.op)) && (decide (a.token = b.token))) && (decide (a.path = b.path))) && (decide (a.other = b.other))) && (decide (a.n = b.n))) && (decide (a.cas = b.cas))) && (a.flag == b.flag)) = true], ((((((((decide (a.op = b.op)) && (decide (a.token = b.token))) && (decide (a.path = b.path))) && (decide (a.other = b.other))) && (decide (a.n = b.n))) && (decide (a.cas = b.cas))) && (a.flag == b.flag)) = true) → allP [(((((((decide (a.op = b.op)) && (decide (a.token = b.token))) && (decide (a.path = b.path))) && (decide (a.other = b.other))) && (decide (a.n = b.n))) && (decide (a.cas = b.cas))) && (a.flag == b.flag)) = true, (((((((decide (a.op = b.op)) && (decide (a.token = b.token))) && (decide (a.path = b.path))) && (decide (a.other = b.other))) && (decide (a.n = b.n))) && (decide (a.cas = b.cas))) && (a.flag == b.flag)) = true], (((((((decide (a.op = b.op)) && (decide (a.token = b.token))) && (decide (a.path = b.path))) && (decide (a.other = b.other))) && (decide (a.n = b.n))) && (decide (a.cas = b.cas))) && (a.flag == b.flag)) = true → allP [(((((((decide (a.op = b.op)) && (decide (a.token = b.token))) && (decide (a.path = b.path))) && (decide (a.other = b.other))) && (decide (a.n = b.n))) && (decide (a.cas = b.cas))) && (a.flag == b.flag)) = true], (((((((((decide (a.op = b.op)) && (decide (a.token = b.token))) && (decide (a.path = b.path))) && (decide (a.other = b.other))) && (decide (a.n = b.n))) && (decide (a.cas = b.cas))) && (a.flag == b.flag)) && (decide (a.data = b.data))) = true) → allP [], (((((((((decide (a.op = b.op)) && (decide (a.token = b.token))) && (decide (a.path = b.path))) && (decide (a.other = b.other))) && (decide (a.n = b.n))) && (decide (a.cas = b.cas))) && (a.flag == b.flag)) && (decide (a.data = b.data))) = true) → allP [((((((((decide (a.op = b.op)) && (decide (a.token = b.token))) && (decide (a.path = b.path))) && (decide (a.other = b.other))) && (decide (a.n = b.n))) && (decide (a.cas = b.cas))) && (a.flag == b.flag)) && (decide (a.data = b.data))) = true], (((((((((decide (a.op = b.op)) && (decide (a.token = b.token))) && (decide (a.path = b.path))) && (decide (a.other = b.other))) && (decide (a.n = b.n))) && (decide (a.cas = b.cas))) && (a.flag == b.flag)) && (decide (a.data = b.data))) = true) → allP [], (((((((((decide (a.op = b.op)) && (decide (a.token = b.token))) && (decide (a.path = b.path))) && (decide (a.other = b.other))) && (decide (a.n = b.n))) && (decide (a.cas = b.cas))) && (a.flag == b.flag)) && (decide (a.data = b.data))) = true) → allP [((((((((decide (a.op = b.op)) && (decide (a.token = b.token))) && (decide (a.path = b.path))) && (decide (a.other = b.other))) && (decide (a.n = b.n))) && (decide (a.cas = b.cas))) && (a.flag == b.flag)) && (decide (a.data = b.data))) = true], (((((((((decide (a.op = b.op)) && (decide (a.token = b.token))) && (decide (a.path = b.path))) && (decide (a.other = b.other))) && (decide (a.n = b.n))) && (decide (a.cas = b.cas))) && (a.flag == b.flag)) && (decide (a.data = b.data))) = true) → allP [((((((((decide (a.op = b.op)) && (decide (a.token = b.token))) && (decide (a.path = b.path))) && (decide (a.other = b.other))) && (decide (a.n = b.n))) && (decide (a.cas = b.cas))) && (a.flag == b.flag)) && (decide (a.data = b.data))) = true, ((((((((decide (a.op = b.op)) && (decide (a.token = b.token))) && (decide (a.path = b.path))) && (decide (a.other = b.other))) && (decide (a.n = b.n))) && (decide (a.cas = b.cas))) && (a.flag == b.flag)) && (decide (a.data = b.data))) = true], ((((((((decide (a.op = b.op)) && (decide (a.token = b.token))) && (decide (a.path = b.path))) && (decide (a.other = b.other))) && (decide (a.n = b.n))) && (decide (a.cas = b.cas))) && (a.flag == b.flag)) && (decide (a.data = b.data))) = true → allP [((((((((decide (a.op = b.op)) && (decide (a.token = b.token))) && (decide (a.path = b.path))) && (decide (a.other = b.other))) && (decide (a.n = b.n))) && (decide (a.cas = b.cas))) && (a.flag == b.flag)) && (decide (a.data = b.data))) = true]] 82 [(4, vc (bo (((((((((decide (a.op = b.op)) && (decide (a.token = b.token))) && (decide (a.path = b.path))) && (decide (a.other = b.other))) && (decide (a.n = b.n))) && (decide (a.cas = b.cas))) && (a.flag == b.flag)) && (decide (a.data = b.data))) && (decide (a.key = b.key)))))] [] ⟨(fun _ => trivial), (fun hp => hp), (fun _ => trivial), (fun hp => hp), (fun hp => ⟨hp, hp⟩), (fun hp2 => (by first | exact hp2 | exact ⟨hp, hp2⟩)), (fun _ => trivial), (fun hp => hp), (fun _ => trivial), (fun hp => hp), (fun hp => ⟨hp, hp⟩), (fun hp2 => (by first | exact hp2 | exact ⟨hp, hp2⟩)), (fun _ => trivial), (fun hp => hp), (fun _ => trivial), (fun hp => hp), (fun hp => ⟨hp, hp⟩), (fun hp2 => (by first | exact hp2 | exact ⟨hp, hp2⟩)), (fun _ => trivial), (fun hp => hp), (fun _ => trivial), (fun hp => hp), (fun hp => ⟨hp, hp⟩), (fun hp2 => (by first | exact hp2 | exact ⟨hp, hp2⟩)), (fun _ => trivial), (fun hp => hp), (fun _ => trivial), (fun hp => hp), (fun hp => ⟨hp, hp⟩), (fun hp2 => (by first | exact hp2 | exact ⟨hp, hp2⟩))⟩ ?_
  exact gT (vc (bo (((((((((decide (a.op = b.op)) && (decide (a.token = b.token))) && (decide (a.path = b.path))) && (decide (a.other = b.other))) && (decide (a.n = b.n))) && (decide (a.cas = b.cas))) && (a.flag == b.flag)) && (decide (a.data = b.data))) && (decide (a.key = b.key))))) (by rw [same_eq (by simp_all)])
end AL.Ask
namespace AL.Ask
open Go AL
open AL.Sep (splitC joinC)
open AL.Policy (RuleV textP parseP checkP)
open AL.Rows (namedS)
set_option linter.unusedVariables false
set_option linter.unusedSimpArgs false
theorem fld_n {a : AskV} {c : Int} (hf : fieldS a c = 0) (h : c = 110) : 0 ≤ a.n ∧ a.n ≤ 999 := by
  subst h
  have hw := fine_0.1 (show fineS (withinI a.n 0 999) = 0 from hf)
  unfold withinI at hw
  simpa only [Bool.and_eq_true, decide_eq_true_eq] using hw
theorem fld_c {a : AskV} {c : Int} (hf : fieldS a c = 0) (h : c = 99) : -1 ≤ a.cas ∧ a.cas ≤ 999 := by
  subst h
  have hw := fine_0.1 (show fineS (withinI a.cas (-1) 999) = 0 from hf)
  unfold withinI at hw
  simpa only [Bool.and_eq_true, decide_eq_true_eq] using hw
theorem fld_l {a : AskV} {c : Int} (hf : fieldS a c = 0) (h : c = 108) : a.ns.length ≤ 6 ∧ ∀ n ∈ a.ns, 0 ≤ n ∧ n ≤ 999 := by
  subst h
  have hw := fine_0.1 (show fineS (okNs a.ns) = 0 from hf)
  exact ⟨(ns_mem hw).1, ns_in hw⟩
theorem fld_k {a : AskV} {c : Int} (hf : fieldS a c = 0) (h : c = 107) : a.key.length = 16 := by
  subst h
  exact of_decide_eq_true (fine_0.1 (show fineS (decide (a.key.length = 16)) = 0 from hf))
theorem orN_len (s : Bytes) : (orN s).length ≤ s.length + 1 := by unfold orN; split <;> simp
theorem name_len {s : Bytes} (h : namedS s = true) : s.length ≤ 8 := by
  unfold Rows.namedS at h
  simp only [Bool.and_eq_true, decide_eq_true_eq] at h
  exact h.2.1
theorem path_len {s : Bytes} (h : Route.checkS s = 0) : s.length ≤ 64 := by
  apply Classical.byContradiction
  intro hn
  rw [Route.check_big (by omega)] at h
  omega
theorem lay_len {a : AskV} {c : Int} (h : LetI c) (hf : fieldS a c = 0) : (layA a c).length ≤ 1001 + 2 * a.data.length := by
  rcases h with h | h | h | h | h | h | h | h | h | h | h <;> subst h
  · have := name_len (fine_0.1 hf); show a.token.length ≤ _; omega
  · have := path_len hf; show a.path.length ≤ _; omega
  · have := name_len (fine_0.1 hf); show a.other.length ≤ _; omega
  · have := path_len hf; show a.other.length ≤ _; omega
  · have := num_le3 a.n; show (numS a.n).length ≤ _; omega
  · have := num_le3 a.cas
    show (if a.cas = -1 then [45] else numS a.cas).length ≤ _
    split
    · simp; omega
    · omega
  · show (if a.flag = true then [49] else [48]).length ≤ _
    split <;> (simp; omega)
  · have h1 := (fld_l hf rfl).1
    have h2 := list_len a.ns
    have h3 := orN_len (listS a.ns)
    show (orN (listS a.ns)).length ≤ _
    unfold listS at *
    omega
  · have h3 := orN_len (hexS a.data)
    rw [hex_len] at h3
    show (orN (hexS a.data)).length ≤ _
    omega
  · have h3 := orN_len (textP a.rules).1
    have h4 := Policy.textP_len a.rules
    show (orN (textP a.rules).1).length ≤ _
    omega
  · have h3 := fld_k hf rfl
    show (hexS a.key).length ≤ _
    rw [hex_len]; omega
theorem kind_len (op : Int) : (kindS op).length ≤ 4 ∧ (wordS op).length ≤ 8 := by
  have k1 : ∀ l ∈ kindsL, l.length ≤ 4 := by decide
  have k2 : ∀ l ∈ wordsL, l.length ≤ 8 := by decide
  constructor
  · by_cases h : kindS op = []
    · rw [h]; simp
    · exact k1 _ (getD_in h)
  · by_cases h : wordS op = []
    · rw [h]; simp
    · exact k2 _ (getD_in h)
theorem line_len {a : AskV} (hf : fieldsC a (kindS a.op) = 0) (k : Nat) : (lineF a (List.take k (kindS a.op))).length ≤ 8 + 4 * (1002 + 2 * a.data.length) := by
  have key : ∀ l : Bytes, (∀ c ∈ l, LetI (c.toNat : Int) ∧ fieldS a (c.toNat : Int) = 0) → (l.flatMap fun c => 32 :: layA a (c.toNat : Int)).length ≤ l.length * (1002 + 2 * a.data.length) := by
    intro l
    induction l with
    | nil => intro _; simp
    | cons c l ih =>
      intro h
      have h1 := lay_len (h c (by simp)).1 (h c (by simp)).2
      have h2 := ih fun d hd => h d (List.mem_cons_of_mem _ hd)
      rw [List.flatMap_cons, List.length_append, List.length_cons, List.length_cons, Nat.succ_mul]
      omega
  obtain ⟨k1, k2⟩ := kind_len a.op
  have h1 := key (List.take k (kindS a.op)) fun c hc => ⟨(kind_let a.op).1 c (List.mem_of_mem_take hc), fields_all hf c (List.mem_of_mem_take hc)⟩
  have h2 : (List.take k (kindS a.op)).length ≤ 4 := by rw [List.length_take]; omega
  have h3 : (List.take k (kindS a.op)).length * (1002 + 2 * a.data.length) ≤ 4 * (1002 + 2 * a.data.length) := Nat.mul_le_mul_right _ h2
  unfold lineF
  rw [List.length_append]
  omega
theorem check_22 {a : AskV} (h : wordS a.op = []) : checkA a = 22 := if_pos h
theorem check_f {a : AskV} {k : Nat} (h : ¬ wordS a.op = []) (hk : k < (kindS a.op).length) (hN : FieldsAt a (kindS a.op) k) (h0 : ¬ fieldS a ((List.getD (kindS a.op) k 0).toNat : Int) = 0) : checkA a = fieldS a ((List.getD (kindS a.op) k 0).toNat : Int) := by
  have e := fields_bad hk hN h0
  unfold checkA
  rw [if_neg h, if_pos (by rw [e]; exact h0), e]
theorem check_2 {a : AskV} (h : ¬ wordS a.op = []) (h2 : fieldsC a (kindS a.op) = 0) (h3 : ¬ bareF a (kindS a.op) = askd) : checkA a = 2 := by
  unfold checkA
  rw [if_neg h, if_neg (fun q => q h2), if_pos h3]
theorem check_5 {a : AskV} (h : ¬ wordS a.op = []) (h2 : fieldsC a (kindS a.op) = 0) (h3 : bareF a (kindS a.op) = askd) (h4 : (400 : Int) < (List.length (lineA a) : Int)) : checkA a = 5 := by
  unfold checkA
  rw [if_neg h, if_neg (fun q => q h2), if_neg (fun q => q h3), if_pos (by omega)]
theorem check_0 {a : AskV} (h : ¬ wordS a.op = []) (h2 : fieldsC a (kindS a.op) = 0) (h3 : bareF a (kindS a.op) = askd) (h4 : ¬ (400 : Int) < (List.length (lineA a) : Int)) : checkA a = 0 := by
  unfold checkA
  rw [if_neg h, if_neg (fun q => q h2), if_neg (fun q => q h3), if_neg (by omega)]
theorem getD_drop1 (l : List Bytes) (k : Nat) : List.getD (List.drop 1 l) k [] = List.getD l (1 + k) [] := by
  rw [List.getD_eq_getElem?_getD, List.getElem?_drop, List.getD_eq_getElem?_getD]
theorem readat_next {a0 a : AskV} {l : Bytes} {ws : List Bytes} {k : Nat} (h : k < l.length) (hN : ReadAt a0 l (List.drop 1 ws) k a) (h0 : (readA a ((List.getD l k 0).toNat : Int) (List.getD ws (1 + k) [])).2 = 0) : ReadAt a0 l (List.drop 1 ws) (k + 1) (readA a ((List.getD l k 0).toNat : Int) (List.getD ws (1 + k) [])).1 := by
  rw [← getD_drop1] at *
  exact readat_step h hN h0
theorem parse_5 {s : Bytes} (h : (400 : Int) < (List.length s : Int)) : parseA s = (askd, 5) := if_pos (by omega)
theorem parse_22 {s : Bytes} {op : Int} (hop : op = opS (List.getD (splitC 32 s) 0 [])) (h : ¬ (400 : Int) < (List.length s : Int)) (h0 : op = 0) : parseA s = (askd, 22) := by
  unfold parseA
  rw [if_neg (by omega), ← hop, if_pos h0]
theorem parse_4 {s : Bytes} {op : Int} (hop : op = opS (List.getD (splitC 32 s) 0 [])) (h : ¬ (400 : Int) < (List.length s : Int)) (h0 : ¬ op = 0) (hn : ¬ (List.length (splitC 32 s) : Int) = 1 + (List.length (kindS op) : Int)) : parseA s = (askd, 4) := by
  unfold parseA
  rw [if_neg (by omega), ← hop, if_neg h0, if_pos (by omega)]
theorem parse_e {s : Bytes} {op : Int} {k : Nat} {b : AskV} (hop : op = opS (List.getD (splitC 32 s) 0 [])) (h : ¬ (400 : Int) < (List.length s : Int)) (h0 : ¬ op = 0) (hn : (List.length (splitC 32 s) : Int) = 1 + (List.length (kindS op) : Int)) (hk : k < (kindS op).length)
    (hN : ReadAt { askd with op := op } (kindS op) (List.drop 1 (splitC 32 s)) k b) (he : ¬ (readA b ((List.getD (kindS op) k 0).toNat : Int) (List.getD (splitC 32 s) (1 + k) [])).2 = 0) : parseA s = (askd, (readA b ((List.getD (kindS op) k 0).toNat : Int) (List.getD (splitC 32 s) (1 + k) [])).2) := by
  rw [← getD_drop1] at *
  unfold parseA
  rw [if_neg (by omega), ← hop, if_neg h0, if_neg (fun q => q (by omega))]
  exact readat_bad hk hN he
theorem parse_0 {s : Bytes} {op : Int} {k : Nat} {b : AskV} (hop : op = opS (List.getD (splitC 32 s) 0 [])) (h : ¬ (400 : Int) < (List.length s : Int)) (h0 : ¬ op = 0) (hn : (List.length (splitC 32 s) : Int) = 1 + (List.length (kindS op) : Int)) (hk : (kindS op).length ≤ k)
    (hN : ReadAt { askd with op := op } (kindS op) (List.drop 1 (splitC 32 s)) k b) : parseA s = (b, 0) := by
  unfold parseA
  rw [if_neg (by omega), ← hop, if_neg h0, if_neg (fun q => q (by omega))]
  exact readat_end hk hN
theorem read_c {a : AskV} {s : Bytes} (h : ¬ s = [45]) : readA a 99 s = ({ a with cas := scanN s }, fineS (decide (s = [45]) || decide (0 ≤ scanN s))) := by
  show (if s = [45] then _ else _) = _
  rw [if_neg h, decide_eq_false h]; rfl
theorem read_k (a : AskV) (s : Bytes) : readA a 107 s = ({ a with key := (unhexS s).1 }, fineS ((unhexS s).2 && decide ((List.length (unhexS s).1 : Int) = 16))) := by
  rw [key16]; rfl
theorem read_l {a : AskV} {s : Bytes} (h : ¬ s = [45]) : readA a 108 s = ({ a with ns := numbersS s }, fineS (okNs (numbersS s))) := if_neg h
theorem read_d {a : AskV} {s : Bytes} (h : ¬ s = [45]) : readA a 100 s = ({ a with data := (unhexS s).1 }, fineS ((unhexS s).2 && !decide (s = []))) := if_neg h
theorem read_r {a : AskV} {s : Bytes} (h : ¬ s = [45]) (h0 : ¬ s = []) : readA a 114 s = ({ a with rules := (parseP s).1 }, (parseP s).2) := by
  show (if s = [45] then _ else if s = [] then _ else _) = _
  rw [if_neg h, if_neg h0]
end AL.Ask
namespace AL.Ask
open Go Go.Proofs AL
set_option linter.unusedVariables false
set_option linter.unusedSimpArgs false
theorem f41_body : Tryz.f41.body = some (.seq (.region 0 (rg Tryz.f41 0) false) (.seq (.seq (.region 1 (rg Tryz.f41 1) false) (.block 0 (.seq (.region 2 (rg Tryz.f41 2) false) (.cond (.tmp 8) (.seq (.region 3 (rg Tryz.f41 3) false) (.ret)) (.seq (.region 4 (rg Tryz.f41 4) false) (.cond (.tmp 12) (.seq (.region 5 (rg Tryz.f41 5) false) (.ret)) (.seq (.seq (.region 6 (rg Tryz.f41 6) false) (.cond (.tmp 16) (.skip) (.region 7 (rg Tryz.f41 7) false))) (.cond (.tmp 16) (.seq (.region 8 (rg Tryz.f41 8) false) (.ret)) (.seq (.region 9 (rg Tryz.f41 9) false) (.cond (.tmp 21) (.seq (.region 10 (rg Tryz.f41 10) false) (.ret)) (.seq (.region 11 (rg Tryz.f41 11) false) (.cond (.tmp 26) (.seq (.seq (.region 12 (rg Tryz.f41 12) false) (.cond (.tmp 30) (.seq (.region 13 (rg Tryz.f41 13) false) (.ret)) (.skip))) (.seq (.region 14 (rg Tryz.f41 14) false) (.ret))) (.seq (.region 15 (rg Tryz.f41 15) false) (.cond (.tmp 34) (.seq (.seq (.region 16 (rg Tryz.f41 16) false) (.cond (.tmp 37) (.seq (.region 17 (rg Tryz.f41 17) false) (.ret)) (.skip))) (.seq (.region 18 (rg Tryz.f41 18) false) (.ret))) (.seq (.region 19 (rg Tryz.f41 19) false) (.cond (.tmp 38) (.seq (.region 20 (rg Tryz.f41 20) false) (.ret)) (.seq (.region 21 (rg Tryz.f41 21) false) (.cond (.tmp 44) (.seq (.region 22 (rg Tryz.f41 22) false) (.ret)) (.seq (.region 23 (rg Tryz.f41 23) false) (.cond (.tmp 50) (.seq (.region 24 (rg Tryz.f41 24) false) (.seq (.region 25 (rg Tryz.f41 25) false) (.ret))) (.skip))))))))))))))))))))) (.seq (.region 26 (rg Tryz.f41 26) false) (.ret)))) := by kernel_rfl
set_option maxRecDepth 100000 in
set_option maxHeartbeats 8000000 in
theorem lay_c (a : AskV) (c : Int) (hc : LetI c) (hf : fieldS a c = 0) (hb : a.data.length ≤ 100000) : Pure Tryz.prog 41 [TV.agg (rwA a), tc (i3 c)] (vc (st (layA a c))) := by
 refine Pure.of_body Tryz.func41 f41_body (by kernel_rfl) Tryz.ntmps41 (by kernel_rfl) (by kernel_rfl) ?_
 refine gS [] [] 63 [(1, vc (i3 c)), (2, vp 2 0)] [(2, AObj.row (rwA a))] trivial ?_
 refine gQ ?_
 refine gS [] [] 63 [(2, vp 2 0), (7, vc (i3 c))] [(2, AObj.row (rwA a))] trivial ?_
 refine AMx.block ?_
 refine gS [] [] 63 [(2, vp 2 0), (7, vc (i3 c)), (8, vc (bo (decide (c = 116))))] [(2, AObj.row (rwA a))] trivial ?_
 refine gC (c = 116) (fun hc1 => ?_) fun hc1 => ?_
 ·
  refine gS [] [] 63 [(4, vc (st a.token))] [] trivial ?_
  exact gT (vc (st a.token)) (by first | (subst_vars; rfl) | (subst_vars; show _ = vc (st (if a.cas = -1 then [45] else numS a.cas)); first | rw [if_pos (by assumption)] | rw [if_neg (by assumption)]) | (subst_vars; show _ = vc (st (if a.flag = true then [49] else [48])); first | rw [if_pos (by assumption)] | rw [if_neg (by simp_all)]) | (obtain rfl : c = 107 := (by unfold LetI at hc; omega); rfl))
 ·
  refine gS [] [] 63 [(2, vp 2 0), (7, vc (i3 c)), (12, vc (bo (decide (c = 112))))] [(2, AObj.row (rwA a))] trivial ?_
  refine gC (c = 112) (fun hc2 => ?_) fun hc2 => ?_
  ·
   refine gS [] [] 63 [(4, vc (st a.path))] [] trivial ?_
   exact gT (vc (st a.path)) (by first | (subst_vars; rfl) | (subst_vars; show _ = vc (st (if a.cas = -1 then [45] else numS a.cas)); first | rw [if_pos (by assumption)] | rw [if_neg (by assumption)]) | (subst_vars; show _ = vc (st (if a.flag = true then [49] else [48])); first | rw [if_pos (by assumption)] | rw [if_neg (by simp_all)]) | (obtain rfl : c = 107 := (by unfold LetI at hc; omega); rfl))
  ·
   refine gQ ?_
   refine gS [] [] 63 [(2, vp 2 0), (7, vc (i3 c)), (16, vc (bo (decide (c = 109))))] [(2, AObj.row (rwA a))] trivial ?_
   refine gC (c = 109) (fun hc3 => ?_) fun hc3 => ?_
   ·
    refine AMx.skip ?_
    refine gC (c = 109) (fun hc4 => ?_) fun hc4 => ?_
    ·
     refine gS [] [] 63 [(4, vc (st a.other))] [] trivial ?_
     exact gT (vc (st a.other)) (by first | (subst_vars; rfl) | (subst_vars; show _ = vc (st (if a.cas = -1 then [45] else numS a.cas)); first | rw [if_pos (by assumption)] | rw [if_neg (by assumption)]) | (subst_vars; show _ = vc (st (if a.flag = true then [49] else [48])); first | rw [if_pos (by assumption)] | rw [if_neg (by simp_all)]) | (obtain rfl : c = 107 := (by unfold LetI at hc; omega); rfl))
    ·
     exfalso; first | exact hc3 hc4 | exact hc4 hc3 | (rw [hc4] at hc3; cases hc3) | simp_all
   ·
    refine gR [] [] 63 [(2, vp 2 0), (7, vc (i3 c)), (16, vc (bo (decide (c = 113))))] [(2, AObj.row (rwA a))] trivial ?_
    refine gC (c = 113) (fun hc5 => ?_) fun hc5 => ?_
    ·
     refine gS [] [] 63 [(4, vc (st a.other))] [] trivial ?_
     exact gT (vc (st a.other)) (by first | (subst_vars; rfl) | (subst_vars; show _ = vc (st (if a.cas = -1 then [45] else numS a.cas)); first | rw [if_pos (by assumption)] | rw [if_neg (by assumption)]) | (subst_vars; show _ = vc (st (if a.flag = true then [49] else [48])); first | rw [if_pos (by assumption)] | rw [if_neg (by simp_all)]) | (obtain rfl : c = 107 := (by unfold LetI at hc; omega); rfl))
    ·
     refine gS [] [] 63 [(2, vp 2 0), (7, vc (i3 c)), (21, vc (bo (decide (c = 110))))] [(2, AObj.row (rwA a))] trivial ?_
     refine gC (c = 110) (fun hc6 => ?_) fun hc6 => ?_
     ·
      refine gS [(2, CE.call [] [] (vc (st (numS a.n))) [])] [Spec Tryz.prog 64 [tc (i6 a.n)] (ofH []) (vc (st (numS a.n))) (ofH [])] 63 [(4, vc (st (numS a.n)))] [] (number_c a.n (by first | omega | (have z := fld_n hf (by omega); omega) | (have z := fld_c hf (by omega); omega) | (have z := (fld_l hf (by omega)).1; omega) | (have z := fld_k hf (by unfold LetI at hc; omega); omega)) (by first | omega | (have z := fld_n hf (by omega); omega) | (have z := fld_c hf (by omega); omega) | (have z := (fld_l hf (by omega)).1; omega) | (have z := fld_k hf (by unfold LetI at hc; omega); omega))) ?_
      exact gT (vc (st (numS a.n))) (by first | (subst_vars; rfl) | (subst_vars; show _ = vc (st (if a.cas = -1 then [45] else numS a.cas)); first | rw [if_pos (by assumption)] | rw [if_neg (by assumption)]) | (subst_vars; show _ = vc (st (if a.flag = true then [49] else [48])); first | rw [if_pos (by assumption)] | rw [if_neg (by simp_all)]) | (obtain rfl : c = 107 := (by unfold LetI at hc; omega); rfl))
     ·
      refine gS [] [] 63 [(2, vp 2 0), (7, vc (i3 c)), (26, vc (bo (decide (c = 99))))] [(2, AObj.row (rwA a))] trivial ?_
      refine gC (c = 99) (fun hc7 => ?_) fun hc7 => ?_
      ·
       refine gQ ?_
       refine gS [] [] 63 [(2, vp 2 0), (30, vc (bo (decide (a.cas = (-1)))))] [(2, AObj.row (rwA a))] trivial ?_
       refine gC (a.cas = (-1)) (fun hc8 => ?_) fun hc8 => ?_
       ·
        refine gS [] [] 63 [(4, vc (st [45]))] [] trivial ?_
        exact gT (vc (st [45])) (by first | (subst_vars; rfl) | (subst_vars; show _ = vc (st (if a.cas = -1 then [45] else numS a.cas)); first | rw [if_pos (by assumption)] | rw [if_neg (by assumption)]) | (subst_vars; show _ = vc (st (if a.flag = true then [49] else [48])); first | rw [if_pos (by assumption)] | rw [if_neg (by simp_all)]) | (obtain rfl : c = 107 := (by unfold LetI at hc; omega); rfl))
       ·
        refine AMx.skip ?_
        refine gS [(2, CE.call [] [] (vc (st (numS a.cas))) [])] [Spec Tryz.prog 64 [tc (i6 a.cas)] (ofH []) (vc (st (numS a.cas))) (ofH [])] 63 [(4, vc (st (numS a.cas)))] [] (number_c a.cas (by first | omega | (have z := fld_n hf (by omega); omega) | (have z := fld_c hf (by omega); omega) | (have z := (fld_l hf (by omega)).1; omega) | (have z := fld_k hf (by unfold LetI at hc; omega); omega)) (by first | omega | (have z := fld_n hf (by omega); omega) | (have z := fld_c hf (by omega); omega) | (have z := (fld_l hf (by omega)).1; omega) | (have z := fld_k hf (by unfold LetI at hc; omega); omega))) ?_
        exact gT (vc (st (numS a.cas))) (by first | (subst_vars; rfl) | (subst_vars; show _ = vc (st (if a.cas = -1 then [45] else numS a.cas)); first | rw [if_pos (by assumption)] | rw [if_neg (by assumption)]) | (subst_vars; show _ = vc (st (if a.flag = true then [49] else [48])); first | rw [if_pos (by assumption)] | rw [if_neg (by simp_all)]) | (obtain rfl : c = 107 := (by unfold LetI at hc; omega); rfl))
      ·
       refine gS [] [] 63 [(2, vp 2 0), (7, vc (i3 c)), (34, vc (bo (decide (c = 102))))] [(2, AObj.row (rwA a))] trivial ?_
       refine gC (c = 102) (fun hc9 => ?_) fun hc9 => ?_
       ·
        refine gQ ?_
        refine gS [] [] 63 [(37, vc (bo a.flag))] [] trivial ?_
        refine gB (a.flag) (fun hc10 => ?_) fun hc10 => ?_
        ·
         try simp only [xT, xF] at hc10
         refine gS [] [] 63 [(4, vc (st [49]))] [] trivial ?_
         exact gT (vc (st [49])) (by first | (subst_vars; rfl) | (subst_vars; show _ = vc (st (if a.cas = -1 then [45] else numS a.cas)); first | rw [if_pos (by assumption)] | rw [if_neg (by assumption)]) | (subst_vars; show _ = vc (st (if a.flag = true then [49] else [48])); first | rw [if_pos (by assumption)] | rw [if_neg (by simp_all)]) | (obtain rfl : c = 107 := (by unfold LetI at hc; omega); rfl))
        ·
         try simp only [xT, xF] at hc10
         refine AMx.skip ?_
         refine gS [] [] 63 [(4, vc (st [48]))] [] trivial ?_
         exact gT (vc (st [48])) (by first | (subst_vars; rfl) | (subst_vars; show _ = vc (st (if a.cas = -1 then [45] else numS a.cas)); first | rw [if_pos (by assumption)] | rw [if_neg (by assumption)]) | (subst_vars; show _ = vc (st (if a.flag = true then [49] else [48])); first | rw [if_pos (by assumption)] | rw [if_neg (by simp_all)]) | (obtain rfl : c = 107 := (by unfold LetI at hc; omega); rfl))
       ·
        refine gS [] [] 63 [(2, vp 2 0), (7, vc (i3 c)), (38, vc (bo (decide (c = 108))))] [(2, AObj.row (rwA a))] trivial ?_
        refine gC (c = 108) (fun hc11 => ?_) fun hc11 => ?_
        ·
         refine gS [(2, CE.call [] [] (vc (st (listS a.ns))) []), (3, CE.call [] [] (vc (st (orN (listS a.ns)))) [])] [Spec Tryz.prog 66 [tc (AL.Fnv.slI a.ns)] (ofH []) (vc (st (listS a.ns))) (ofH []), Spec Tryz.prog 65 [tc (st (listS a.ns))] (ofH []) (vc (st (orN (listS a.ns)))) (ofH [])] 63 [(4, vc (st (orN (listS a.ns))))] [] ⟨(list_c a.ns (by exact (fld_l hf (by omega)).2) (by first | omega | (have z := fld_n hf (by omega); omega) | (have z := fld_c hf (by omega); omega) | (have z := (fld_l hf (by omega)).1; omega) | (have z := fld_k hf (by unfold LetI at hc; omega); omega))), (orN_c (listS a.ns))⟩ ?_
         exact gT (vc (st (orN (listS a.ns)))) (by first | (subst_vars; rfl) | (subst_vars; show _ = vc (st (if a.cas = -1 then [45] else numS a.cas)); first | rw [if_pos (by assumption)] | rw [if_neg (by assumption)]) | (subst_vars; show _ = vc (st (if a.flag = true then [49] else [48])); first | rw [if_pos (by assumption)] | rw [if_neg (by simp_all)]) | (obtain rfl : c = 107 := (by unfold LetI at hc; omega); rfl))
        ·
         refine gS [] [] 63 [(2, vp 2 0), (7, vc (i3 c)), (44, vc (bo (decide (c = 100))))] [(2, AObj.row (rwA a))] trivial ?_
         refine gC (c = 100) (fun hc12 => ?_) fun hc12 => ?_
         ·
          refine gS [(2, CE.call [] [] (vc (st (hexS a.data))) []), (3, CE.call [] [] (vc (st (orN (hexS a.data)))) [])] [Spec Tryz.prog 19 [tc (st a.data)] (ofH []) (vc (st (hexS a.data))) (ofH []), Spec Tryz.prog 65 [tc (st (hexS a.data))] (ofH []) (vc (st (orN (hexS a.data)))) (ofH [])] 63 [(4, vc (st (orN (hexS a.data))))] [] ⟨(Hex_c a.data (by omega)), (orN_c (hexS a.data))⟩ ?_
          exact gT (vc (st (orN (hexS a.data)))) (by first | (subst_vars; rfl) | (subst_vars; show _ = vc (st (if a.cas = -1 then [45] else numS a.cas)); first | rw [if_pos (by assumption)] | rw [if_neg (by assumption)]) | (subst_vars; show _ = vc (st (if a.flag = true then [49] else [48])); first | rw [if_pos (by assumption)] | rw [if_neg (by simp_all)]) | (obtain rfl : c = 107 := (by unfold LetI at hc; omega); rfl))
         ·
          refine gS [] [] 63 [(2, vp 2 0), (50, vc (bo (decide (c = 114))))] [(2, AObj.row (rwA a))] trivial ?_
          refine gC (c = 114) (fun hc13 => ?_) fun hc13 => ?_
          ·
           refine gS [(2, CE.call [] [] (AV.tup [tc (st ((Policy.textP a.rules).1)), tc (i6 ((Policy.textP a.rules).2))]) [])] [Spec Tryz.prog 67 [tc (Policy.slP a.rules)] (ofH []) (AV.tup [tc (st ((Policy.textP a.rules).1)), tc (i6 ((Policy.textP a.rules).2))]) (ofH [])] 63 [(5, vc (st ((Policy.textP a.rules).1)))] [] (Policy.Text_c a.rules) ?_
           refine gS [(1, CE.call [] [] (vc (st (orN ((Policy.textP a.rules).1)))) [])] [Spec Tryz.prog 65 [tc (st ((Policy.textP a.rules).1))] (ofH []) (vc (st (orN ((Policy.textP a.rules).1)))) (ofH [])] 63 [(4, vc (st (orN ((Policy.textP a.rules).1))))] [] (orN_c ((Policy.textP a.rules).1)) ?_
           exact gT (vc (st (orN ((Policy.textP a.rules).1)))) (by first | (subst_vars; rfl) | (subst_vars; show _ = vc (st (if a.cas = -1 then [45] else numS a.cas)); first | rw [if_pos (by assumption)] | rw [if_neg (by assumption)]) | (subst_vars; show _ = vc (st (if a.flag = true then [49] else [48])); first | rw [if_pos (by assumption)] | rw [if_neg (by simp_all)]) | (obtain rfl : c = 107 := (by unfold LetI at hc; omega); rfl))
          ·
           refine AMx.skip ?_
           refine AMx.blk ?_
           refine gS [(2, CE.call [] [] (vc (st (hexS a.key))) [])] [Spec Tryz.prog 19 [tc (st a.key)] (ofH []) (vc (st (hexS a.key))) (ofH [])] 63 [(4, vc (st (hexS a.key)))] [] (Hex_c a.key (by first | omega | (have z := fld_n hf (by omega); omega) | (have z := fld_c hf (by omega); omega) | (have z := (fld_l hf (by omega)).1; omega) | (have z := fld_k hf (by unfold LetI at hc; omega); omega))) ?_
           exact gT (vc (st (hexS a.key))) (by first | (subst_vars; rfl) | (subst_vars; show _ = vc (st (if a.cas = -1 then [45] else numS a.cas)); first | rw [if_pos (by assumption)] | rw [if_neg (by assumption)]) | (subst_vars; show _ = vc (st (if a.flag = true then [49] else [48])); first | rw [if_pos (by assumption)] | rw [if_neg (by simp_all)]) | (obtain rfl : c = 107 := (by unfold LetI at hc; omega); rfl))
theorem f35_body : Tryz.f35.body = some (.seq (.region 0 (rg Tryz.f35 0) false) (.seq (.region 1 (rg Tryz.f35 1) false) (.seq (.region 2 (rg Tryz.f35 2) false) (.seq (.seq (.region 3 (rg Tryz.f35 3) false) (.block 0 (.seq (.region 4 (rg Tryz.f35 4) false) (.cond (.tmp 15) (.region 5 (rg Tryz.f35 5) false) (.seq (.region 6 (rg Tryz.f35 6) false) (.cond (.tmp 19) (.region 7 (rg Tryz.f35 7) false) (.seq (.seq (.region 8 (rg Tryz.f35 8) false) (.cond (.tmp 23) (.skip) (.region 9 (rg Tryz.f35 9) false))) (.cond (.tmp 23) (.region 10 (rg Tryz.f35 10) false) (.seq (.region 11 (rg Tryz.f35 11) false) (.cond (.tmp 28) (.region 12 (rg Tryz.f35 12) false) (.seq (.region 13 (rg Tryz.f35 13) false) (.cond (.tmp 33) (.seq (.seq (.region 14 (rg Tryz.f35 14) false) (.seq (.region 15 (rg Tryz.f35 15) false) (.cond (.tmp 38) (.region 16 (rg Tryz.f35 16) false) (.skip)))) (.seq (.region 17 (rg Tryz.f35 17) true) (.ret))) (.seq (.region 18 (rg Tryz.f35 18) false) (.cond (.tmp 48) (.seq (.region 19 (rg Tryz.f35 19) false) (.seq (.region 20 (rg Tryz.f35 20) true) (.ret))) (.seq (.region 21 (rg Tryz.f35 21) false) (.cond (.tmp 61) (.seq (.region 22 (rg Tryz.f35 22) false) (.cond (.tmp 64) (.region 23 (rg Tryz.f35 23) false) (.skip))) (.seq (.region 24 (rg Tryz.f35 24) false) (.cond (.tmp 68) (.seq (.seq (.region 25 (rg Tryz.f35 25) false) (.cond (.tmp 71) (.region 26 (rg Tryz.f35 26) false) (.skip))) (.seq (.region 27 (rg Tryz.f35 27) true) (.ret))) (.seq (.region 28 (rg Tryz.f35 28) false) (.cond (.tmp 85) (.seq (.seq (.region 29 (rg Tryz.f35 29) false) (.cond (.tmp 87) (.seq (.region 30 (rg Tryz.f35 30) false) (.ret)) (.skip))) (.seq (.region 31 (rg Tryz.f35 31) false) (.seq (.seq (.region 32 (rg Tryz.f35 32) false) (.cond (.tmp 95) (.seq (.region 33 (rg Tryz.f35 33) false) (.ret)) (.skip))) (.seq (.region 34 (rg Tryz.f35 34) false) (.seq (.region 35 (rg Tryz.f35 35) false) (.ret)))))) (.seq (.region 36 (rg Tryz.f35 36) false) (.cond (.tmp 101) (.seq (.region 37 (rg Tryz.f35 37) false) (.seq (.region 38 (rg Tryz.f35 38) true) (.ret))) (.skip))))))))))))))))))))))) (.seq (.region 39 (rg Tryz.f35 39) true) (.ret)))))) := by kernel_rfl
set_option maxRecDepth 100000 in
set_option maxHeartbeats 8000000 in
theorem read_c2 (a : AskV) (c : Int) (s : Bytes) (hc : LetI c) (hb : s.length ≤ 100000) : Pure Tryz.prog 35 [TV.agg (rwA a), tc (i3 c), tc (st s)] (AV.tup [TV.agg (rwA ((readA a c s).1)), tc (i6 ((readA a c s).2))]) := by
 refine Pure.of_body Tryz.func35 f35_body (by kernel_rfl) Tryz.ntmps35 (by kernel_rfl) (by kernel_rfl) ?_
 refine gS [] [] 122 [(1, vc (i3 c)), (2, vc (st s)), (3, vp 3 0), (6, vp 6 0)] [(3, AObj.row (rwA a)), (6, AObj.row [.s (u8 0), .s (st []), .s (st []), .s (st []), .s (i6 0), .s (i6 0), .s (bo false), .s (SC.nilsl), .s (st []), .s (SC.nilsl), .s (st [])])] trivial ?_
 refine gS [] [] 122 [(1, vc (i3 c)), (2, vc (st s)), (3, vp 3 0), (6, vp 6 0), (8, vc (bo (decide (s = [45]))))] [(3, AObj.row (rwA a)), (6, AObj.row [.s (u8 0), .s (st []), .s (st []), .s (st []), .s (i6 0), .s (i6 0), .s (bo false), .s (SC.nilsl), .s (st []), .s (SC.nilsl), .s (st [])])] trivial ?_
 refine gS [] [] 122 [(1, vc (i3 c)), (2, vc (st s)), (3, vp 3 0), (6, vp 6 0), (8, vc (bo (decide (s = [45])))), (9, vc (bo true))] [(3, AObj.row (rwA a)), (6, AObj.row [.s (u8 0), .s (st []), .s (st []), .s (st []), .s (i6 0), .s (i6 0), .s (bo false), .s (SC.nilsl), .s (st []), .s (SC.nilsl), .s (st [])])] trivial ?_
 refine gQ ?_
 refine gS [] [] 122 [(1, vc (i3 c)), (2, vc (st s)), (3, vp 3 0), (6, vp 6 0), (8, vc (bo (decide (s = [45])))), (9, vc (bo true)), (14, vc (i3 c))] [(3, AObj.row (rwA a)), (6, AObj.row [.s (u8 0), .s (st []), .s (st []), .s (st []), .s (i6 0), .s (i6 0), .s (bo false), .s (SC.nilsl), .s (st []), .s (SC.nilsl), .s (st [])])] trivial ?_
 refine AMx.block ?_
 refine gS [] [] 122 [(1, vc (i3 c)), (2, vc (st s)), (3, vp 3 0), (6, vp 6 0), (8, vc (bo (decide (s = [45])))), (9, vc (bo true)), (14, vc (i3 c)), (15, vc (bo (decide (c = 116))))] [(3, AObj.row (rwA a)), (6, AObj.row [.s (u8 0), .s (st []), .s (st []), .s (st []), .s (i6 0), .s (i6 0), .s (bo false), .s (SC.nilsl), .s (st []), .s (SC.nilsl), .s (st [])])] trivial ?_
 refine gC (c = 116) (fun hc1 => ?_) fun hc1 => ?_
 ·
  refine gR [] [] 122 [(1, vc (i3 c)), (3, vp 3 0), (6, vp 6 0)] [(3, AObj.row [.s (u8 a.op), .s (st s), .s (st a.path), .s (st a.other), .s (i6 a.n), .s (i6 a.cas), .s (bo a.flag), .s (AL.Fnv.slI a.ns), .s (st a.data), .s (Policy.slP a.rules), .s (st a.key)]), (6, AObj.row [.s (u8 0), .s (st []), .s (st []), .s (st []), .s (i6 0), .s (i6 0), .s (bo false), .s (SC.nilsl), .s (st []), .s (SC.nilsl), .s (st [])])] trivial ?_
  refine AMx.blk ?_
  refine gY [(3, CE.call [] [] (vc (i6 (fieldS (⟨a.op, s, a.path, a.other, a.n, a.cas, a.flag, a.ns, a.data, a.rules, a.key⟩ : AskV) c))) [])] [(0, [3]), (1, [3]), (4, [6])] [Spec Tryz.prog 24 [TV.agg [.s (u8 a.op), .s (st s), .s (st a.path), .s (st a.other), .s (i6 a.n), .s (i6 a.cas), .s (bo a.flag), .s (AL.Fnv.slI a.ns), .s (st a.data), .s (Policy.slP a.rules), .s (st a.key)], tc (i3 c)] (ofH []) (vc (i6 (fieldS (⟨a.op, s, a.path, a.other, a.n, a.cas, a.flag, a.ns, a.data, a.rules, a.key⟩ : AskV) c))) (ofH [])] 122 [(6, vp 6 0), (7, vc (i6 (fieldS (⟨a.op, s, a.path, a.other, a.n, a.cas, a.flag, a.ns, a.data, a.rules, a.key⟩ : AskV) c)))] [(6, AObj.row [.s (u8 a.op), .s (st s), .s (st a.path), .s (st a.other), .s (i6 a.n), .s (i6 a.cas), .s (bo a.flag), .s (AL.Fnv.slI a.ns), .s (st a.data), .s (Policy.slP a.rules), .s (st a.key)])] mixed (field_c (⟨a.op, s, a.path, a.other, a.n, a.cas, a.flag, a.ns, a.data, a.rules, a.key⟩ : AskV) c) ?_
  exact gT (AV.tup [TV.agg [.s (u8 a.op), .s (st s), .s (st a.path), .s (st a.other), .s (i6 a.n), .s (i6 a.cas), .s (bo a.flag), .s (AL.Fnv.slI a.ns), .s (st a.data), .s (Policy.slP a.rules), .s (st a.key)], tc (i6 (fieldS (⟨a.op, s, a.path, a.other, a.n, a.cas, a.flag, a.ns, a.data, a.rules, a.key⟩ : AskV) c))]) (by rw [show readA a c s = ((⟨a.op, s, a.path, a.other, a.n, a.cas, a.flag, a.ns, a.data, a.rules, a.key⟩ : AskV), fieldS (⟨a.op, s, a.path, a.other, a.n, a.cas, a.flag, a.ns, a.data, a.rules, a.key⟩ : AskV) c) from by first | (subst_vars; rfl) | (subst_vars; exact read_c (by assumption)) | (subst_vars; exact read_k _ _) | (subst_vars; exact read_l (by assumption)) | (subst_vars; exact read_d (by assumption)) | (subst_vars; exact read_r (by assumption) (by assumption)) | (exfalso; unfold LetI at hc; omega)])
 ·
  refine gS [] [] 122 [(1, vc (i3 c)), (2, vc (st s)), (3, vp 3 0), (6, vp 6 0), (8, vc (bo (decide (s = [45])))), (9, vc (bo true)), (14, vc (i3 c)), (19, vc (bo (decide (c = 112))))] [(3, AObj.row (rwA a)), (6, AObj.row [.s (u8 0), .s (st []), .s (st []), .s (st []), .s (i6 0), .s (i6 0), .s (bo false), .s (SC.nilsl), .s (st []), .s (SC.nilsl), .s (st [])])] trivial ?_
  refine gC (c = 112) (fun hc2 => ?_) fun hc2 => ?_
  ·
   refine gR [] [] 122 [(1, vc (i3 c)), (3, vp 3 0), (6, vp 6 0)] [(3, AObj.row [.s (u8 a.op), .s (st a.token), .s (st s), .s (st a.other), .s (i6 a.n), .s (i6 a.cas), .s (bo a.flag), .s (AL.Fnv.slI a.ns), .s (st a.data), .s (Policy.slP a.rules), .s (st a.key)]), (6, AObj.row [.s (u8 0), .s (st []), .s (st []), .s (st []), .s (i6 0), .s (i6 0), .s (bo false), .s (SC.nilsl), .s (st []), .s (SC.nilsl), .s (st [])])] trivial ?_
   refine AMx.blk ?_
   refine gY [(3, CE.call [] [] (vc (i6 (fieldS (⟨a.op, a.token, s, a.other, a.n, a.cas, a.flag, a.ns, a.data, a.rules, a.key⟩ : AskV) c))) [])] [(0, [3]), (1, [3]), (4, [6])] [Spec Tryz.prog 24 [TV.agg [.s (u8 a.op), .s (st a.token), .s (st s), .s (st a.other), .s (i6 a.n), .s (i6 a.cas), .s (bo a.flag), .s (AL.Fnv.slI a.ns), .s (st a.data), .s (Policy.slP a.rules), .s (st a.key)], tc (i3 c)] (ofH []) (vc (i6 (fieldS (⟨a.op, a.token, s, a.other, a.n, a.cas, a.flag, a.ns, a.data, a.rules, a.key⟩ : AskV) c))) (ofH [])] 122 [(6, vp 6 0), (7, vc (i6 (fieldS (⟨a.op, a.token, s, a.other, a.n, a.cas, a.flag, a.ns, a.data, a.rules, a.key⟩ : AskV) c)))] [(6, AObj.row [.s (u8 a.op), .s (st a.token), .s (st s), .s (st a.other), .s (i6 a.n), .s (i6 a.cas), .s (bo a.flag), .s (AL.Fnv.slI a.ns), .s (st a.data), .s (Policy.slP a.rules), .s (st a.key)])] mixed (field_c (⟨a.op, a.token, s, a.other, a.n, a.cas, a.flag, a.ns, a.data, a.rules, a.key⟩ : AskV) c) ?_
   exact gT (AV.tup [TV.agg [.s (u8 a.op), .s (st a.token), .s (st s), .s (st a.other), .s (i6 a.n), .s (i6 a.cas), .s (bo a.flag), .s (AL.Fnv.slI a.ns), .s (st a.data), .s (Policy.slP a.rules), .s (st a.key)], tc (i6 (fieldS (⟨a.op, a.token, s, a.other, a.n, a.cas, a.flag, a.ns, a.data, a.rules, a.key⟩ : AskV) c))]) (by rw [show readA a c s = ((⟨a.op, a.token, s, a.other, a.n, a.cas, a.flag, a.ns, a.data, a.rules, a.key⟩ : AskV), fieldS (⟨a.op, a.token, s, a.other, a.n, a.cas, a.flag, a.ns, a.data, a.rules, a.key⟩ : AskV) c) from by first | (subst_vars; rfl) | (subst_vars; exact read_c (by assumption)) | (subst_vars; exact read_k _ _) | (subst_vars; exact read_l (by assumption)) | (subst_vars; exact read_d (by assumption)) | (subst_vars; exact read_r (by assumption) (by assumption)) | (exfalso; unfold LetI at hc; omega)])
  ·
   refine gQ ?_
   refine gS [] [] 122 [(1, vc (i3 c)), (2, vc (st s)), (3, vp 3 0), (6, vp 6 0), (8, vc (bo (decide (s = [45])))), (9, vc (bo true)), (14, vc (i3 c)), (23, vc (bo (decide (c = 109))))] [(3, AObj.row (rwA a)), (6, AObj.row [.s (u8 0), .s (st []), .s (st []), .s (st []), .s (i6 0), .s (i6 0), .s (bo false), .s (SC.nilsl), .s (st []), .s (SC.nilsl), .s (st [])])] trivial ?_
   refine gC (c = 109) (fun hc3 => ?_) fun hc3 => ?_
   ·
    refine AMx.skip ?_
    refine gC (c = 109) (fun hc4 => ?_) fun hc4 => ?_
    ·
     refine gR [] [] 122 [(1, vc (i3 c)), (3, vp 3 0), (6, vp 6 0)] [(3, AObj.row [.s (u8 a.op), .s (st a.token), .s (st a.path), .s (st s), .s (i6 a.n), .s (i6 a.cas), .s (bo a.flag), .s (AL.Fnv.slI a.ns), .s (st a.data), .s (Policy.slP a.rules), .s (st a.key)]), (6, AObj.row [.s (u8 0), .s (st []), .s (st []), .s (st []), .s (i6 0), .s (i6 0), .s (bo false), .s (SC.nilsl), .s (st []), .s (SC.nilsl), .s (st [])])] trivial ?_
     refine AMx.blk ?_
     refine gY [(3, CE.call [] [] (vc (i6 (fieldS (⟨a.op, a.token, a.path, s, a.n, a.cas, a.flag, a.ns, a.data, a.rules, a.key⟩ : AskV) c))) [])] [(0, [3]), (1, [3]), (4, [6])] [Spec Tryz.prog 24 [TV.agg [.s (u8 a.op), .s (st a.token), .s (st a.path), .s (st s), .s (i6 a.n), .s (i6 a.cas), .s (bo a.flag), .s (AL.Fnv.slI a.ns), .s (st a.data), .s (Policy.slP a.rules), .s (st a.key)], tc (i3 c)] (ofH []) (vc (i6 (fieldS (⟨a.op, a.token, a.path, s, a.n, a.cas, a.flag, a.ns, a.data, a.rules, a.key⟩ : AskV) c))) (ofH [])] 122 [(6, vp 6 0), (7, vc (i6 (fieldS (⟨a.op, a.token, a.path, s, a.n, a.cas, a.flag, a.ns, a.data, a.rules, a.key⟩ : AskV) c)))] [(6, AObj.row [.s (u8 a.op), .s (st a.token), .s (st a.path), .s (st s), .s (i6 a.n), .s (i6 a.cas), .s (bo a.flag), .s (AL.Fnv.slI a.ns), .s (st a.data), .s (Policy.slP a.rules), .s (st a.key)])] mixed (field_c (⟨a.op, a.token, a.path, s, a.n, a.cas, a.flag, a.ns, a.data, a.rules, a.key⟩ : AskV) c) ?_
     exact gT (AV.tup [TV.agg [.s (u8 a.op), .s (st a.token), .s (st a.path), .s (st s), .s (i6 a.n), .s (i6 a.cas), .s (bo a.flag), .s (AL.Fnv.slI a.ns), .s (st a.data), .s (Policy.slP a.rules), .s (st a.key)], tc (i6 (fieldS (⟨a.op, a.token, a.path, s, a.n, a.cas, a.flag, a.ns, a.data, a.rules, a.key⟩ : AskV) c))]) (by rw [show readA a c s = ((⟨a.op, a.token, a.path, s, a.n, a.cas, a.flag, a.ns, a.data, a.rules, a.key⟩ : AskV), fieldS (⟨a.op, a.token, a.path, s, a.n, a.cas, a.flag, a.ns, a.data, a.rules, a.key⟩ : AskV) c) from by first | (subst_vars; rfl) | (subst_vars; exact read_c (by assumption)) | (subst_vars; exact read_k _ _) | (subst_vars; exact read_l (by assumption)) | (subst_vars; exact read_d (by assumption)) | (subst_vars; exact read_r (by assumption) (by assumption)) | (exfalso; unfold LetI at hc; omega)])
    ·
     exfalso; first | exact hc3 hc4 | exact hc4 hc3 | (rw [hc4] at hc3; cases hc3) | simp_all
   ·
    refine gR [] [] 122 [(1, vc (i3 c)), (2, vc (st s)), (3, vp 3 0), (6, vp 6 0), (8, vc (bo (decide (s = [45])))), (9, vc (bo true)), (14, vc (i3 c)), (23, vc (bo (decide (c = 113))))] [(3, AObj.row (rwA a)), (6, AObj.row [.s (u8 0), .s (st []), .s (st []), .s (st []), .s (i6 0), .s (i6 0), .s (bo false), .s (SC.nilsl), .s (st []), .s (SC.nilsl), .s (st [])])] trivial ?_
    refine gC (c = 113) (fun hc5 => ?_) fun hc5 => ?_
    ·
     refine gR [] [] 122 [(1, vc (i3 c)), (3, vp 3 0), (6, vp 6 0)] [(3, AObj.row [.s (u8 a.op), .s (st a.token), .s (st a.path), .s (st s), .s (i6 a.n), .s (i6 a.cas), .s (bo a.flag), .s (AL.Fnv.slI a.ns), .s (st a.data), .s (Policy.slP a.rules), .s (st a.key)]), (6, AObj.row [.s (u8 0), .s (st []), .s (st []), .s (st []), .s (i6 0), .s (i6 0), .s (bo false), .s (SC.nilsl), .s (st []), .s (SC.nilsl), .s (st [])])] trivial ?_
     refine AMx.blk ?_
     refine gY [(3, CE.call [] [] (vc (i6 (fieldS (⟨a.op, a.token, a.path, s, a.n, a.cas, a.flag, a.ns, a.data, a.rules, a.key⟩ : AskV) c))) [])] [(0, [3]), (1, [3]), (4, [6])] [Spec Tryz.prog 24 [TV.agg [.s (u8 a.op), .s (st a.token), .s (st a.path), .s (st s), .s (i6 a.n), .s (i6 a.cas), .s (bo a.flag), .s (AL.Fnv.slI a.ns), .s (st a.data), .s (Policy.slP a.rules), .s (st a.key)], tc (i3 c)] (ofH []) (vc (i6 (fieldS (⟨a.op, a.token, a.path, s, a.n, a.cas, a.flag, a.ns, a.data, a.rules, a.key⟩ : AskV) c))) (ofH [])] 122 [(6, vp 6 0), (7, vc (i6 (fieldS (⟨a.op, a.token, a.path, s, a.n, a.cas, a.flag, a.ns, a.data, a.rules, a.key⟩ : AskV) c)))] [(6, AObj.row [.s (u8 a.op), .s (st a.token), .s (st a.path), .s (st s), .s (i6 a.n), .s (i6 a.cas), .s (bo a.flag), .s (AL.Fnv.slI a.ns), .s (st a.data), .s (Policy.slP a.rules), .s (st a.key)])] mixed (field_c (⟨a.op, a.token, a.path, s, a.n, a.cas, a.flag, a.ns, a.data, a.rules, a.key⟩ : AskV) c) ?_
     exact gT (AV.tup [TV.agg [.s (u8 a.op), .s (st a.token), .s (st a.path), .s (st s), .s (i6 a.n), .s (i6 a.cas), .s (bo a.flag), .s (AL.Fnv.slI a.ns), .s (st a.data), .s (Policy.slP a.rules), .s (st a.key)], tc (i6 (fieldS (⟨a.op, a.token, a.path, s, a.n, a.cas, a.flag, a.ns, a.data, a.rules, a.key⟩ : AskV) c))]) (by rw [show readA a c s = ((⟨a.op, a.token, a.path, s, a.n, a.cas, a.flag, a.ns, a.data, a.rules, a.key⟩ : AskV), fieldS (⟨a.op, a.token, a.path, s, a.n, a.cas, a.flag, a.ns, a.data, a.rules, a.key⟩ : AskV) c) from by first | (subst_vars; rfl) | (subst_vars; exact read_c (by assumption)) | (subst_vars; exact read_k _ _) | (subst_vars; exact read_l (by assumption)) | (subst_vars; exact read_d (by assumption)) | (subst_vars; exact read_r (by assumption) (by assumption)) | (exfalso; unfold LetI at hc; omega)])
    ·
     refine gS [] [] 122 [(1, vc (i3 c)), (2, vc (st s)), (3, vp 3 0), (6, vp 6 0), (8, vc (bo (decide (s = [45])))), (9, vc (bo true)), (14, vc (i3 c)), (28, vc (bo (decide (c = 110))))] [(3, AObj.row (rwA a)), (6, AObj.row [.s (u8 0), .s (st []), .s (st []), .s (st []), .s (i6 0), .s (i6 0), .s (bo false), .s (SC.nilsl), .s (st []), .s (SC.nilsl), .s (st [])])] trivial ?_
     refine gC (c = 110) (fun hc6 => ?_) fun hc6 => ?_
     ·
      refine gR [(1, CE.call [] [] (vc (i6 (scanN s))) [])] [Spec Tryz.prog 58 [tc (st s)] (ofH []) (vc (i6 (scanN s))) (ofH [])] 122 [(1, vc (i3 c)), (3, vp 3 0), (6, vp 6 0)] [(3, AObj.row [.s (u8 a.op), .s (st a.token), .s (st a.path), .s (st a.other), .s (i6 (scanN s)), .s (i6 a.cas), .s (bo a.flag), .s (AL.Fnv.slI a.ns), .s (st a.data), .s (Policy.slP a.rules), .s (st a.key)]), (6, AObj.row [.s (u8 0), .s (st []), .s (st []), .s (st []), .s (i6 0), .s (i6 0), .s (bo false), .s (SC.nilsl), .s (st []), .s (SC.nilsl), .s (st [])])] (numberOf_c s) ?_
      refine AMx.blk ?_
      refine gY [(3, CE.call [] [] (vc (i6 (fieldS (⟨a.op, a.token, a.path, a.other, scanN s, a.cas, a.flag, a.ns, a.data, a.rules, a.key⟩ : AskV) c))) [])] [(0, [3]), (1, [3]), (4, [6])] [Spec Tryz.prog 24 [TV.agg [.s (u8 a.op), .s (st a.token), .s (st a.path), .s (st a.other), .s (i6 (scanN s)), .s (i6 a.cas), .s (bo a.flag), .s (AL.Fnv.slI a.ns), .s (st a.data), .s (Policy.slP a.rules), .s (st a.key)], tc (i3 c)] (ofH []) (vc (i6 (fieldS (⟨a.op, a.token, a.path, a.other, scanN s, a.cas, a.flag, a.ns, a.data, a.rules, a.key⟩ : AskV) c))) (ofH [])] 122 [(6, vp 6 0), (7, vc (i6 (fieldS (⟨a.op, a.token, a.path, a.other, scanN s, a.cas, a.flag, a.ns, a.data, a.rules, a.key⟩ : AskV) c)))] [(6, AObj.row [.s (u8 a.op), .s (st a.token), .s (st a.path), .s (st a.other), .s (i6 (scanN s)), .s (i6 a.cas), .s (bo a.flag), .s (AL.Fnv.slI a.ns), .s (st a.data), .s (Policy.slP a.rules), .s (st a.key)])] mixed (field_c (⟨a.op, a.token, a.path, a.other, scanN s, a.cas, a.flag, a.ns, a.data, a.rules, a.key⟩ : AskV) c) ?_
      exact gT (AV.tup [TV.agg [.s (u8 a.op), .s (st a.token), .s (st a.path), .s (st a.other), .s (i6 (scanN s)), .s (i6 a.cas), .s (bo a.flag), .s (AL.Fnv.slI a.ns), .s (st a.data), .s (Policy.slP a.rules), .s (st a.key)], tc (i6 (fieldS (⟨a.op, a.token, a.path, a.other, scanN s, a.cas, a.flag, a.ns, a.data, a.rules, a.key⟩ : AskV) c))]) (by rw [show readA a c s = ((⟨a.op, a.token, a.path, a.other, scanN s, a.cas, a.flag, a.ns, a.data, a.rules, a.key⟩ : AskV), fieldS (⟨a.op, a.token, a.path, a.other, scanN s, a.cas, a.flag, a.ns, a.data, a.rules, a.key⟩ : AskV) c) from by first | (subst_vars; rfl) | (subst_vars; exact read_c (by assumption)) | (subst_vars; exact read_k _ _) | (subst_vars; exact read_l (by assumption)) | (subst_vars; exact read_d (by assumption)) | (subst_vars; exact read_r (by assumption) (by assumption)) | (exfalso; unfold LetI at hc; omega)])
     ·
      refine gS [] [] 122 [(1, vc (i3 c)), (2, vc (st s)), (3, vp 3 0), (6, vp 6 0), (8, vc (bo (decide (s = [45])))), (9, vc (bo true)), (14, vc (i3 c)), (33, vc (bo (decide (c = 99))))] [(3, AObj.row (rwA a)), (6, AObj.row [.s (u8 0), .s (st []), .s (st []), .s (st []), .s (i6 0), .s (i6 0), .s (bo false), .s (SC.nilsl), .s (st []), .s (SC.nilsl), .s (st [])])] trivial ?_
      refine gC (c = 99) (fun hc7 => ?_) fun hc7 => ?_
      ·
       refine gQ ?_
       refine gS [(1, CE.call [] [] (vc (i6 (scanN s))) [])] [Spec Tryz.prog 58 [tc (st s)] (ofH []) (vc (i6 (scanN s))) (ofH [])] 122 [(3, vp 3 0), (6, vp 6 0), (8, vc (bo (decide (s = [45]))))] [(3, AObj.row [.s (u8 a.op), .s (st a.token), .s (st a.path), .s (st a.other), .s (i6 a.n), .s (i6 (scanN s)), .s (bo a.flag), .s (AL.Fnv.slI a.ns), .s (st a.data), .s (Policy.slP a.rules), .s (st a.key)]), (6, AObj.row [.s (u8 0), .s (st []), .s (st []), .s (st []), .s (i6 0), .s (i6 0), .s (bo false), .s (SC.nilsl), .s (st []), .s (SC.nilsl), .s (st [])])] (numberOf_c s) ?_
       refine gS [] [] 122 [(3, vp 3 0), (6, vp 6 0), (8, vc (bo (decide (s = [45])))), (38, vc (bo (decide (s = [45]))))] [(3, AObj.row [.s (u8 a.op), .s (st a.token), .s (st a.path), .s (st a.other), .s (i6 a.n), .s (i6 (scanN s)), .s (bo a.flag), .s (AL.Fnv.slI a.ns), .s (st a.data), .s (Policy.slP a.rules), .s (st a.key)]), (6, AObj.row [.s (u8 0), .s (st []), .s (st []), .s (st []), .s (i6 0), .s (i6 0), .s (bo false), .s (SC.nilsl), .s (st []), .s (SC.nilsl), .s (st [])])] trivial ?_
       refine gC (s = [45]) (fun hc8 => ?_) fun hc8 => ?_
       ·
        refine gR [] [] 122 [(3, vp 3 0), (6, vp 6 0), (8, vc (bo (decide (s = [45]))))] [(3, AObj.row [.s (u8 a.op), .s (st a.token), .s (st a.path), .s (st a.other), .s (i6 a.n), .s (i6 (-1)), .s (bo a.flag), .s (AL.Fnv.slI a.ns), .s (st a.data), .s (Policy.slP a.rules), .s (st a.key)]), (6, AObj.row [.s (u8 0), .s (st []), .s (st []), .s (st []), .s (i6 0), .s (i6 0), .s (bo false), .s (SC.nilsl), .s (st []), .s (SC.nilsl), .s (st [])])] trivial ?_
        refine gY [(7, CE.call [] [] (vc (i6 (fineS ((decide (s = [45])) || false)))) [])] [(0, [3]), (4, [3]), (8, [6])] [((decide (s = [45])) = false) → allP [], ((decide (s = [45])) = false) → allP [(decide (s = [45])) = false], ((decide (s = [45])) = false) → allP [(decide (s = [45])) = false], (decide (s = [45])) = false → allP [(decide (s = [45])) = false], Spec Tryz.prog 43 [tc (bo ((decide (s = [45])) || false))] (ofH []) (vc (i6 (fineS ((decide (s = [45])) || false)))) (ofH [])] 122 [(6, vp 6 0), (7, vc (i6 (fineS ((decide (s = [45])) || false))))] [(6, AObj.row [.s (u8 a.op), .s (st a.token), .s (st a.path), .s (st a.other), .s (i6 a.n), .s (i6 (-1)), .s (bo a.flag), .s (AL.Fnv.slI a.ns), .s (st a.data), .s (Policy.slP a.rules), .s (st a.key)])] mixed ⟨(fun _ => trivial), (fun hp => hp), (fun hp => hp), (fun hp2 => (by first | exact hp2 | exact ⟨hp, hp2⟩)), (fine_c ((decide (s = [45])) || false))⟩ ?_
        exact gT (AV.tup [TV.agg [.s (u8 a.op), .s (st a.token), .s (st a.path), .s (st a.other), .s (i6 a.n), .s (i6 (-1)), .s (bo a.flag), .s (AL.Fnv.slI a.ns), .s (st a.data), .s (Policy.slP a.rules), .s (st a.key)], tc (i6 (fineS ((decide (s = [45])) || false)))]) (by rw [show readA a c s = ((⟨a.op, a.token, a.path, a.other, a.n, (-1), a.flag, a.ns, a.data, a.rules, a.key⟩ : AskV), fineS ((decide (s = [45])) || false)) from by first | (subst_vars; rfl) | (subst_vars; exact read_c (by assumption)) | (subst_vars; exact read_k _ _) | (subst_vars; exact read_l (by assumption)) | (subst_vars; exact read_d (by assumption)) | (subst_vars; exact read_r (by assumption) (by assumption)) | (exfalso; unfold LetI at hc; omega)])
       ·
        refine AMx.skip ?_
        refine gY [(7, CE.call [] [] (vc (i6 (fineS ((decide (s = [45])) || (decide (0 ≤ scanN s)))))) [])] [(0, [3]), (4, [3]), (8, [6])] [((decide (s = [45])) = false) → allP [], ((decide (s = [45])) = false) → allP [(decide (s = [45])) = false], ((decide (s = [45])) = false) → allP [(decide (s = [45])) = false], (decide (s = [45])) = false → allP [(decide (s = [45])) = false], Spec Tryz.prog 43 [tc (bo ((decide (s = [45])) || (decide (0 ≤ scanN s))))] (ofH []) (vc (i6 (fineS ((decide (s = [45])) || (decide (0 ≤ scanN s)))))) (ofH [])] 122 [(6, vp 6 0), (7, vc (i6 (fineS ((decide (s = [45])) || (decide (0 ≤ scanN s))))))] [(6, AObj.row [.s (u8 a.op), .s (st a.token), .s (st a.path), .s (st a.other), .s (i6 a.n), .s (i6 (scanN s)), .s (bo a.flag), .s (AL.Fnv.slI a.ns), .s (st a.data), .s (Policy.slP a.rules), .s (st a.key)])] mixed ⟨(fun _ => trivial), (fun hp => hp), (fun hp => hp), (fun hp2 => (by first | exact hp2 | exact ⟨hp, hp2⟩)), (fine_c ((decide (s = [45])) || (decide (0 ≤ scanN s))))⟩ ?_
        exact gT (AV.tup [TV.agg [.s (u8 a.op), .s (st a.token), .s (st a.path), .s (st a.other), .s (i6 a.n), .s (i6 (scanN s)), .s (bo a.flag), .s (AL.Fnv.slI a.ns), .s (st a.data), .s (Policy.slP a.rules), .s (st a.key)], tc (i6 (fineS ((decide (s = [45])) || (decide (0 ≤ scanN s)))))]) (by rw [show readA a c s = ((⟨a.op, a.token, a.path, a.other, a.n, scanN s, a.flag, a.ns, a.data, a.rules, a.key⟩ : AskV), fineS ((decide (s = [45])) || (decide (0 ≤ scanN s)))) from by first | (subst_vars; rfl) | (subst_vars; exact read_c (by assumption)) | (subst_vars; exact read_k _ _) | (subst_vars; exact read_l (by assumption)) | (subst_vars; exact read_d (by assumption)) | (subst_vars; exact read_r (by assumption) (by assumption)) | (exfalso; unfold LetI at hc; omega)])
      ·
       refine gS [] [] 122 [(1, vc (i3 c)), (2, vc (st s)), (3, vp 3 0), (6, vp 6 0), (8, vc (bo (decide (s = [45])))), (9, vc (bo true)), (14, vc (i3 c)), (48, vc (bo (decide (c = 102))))] [(3, AObj.row (rwA a)), (6, AObj.row [.s (u8 0), .s (st []), .s (st []), .s (st []), .s (i6 0), .s (i6 0), .s (bo false), .s (SC.nilsl), .s (st []), .s (SC.nilsl), .s (st [])])] trivial ?_
       refine gC (c = 102) (fun hc9 => ?_) fun hc9 => ?_
       ·
        refine gS [] [] 122 [(2, vc (st s)), (3, vp 3 0), (6, vp 6 0)] [(3, AObj.row [.s (u8 a.op), .s (st a.token), .s (st a.path), .s (st a.other), .s (i6 a.n), .s (i6 a.cas), .s (bo (decide (s = [49]))), .s (AL.Fnv.slI a.ns), .s (st a.data), .s (Policy.slP a.rules), .s (st a.key)]), (6, AObj.row [.s (u8 0), .s (st []), .s (st []), .s (st []), .s (i6 0), .s (i6 0), .s (bo false), .s (SC.nilsl), .s (st []), .s (SC.nilsl), .s (st [])])] trivial ?_
        refine gY [(7, CE.call [] [] (vc (i6 (fineS ((decide (s = [49])) || (decide (s = [48])))))) [])] [(0, [3]), (2, [3]), (8, [6])] [((decide (s = [49])) = false) → allP [], ((decide (s = [49])) = false) → allP [(decide (s = [49])) = false], (decide (s = [49])) = false → allP [(decide (s = [49])) = false], Spec Tryz.prog 43 [tc (bo ((decide (s = [49])) || (decide (s = [48]))))] (ofH []) (vc (i6 (fineS ((decide (s = [49])) || (decide (s = [48])))))) (ofH [])] 122 [(6, vp 6 0), (7, vc (i6 (fineS ((decide (s = [49])) || (decide (s = [48]))))))] [(6, AObj.row [.s (u8 a.op), .s (st a.token), .s (st a.path), .s (st a.other), .s (i6 a.n), .s (i6 a.cas), .s (bo (decide (s = [49]))), .s (AL.Fnv.slI a.ns), .s (st a.data), .s (Policy.slP a.rules), .s (st a.key)])] mixed ⟨(fun _ => trivial), (fun hp => hp), (fun hp2 => (by first | exact hp2 | exact ⟨hp, hp2⟩)), (fine_c ((decide (s = [49])) || (decide (s = [48]))))⟩ ?_
        exact gT (AV.tup [TV.agg [.s (u8 a.op), .s (st a.token), .s (st a.path), .s (st a.other), .s (i6 a.n), .s (i6 a.cas), .s (bo (decide (s = [49]))), .s (AL.Fnv.slI a.ns), .s (st a.data), .s (Policy.slP a.rules), .s (st a.key)], tc (i6 (fineS ((decide (s = [49])) || (decide (s = [48])))))]) (by rw [show readA a c s = ((⟨a.op, a.token, a.path, a.other, a.n, a.cas, decide (s = [49]), a.ns, a.data, a.rules, a.key⟩ : AskV), fineS ((decide (s = [49])) || (decide (s = [48])))) from by first | (subst_vars; rfl) | (subst_vars; exact read_c (by assumption)) | (subst_vars; exact read_k _ _) | (subst_vars; exact read_l (by assumption)) | (subst_vars; exact read_d (by assumption)) | (subst_vars; exact read_r (by assumption) (by assumption)) | (exfalso; unfold LetI at hc; omega)])
       ·
        refine gS [] [] 122 [(1, vc (i3 c)), (2, vc (st s)), (3, vp 3 0), (6, vp 6 0), (8, vc (bo (decide (s = [45])))), (9, vc (bo true)), (14, vc (i3 c)), (61, vc (bo (decide (c = 108))))] [(3, AObj.row (rwA a)), (6, AObj.row [.s (u8 0), .s (st []), .s (st []), .s (st []), .s (i6 0), .s (i6 0), .s (bo false), .s (SC.nilsl), .s (st []), .s (SC.nilsl), .s (st [])])] trivial ?_
        refine gC (c = 108) (fun hc10 => ?_) fun hc10 => ?_
        ·
         refine gS [] [] 122 [(1, vc (i3 c)), (2, vc (st s)), (3, vp 3 0), (6, vp 6 0), (64, vc (bo (!(decide (s = [45])))))] [(3, AObj.row (rwA a)), (6, AObj.row [.s (u8 0), .s (st []), .s (st []), .s (st []), .s (i6 0), .s (i6 0), .s (bo false), .s (SC.nilsl), .s (st []), .s (SC.nilsl), .s (st [])])] trivial ?_
         refine gB (!(decide (s = [45]))) (fun hc11 => ?_) fun hc11 => ?_
         ·
          try simp only [xT, xF, xN, xM] at hc11
          refine gR [(1, CE.call [] [] (vc (AL.Fnv.slI (numbersS s))) [])] [Spec Tryz.prog 59 [tc (st s)] (ofH []) (vc (AL.Fnv.slI (numbersS s))) (ofH [])] 122 [(1, vc (i3 c)), (3, vp 3 0), (6, vp 6 0)] [(3, AObj.row [.s (u8 a.op), .s (st a.token), .s (st a.path), .s (st a.other), .s (i6 a.n), .s (i6 a.cas), .s (bo a.flag), .s (AL.Fnv.slI (numbersS s)), .s (st a.data), .s (Policy.slP a.rules), .s (st a.key)]), (6, AObj.row [.s (u8 0), .s (st []), .s (st []), .s (st []), .s (i6 0), .s (i6 0), .s (bo false), .s (SC.nilsl), .s (st []), .s (SC.nilsl), .s (st [])])] (numbers_c s (by omega)) ?_
          refine AMx.blk ?_
          refine gY [(3, CE.call [] [] (vc (i6 (fieldS (⟨a.op, a.token, a.path, a.other, a.n, a.cas, a.flag, numbersS s, a.data, a.rules, a.key⟩ : AskV) c))) [])] [(0, [3]), (1, [3]), (4, [6])] [Spec Tryz.prog 24 [TV.agg [.s (u8 a.op), .s (st a.token), .s (st a.path), .s (st a.other), .s (i6 a.n), .s (i6 a.cas), .s (bo a.flag), .s (AL.Fnv.slI (numbersS s)), .s (st a.data), .s (Policy.slP a.rules), .s (st a.key)], tc (i3 c)] (ofH []) (vc (i6 (fieldS (⟨a.op, a.token, a.path, a.other, a.n, a.cas, a.flag, numbersS s, a.data, a.rules, a.key⟩ : AskV) c))) (ofH [])] 122 [(6, vp 6 0), (7, vc (i6 (fieldS (⟨a.op, a.token, a.path, a.other, a.n, a.cas, a.flag, numbersS s, a.data, a.rules, a.key⟩ : AskV) c)))] [(6, AObj.row [.s (u8 a.op), .s (st a.token), .s (st a.path), .s (st a.other), .s (i6 a.n), .s (i6 a.cas), .s (bo a.flag), .s (AL.Fnv.slI (numbersS s)), .s (st a.data), .s (Policy.slP a.rules), .s (st a.key)])] mixed (field_c (⟨a.op, a.token, a.path, a.other, a.n, a.cas, a.flag, numbersS s, a.data, a.rules, a.key⟩ : AskV) c) ?_
          exact gT (AV.tup [TV.agg [.s (u8 a.op), .s (st a.token), .s (st a.path), .s (st a.other), .s (i6 a.n), .s (i6 a.cas), .s (bo a.flag), .s (AL.Fnv.slI (numbersS s)), .s (st a.data), .s (Policy.slP a.rules), .s (st a.key)], tc (i6 (fieldS (⟨a.op, a.token, a.path, a.other, a.n, a.cas, a.flag, numbersS s, a.data, a.rules, a.key⟩ : AskV) c))]) (by rw [show readA a c s = ((⟨a.op, a.token, a.path, a.other, a.n, a.cas, a.flag, numbersS s, a.data, a.rules, a.key⟩ : AskV), fieldS (⟨a.op, a.token, a.path, a.other, a.n, a.cas, a.flag, numbersS s, a.data, a.rules, a.key⟩ : AskV) c) from by first | (subst_vars; rfl) | (subst_vars; exact read_c (by assumption)) | (subst_vars; exact read_k _ _) | (subst_vars; exact read_l (by assumption)) | (subst_vars; exact read_d (by assumption)) | (subst_vars; exact read_r (by assumption) (by assumption)) | (exfalso; unfold LetI at hc; omega)])
         ·
          try simp only [xT, xF, xN, xM] at hc11
          refine AMx.skip ?_
          refine AMx.blk ?_
          refine gY [(3, CE.call [] [] (vc (i6 (fieldS a c))) [])] [(0, [3]), (1, [3]), (4, [6])] [Spec Tryz.prog 24 [TV.agg (rwA a), tc (i3 c)] (ofH []) (vc (i6 (fieldS a c))) (ofH [])] 122 [(6, vp 6 0), (7, vc (i6 (fieldS a c)))] [(6, AObj.row (rwA a))] mixed (field_c a c) ?_
          exact gT (AV.tup [TV.agg (rwA a), tc (i6 (fieldS a c))]) (by rw [show readA a c s = (a, fieldS a c) from by first | (subst_vars; rfl) | (subst_vars; exact read_c (by assumption)) | (subst_vars; exact read_k _ _) | (subst_vars; exact read_l (by assumption)) | (subst_vars; exact read_d (by assumption)) | (subst_vars; exact read_r (by assumption) (by assumption)) | (exfalso; unfold LetI at hc; omega)])
        ·
         refine gS [] [] 122 [(1, vc (i3 c)), (2, vc (st s)), (3, vp 3 0), (6, vp 6 0), (8, vc (bo (decide (s = [45])))), (9, vc (bo true)), (14, vc (i3 c)), (68, vc (bo (decide (c = 100))))] [(3, AObj.row (rwA a)), (6, AObj.row [.s (u8 0), .s (st []), .s (st []), .s (st []), .s (i6 0), .s (i6 0), .s (bo false), .s (SC.nilsl), .s (st []), .s (SC.nilsl), .s (st [])])] trivial ?_
         refine gC (c = 100) (fun hc12 => ?_) fun hc12 => ?_
         ·
          refine gQ ?_
          refine gS [] [] 122 [(2, vc (st s)), (3, vp 3 0), (6, vp 6 0), (9, vc (bo true)), (71, vc (bo (!(decide (s = [45])))))] [(3, AObj.row (rwA a)), (6, AObj.row [.s (u8 0), .s (st []), .s (st []), .s (st []), .s (i6 0), .s (i6 0), .s (bo false), .s (SC.nilsl), .s (st []), .s (SC.nilsl), .s (st [])])] trivial ?_
          refine gB (!(decide (s = [45]))) (fun hc13 => ?_) fun hc13 => ?_
          ·
           try simp only [xT, xF, xN, xM] at hc13
           refine gR [(1, CE.call [] [] (AV.tup [tc (st ((unhexS s).1)), tc (bo ((unhexS s).2))]) [])] [Spec Tryz.prog 18 [tc (st s)] (ofH []) (AV.tup [tc (st ((unhexS s).1)), tc (bo ((unhexS s).2))]) (ofH [])] 122 [(2, vc (st s)), (3, vp 3 0), (6, vp 6 0), (9, vc (bo ((unhexS s).2)))] [(3, AObj.row [.s (u8 a.op), .s (st a.token), .s (st a.path), .s (st a.other), .s (i6 a.n), .s (i6 a.cas), .s (bo a.flag), .s (AL.Fnv.slI a.ns), .s (st ((unhexS s).1)), .s (Policy.slP a.rules), .s (st a.key)]), (6, AObj.row [.s (u8 0), .s (st []), .s (st []), .s (st []), .s (i6 0), .s (i6 0), .s (bo false), .s (SC.nilsl), .s (st []), .s (SC.nilsl), .s (st [])])] (Unhex_c s (by omega)) ?_
           refine gY [(6, CE.call [] [] (vc (i6 (fineS (((unhexS s).2) && (!decide (s = [])))))) [])] [(0, [3]), (7, [6])] [(((unhexS s).2) = true) → allP [], (((unhexS s).2) = true) → allP [((unhexS s).2) = true], ((unhexS s).2) = true → allP [((unhexS s).2) = true], Spec Tryz.prog 43 [tc (bo (((unhexS s).2) && (!decide (s = []))))] (ofH []) (vc (i6 (fineS (((unhexS s).2) && (!decide (s = [])))))) (ofH [])] 122 [(6, vp 6 0), (7, vc (i6 (fineS (((unhexS s).2) && (!decide (s = []))))))] [(6, AObj.row [.s (u8 a.op), .s (st a.token), .s (st a.path), .s (st a.other), .s (i6 a.n), .s (i6 a.cas), .s (bo a.flag), .s (AL.Fnv.slI a.ns), .s (st ((unhexS s).1)), .s (Policy.slP a.rules), .s (st a.key)])] mixed ⟨(fun _ => trivial), (fun hp => hp), (fun hp2 => (by first | exact hp2 | exact ⟨hp, hp2⟩)), (fine_c (((unhexS s).2) && (!decide (s = []))))⟩ ?_
           exact gT (AV.tup [TV.agg [.s (u8 a.op), .s (st a.token), .s (st a.path), .s (st a.other), .s (i6 a.n), .s (i6 a.cas), .s (bo a.flag), .s (AL.Fnv.slI a.ns), .s (st ((unhexS s).1)), .s (Policy.slP a.rules), .s (st a.key)], tc (i6 (fineS (((unhexS s).2) && (!decide (s = [])))))]) (by rw [show readA a c s = ((⟨a.op, a.token, a.path, a.other, a.n, a.cas, a.flag, a.ns, (unhexS s).1, a.rules, a.key⟩ : AskV), fineS (((unhexS s).2) && (!decide (s = [])))) from by first | (subst_vars; rfl) | (subst_vars; exact read_c (by assumption)) | (subst_vars; exact read_k _ _) | (subst_vars; exact read_l (by assumption)) | (subst_vars; exact read_d (by assumption)) | (subst_vars; exact read_r (by assumption) (by assumption)) | (exfalso; unfold LetI at hc; omega)])
          ·
           try simp only [xT, xF, xN, xM] at hc13
           refine AMx.skip ?_
           refine gY [(6, CE.call [] [] (vc (i6 (fineS (!decide (s = []))))) [])] [(0, [3]), (7, [6])] [(true = true) → allP [], (true = true) → allP [true = true], true = true → allP [true = true], Spec Tryz.prog 43 [tc (bo (!decide (s = [])))] (ofH []) (vc (i6 (fineS (!decide (s = []))))) (ofH [])] 122 [(6, vp 6 0), (7, vc (i6 (fineS (!decide (s = [])))))] [(6, AObj.row (rwA a))] mixed ⟨(fun _ => trivial), (fun hp => hp), (fun hp2 => (by first | exact hp2 | exact ⟨hp, hp2⟩)), (fine_c (!decide (s = [])))⟩ ?_
           exact gT (AV.tup [TV.agg (rwA a), tc (i6 (fineS (!decide (s = []))))]) (by rw [show readA a c s = (a, fineS (!decide (s = []))) from by first | (subst_vars; rfl) | (subst_vars; exact read_c (by assumption)) | (subst_vars; exact read_k _ _) | (subst_vars; exact read_l (by assumption)) | (subst_vars; exact read_d (by assumption)) | (subst_vars; exact read_r (by assumption) (by assumption)) | (exfalso; unfold LetI at hc; omega)])
         ·
          refine gS [] [] 122 [(1, vc (i3 c)), (2, vc (st s)), (3, vp 3 0), (6, vp 6 0), (8, vc (bo (decide (s = [45])))), (14, vc (i3 c)), (85, vc (bo (decide (c = 114))))] [(3, AObj.row (rwA a)), (6, AObj.row [.s (u8 0), .s (st []), .s (st []), .s (st []), .s (i6 0), .s (i6 0), .s (bo false), .s (SC.nilsl), .s (st []), .s (SC.nilsl), .s (st [])])] trivial ?_
          refine gC (c = 114) (fun hc14 => ?_) fun hc14 => ?_
          ·
           refine gQ ?_
           refine gS [] [] 122 [(2, vc (st s)), (3, vp 3 0), (6, vp 6 0), (87, vc (bo (decide (s = [45]))))] [(3, AObj.row (rwA a)), (6, AObj.row [.s (u8 0), .s (st []), .s (st []), .s (st []), .s (i6 0), .s (i6 0), .s (bo false), .s (SC.nilsl), .s (st []), .s (SC.nilsl), .s (st [])])] trivial ?_
           refine gC (s = [45]) (fun hc15 => ?_) fun hc15 => ?_
           ·
            refine gS [] [] 122 [(6, vp 6 0), (7, vc (i6 0))] [(6, AObj.row (rwA a))] trivial ?_
            exact gT (AV.tup [TV.agg (rwA a), tc (i6 0)]) (by rw [show readA a c s = (a, 0) from by first | (subst_vars; rfl) | (subst_vars; exact read_c (by assumption)) | (subst_vars; exact read_k _ _) | (subst_vars; exact read_l (by assumption)) | (subst_vars; exact read_d (by assumption)) | (subst_vars; exact read_r (by assumption) (by assumption)) | (exfalso; unfold LetI at hc; omega)])
           ·
            refine AMx.skip ?_
            refine gS [(1, CE.call [] [] (AV.tup [tc (Policy.slP ((Policy.parseP s).1)), tc (i6 ((Policy.parseP s).2))]) [])] [Spec Tryz.prog 60 [tc (st s)] (ofH []) (AV.tup [tc (Policy.slP ((Policy.parseP s).1)), tc (i6 ((Policy.parseP s).2))]) (ofH [])] 122 [(2, vc (st s)), (3, vp 3 0), (6, vp 6 0), (10, vc (Policy.slP ((Policy.parseP s).1))), (11, vc (i6 ((Policy.parseP s).2)))] [(3, AObj.row (rwA a)), (6, AObj.row [.s (u8 0), .s (st []), .s (st []), .s (st []), .s (i6 0), .s (i6 0), .s (bo false), .s (SC.nilsl), .s (st []), .s (SC.nilsl), .s (st [])])] (Policy.Parse_c s (by omega)) ?_
            refine gQ ?_
            refine gS [] [] 122 [(3, vp 3 0), (6, vp 6 0), (10, vc (Policy.slP ((Policy.parseP s).1))), (11, vc (i6 ((Policy.parseP s).2))), (95, vc (bo (decide (s = []))))] [(3, AObj.row (rwA a)), (6, AObj.row [.s (u8 0), .s (st []), .s (st []), .s (st []), .s (i6 0), .s (i6 0), .s (bo false), .s (SC.nilsl), .s (st []), .s (SC.nilsl), .s (st [])])] trivial ?_
            refine gC (s = []) (fun hc16 => ?_) fun hc16 => ?_
            ·
             refine gS [] [] 122 [(6, vp 6 0), (7, vc (i6 4))] [(6, AObj.row (rwA a))] trivial ?_
             exact gT (AV.tup [TV.agg (rwA a), tc (i6 4)]) (by rw [show readA a c s = (a, 4) from by first | (subst_vars; rfl) | (subst_vars; exact read_c (by assumption)) | (subst_vars; exact read_k _ _) | (subst_vars; exact read_l (by assumption)) | (subst_vars; exact read_d (by assumption)) | (subst_vars; exact read_r (by assumption) (by assumption)) | (exfalso; unfold LetI at hc; omega)])
            ·
             refine AMx.skip ?_
             refine gS [] [] 122 [(3, vp 3 0), (6, vp 6 0), (11, vc (i6 ((Policy.parseP s).2)))] [(3, AObj.row [.s (u8 a.op), .s (st a.token), .s (st a.path), .s (st a.other), .s (i6 a.n), .s (i6 a.cas), .s (bo a.flag), .s (AL.Fnv.slI a.ns), .s (st a.data), .s (Policy.slP ((Policy.parseP s).1)), .s (st a.key)]), (6, AObj.row [.s (u8 0), .s (st []), .s (st []), .s (st []), .s (i6 0), .s (i6 0), .s (bo false), .s (SC.nilsl), .s (st []), .s (SC.nilsl), .s (st [])])] trivial ?_
             refine gS [] [] 122 [(6, vp 6 0), (7, vc (i6 ((Policy.parseP s).2)))] [(6, AObj.row [.s (u8 a.op), .s (st a.token), .s (st a.path), .s (st a.other), .s (i6 a.n), .s (i6 a.cas), .s (bo a.flag), .s (AL.Fnv.slI a.ns), .s (st a.data), .s (Policy.slP ((Policy.parseP s).1)), .s (st a.key)])] trivial ?_
             exact gT (AV.tup [TV.agg [.s (u8 a.op), .s (st a.token), .s (st a.path), .s (st a.other), .s (i6 a.n), .s (i6 a.cas), .s (bo a.flag), .s (AL.Fnv.slI a.ns), .s (st a.data), .s (Policy.slP ((Policy.parseP s).1)), .s (st a.key)], tc (i6 ((Policy.parseP s).2))]) (by rw [show readA a c s = ((⟨a.op, a.token, a.path, a.other, a.n, a.cas, a.flag, a.ns, a.data, (Policy.parseP s).1, a.key⟩ : AskV), (Policy.parseP s).2) from by first | (subst_vars; rfl) | (subst_vars; exact read_c (by assumption)) | (subst_vars; exact read_k _ _) | (subst_vars; exact read_l (by assumption)) | (subst_vars; exact read_d (by assumption)) | (subst_vars; exact read_r (by assumption) (by assumption)) | (exfalso; unfold LetI at hc; omega)])
          ·
           refine gS [] [] 122 [(1, vc (i3 c)), (2, vc (st s)), (3, vp 3 0), (6, vp 6 0), (101, vc (bo (decide (c = 107))))] [(3, AObj.row (rwA a)), (6, AObj.row [.s (u8 0), .s (st []), .s (st []), .s (st []), .s (i6 0), .s (i6 0), .s (bo false), .s (SC.nilsl), .s (st []), .s (SC.nilsl), .s (st [])])] trivial ?_
           refine gC (c = 107) (fun hc17 => ?_) fun hc17 => ?_
           ·
            refine gS [(1, CE.call [] [] (AV.tup [tc (st ((unhexS s).1)), tc (bo ((unhexS s).2))]) [])] [Spec Tryz.prog 18 [tc (st s)] (ofH []) (AV.tup [tc (st ((unhexS s).1)), tc (bo ((unhexS s).2))]) (ofH [])] 122 [(3, vp 3 0), (6, vp 6 0), (9, vc (bo ((unhexS s).2)))] [(3, AObj.row [.s (u8 a.op), .s (st a.token), .s (st a.path), .s (st a.other), .s (i6 a.n), .s (i6 a.cas), .s (bo a.flag), .s (AL.Fnv.slI a.ns), .s (st a.data), .s (Policy.slP a.rules), .s (st ((unhexS s).1))]), (6, AObj.row [.s (u8 0), .s (st []), .s (st []), .s (st []), .s (i6 0), .s (i6 0), .s (bo false), .s (SC.nilsl), .s (st []), .s (SC.nilsl), .s (st [])])] (Unhex_c s (by omega)) ?_
            refine gY [(8, CE.call [] [] (vc (i6 (fineS (((unhexS s).2) && (decide ((List.length ((unhexS s).1 : List UInt8) : Int) = 16)))))) [])] [(0, [3]), (4, [3]), (9, [6])] [(((unhexS s).2) = true) → allP [], (((unhexS s).2) = true) → allP [((unhexS s).2) = true], (((unhexS s).2) = true) → allP [((unhexS s).2) = true], (((unhexS s).2) = true) → allP [((unhexS s).2) = true], ((unhexS s).2) = true → allP [((unhexS s).2) = true], Spec Tryz.prog 43 [tc (bo (((unhexS s).2) && (decide ((List.length ((unhexS s).1 : List UInt8) : Int) = 16))))] (ofH []) (vc (i6 (fineS (((unhexS s).2) && (decide ((List.length ((unhexS s).1 : List UInt8) : Int) = 16)))))) (ofH [])] 122 [(6, vp 6 0), (7, vc (i6 (fineS (((unhexS s).2) && (decide ((List.length ((unhexS s).1 : List UInt8) : Int) = 16))))))] [(6, AObj.row [.s (u8 a.op), .s (st a.token), .s (st a.path), .s (st a.other), .s (i6 a.n), .s (i6 a.cas), .s (bo a.flag), .s (AL.Fnv.slI a.ns), .s (st a.data), .s (Policy.slP a.rules), .s (st ((unhexS s).1))])] mixed ⟨(fun _ => trivial), (fun hp => hp), (fun hp => hp), (fun hp => hp), (fun hp2 => (by first | exact hp2 | exact ⟨hp, hp2⟩)), (fine_c (((unhexS s).2) && (decide ((List.length ((unhexS s).1 : List UInt8) : Int) = 16))))⟩ ?_
            exact gT (AV.tup [TV.agg [.s (u8 a.op), .s (st a.token), .s (st a.path), .s (st a.other), .s (i6 a.n), .s (i6 a.cas), .s (bo a.flag), .s (AL.Fnv.slI a.ns), .s (st a.data), .s (Policy.slP a.rules), .s (st ((unhexS s).1))], tc (i6 (fineS (((unhexS s).2) && (decide ((List.length ((unhexS s).1 : List UInt8) : Int) = 16)))))]) (by rw [show readA a c s = ((⟨a.op, a.token, a.path, a.other, a.n, a.cas, a.flag, a.ns, a.data, a.rules, (unhexS s).1⟩ : AskV), fineS (((unhexS s).2) && (decide ((List.length ((unhexS s).1 : List UInt8) : Int) = 16)))) from by first | (subst_vars; rfl) | (subst_vars; exact read_c (by assumption)) | (subst_vars; exact read_k _ _) | (subst_vars; exact read_l (by assumption)) | (subst_vars; exact read_d (by assumption)) | (subst_vars; exact read_r (by assumption) (by assumption)) | (exfalso; unfold LetI at hc; omega)])
           ·
            refine AMx.skip ?_
            refine AMx.blk ?_
            refine gY [(3, CE.call [] [] (vc (i6 (fieldS a c))) [])] [(0, [3]), (1, [3]), (4, [6])] [Spec Tryz.prog 24 [TV.agg (rwA a), tc (i3 c)] (ofH []) (vc (i6 (fieldS a c))) (ofH [])] 122 [(6, vp 6 0), (7, vc (i6 (fieldS a c)))] [(6, AObj.row (rwA a))] mixed (field_c a c) ?_
            exact gT (AV.tup [TV.agg (rwA a), tc (i6 (fieldS a c))]) (by rw [show readA a c s = (a, fieldS a c) from by first | (subst_vars; rfl) | (subst_vars; exact read_c (by assumption)) | (subst_vars; exact read_k _ _) | (subst_vars; exact read_l (by assumption)) | (subst_vars; exact read_d (by assumption)) | (subst_vars; exact read_r (by assumption) (by assumption)) | (exfalso; unfold LetI at hc; omega)])
end AL.Ask
namespace AL.Ask
open Go Go.Proofs AL
set_option linter.unusedVariables false
set_option linter.unusedSimpArgs false
theorem f20_body : Tryz.f20.body = some (.seq (.region 0 (rg Tryz.f20 0) false) (.seq (.region 1 (rg Tryz.f20 1) false) (.seq (.region 2 (rg Tryz.f20 2) false) (.seq (.seq (.region 3 (rg Tryz.f20 3) false) (.block 0 (.loop (.seq (.region 4 (rg Tryz.f20 4) false) (.seq (.cond (.tmp 16) (.skip) (.exit 0)) (.block 1 (.seq (.region 5 (rg Tryz.f20 5) false) (.region 6 (rg Tryz.f20 6) false)))))))) (.seq (.region 7 (rg Tryz.f20 7) false) (.ret)))))) := by kernel_rfl
set_option maxRecDepth 100000 in
set_option maxHeartbeats 8000000 in
theorem line_c (a : AskV) (hf : fieldsC a (kindS a.op) = 0) (hb : a.data.length ≤ 100000) : Pure Tryz.prog 20 [TV.agg (rwA a)] (vc (st (lineA a))) := by
 refine Pure.of_body Tryz.func20 f20_body (by kernel_rfl) Tryz.ntmps20 (by kernel_rfl) (by kernel_rfl) ?_
 refine gS [] [] 25 [(1, vp 1 0)] [(1, AObj.row (rwA a))] trivial ?_
 refine gS [(2, CE.call [] [] (AV.t (TV.agg [.s (st (wordS a.op)), .s (st (kindS a.op))])) [])] [Spec Tryz.prog 23 [tc (u8 a.op)] (ofH []) (AV.t (TV.agg [.s (st (wordS a.op)), .s (st (kindS a.op))])) (ofH [])] 25 [(1, vp 1 0), (3, vp 3 0)] [(1, AObj.row (rwA a)), (3, AObj.row [.s (st (wordS a.op)), .s (st (kindS a.op))])] (formOf_c a.op) ?_
 refine gS [] [] 25 [(1, vp 1 0), (3, vp 3 0), (4, vc (st (wordS a.op)))] [(1, AObj.row (rwA a)), (3, AObj.row [.s (st (wordS a.op)), .s (st (kindS a.op))])] trivial ?_
 refine gQ ?_
 refine gS [] [] 25 [(1, vp 1 0), (4, vc (st (wordS a.op))), (14, vp 14 0)] [(1, AObj.row (rwA a)), (14, AObj.iter (kindS a.op) 0)] trivial ?_
 refine AMx.block ?_
 refine AMx.ent (s' := AS.lst 25 [(1, vp 1 0), (4, vc (st (wordS a.op))), (14, vp 14 0)] [(1, AObj.row (rwA a)), (14, AObj.iter (kindS a.op) 0)]) (ent_proj [1, 4, 14] [1, 14]) ?_
 refine AMx.loop (fun mm ss => ∃ (pos : Nat), (pos ≤ (kindS a.op).length) ∧ mm = (kindS a.op).length - pos ∧ ss = AS.lst 25 [(1, vp 1 0), (4, vc (st (lineF a (List.take pos (kindS a.op))))), (14, vp 14 0)] [(1, AObj.row (rwA a)), (14, AObj.iter (kindS a.op) pos)]) ⟨0, ?_, rfl, ?_⟩ ?_
 · omega
 · rw [line_0]
 rintro mm ss ⟨pos, hI, rfl, rfl⟩
 refine gQ ?_
 rcases Nat.lt_or_ge pos (List.length (kindS a.op : List UInt8)) with hn1 | hn1
 ·
  have hd1 := AL.Rune.dec_ok hn1
  refine gR [(0, CE.str [])] [pos < List.length (kindS a.op : List UInt8), ((pos : Nat) : Int) ≤ 9223372036854775807] 25 [(1, vp 1 0), (4, vc (st (lineF a (List.take pos (kindS a.op))))), (14, vp 14 0), (15, AV.tup [tc (bo true), tc (i6 (pos : Int)), tc (i3 ((decS (kindS a.op) pos).1 : Int))]), (16, vc (bo true))] [(1, AObj.row (rwA a)), (14, AObj.iter (kindS a.op) (pos + (decS (kindS a.op) pos).2))] ⟨(show pos < List.length (kindS a.op : List UInt8) from (by omega)), (show ((pos : Nat) : Int) ≤ 9223372036854775807 from (by first | omega | (have z := (kind_len a.op).1; omega) | (have z1 := line_len hf pos; have z2 := lay_len ((kind_let a.op).1 _ (Lib.getD_mem 0 _ pos (by omega))) (fields_all hf _ (Lib.getD_mem 0 _ pos (by omega))); (try simp only [List.length_append, List.length_cons, List.length_nil]); omega)))⟩ ?_
  rw [show pos + (decS (kindS a.op) pos).2 = pos + 1 from by rw [kind_dec a.op (by omega)]]
  rw [show (decS (kindS a.op) pos).1 = (List.getD (kindS a.op) pos 0).toNat from by rw [kind_dec a.op (by omega)]]
  refine gQ ?_
  refine gBt ?_
  refine AMx.skip ?_
  refine AMx.block ?_
  refine gS [] [] 25 [(1, vp 1 0), (4, vc (st (lineF a (List.take pos (kindS a.op))))), (6, vc (i3 ((List.getD (kindS a.op) pos 0).toNat : Int))), (14, vp 14 0)] [(1, AObj.row (rwA a)), (14, AObj.iter (kindS a.op) (pos + 1))] trivial ?_
  refine gR [(3, CE.call [] [] (vc (st (layA a ((List.getD (kindS a.op) pos 0).toNat : Int)))) [])] [Spec Tryz.prog 41 [TV.agg (rwA a), tc (i3 ((List.getD (kindS a.op) pos 0).toNat : Int))] (ofH []) (vc (st (layA a ((List.getD (kindS a.op) pos 0).toNat : Int)))) (ofH []), List.length ([32] : List UInt8) + List.length (layA a ((List.getD (kindS a.op) pos 0).toNat : Int) : List UInt8) ≤ maxLen, List.length (lineF a (List.take pos (kindS a.op)) : List UInt8) + List.length ([32] ++ (layA a ((List.getD (kindS a.op) pos 0).toNat : Int)) : List UInt8) ≤ maxLen] 25 [(1, vp 1 0), (4, vc (st ((lineF a (List.take pos (kindS a.op))) ++ ([32] ++ (layA a ((List.getD (kindS a.op) pos 0).toNat : Int)))))), (14, vp 14 0)] [(1, AObj.row (rwA a)), (14, AObj.iter (kindS a.op) (pos + 1))] ⟨(lay_c a ((List.getD (kindS a.op) pos 0).toNat : Int) (by exact (kind_let a.op).1 _ (Lib.getD_mem 0 _ pos (by omega))) (by exact fields_all hf _ (Lib.getD_mem 0 _ pos (by omega))) (by omega)), (show List.length ([32] : List UInt8) + List.length (layA a ((List.getD (kindS a.op) pos 0).toNat : Int) : List UInt8) ≤ maxLen from (by simp only [List.length_append, List.length_cons, List.length_nil, maxLen]; first | omega | (first | omega | (have z := (kind_len a.op).1; omega) | (have z1 := line_len hf pos; have z2 := lay_len ((kind_let a.op).1 _ (Lib.getD_mem 0 _ pos (by omega))) (fields_all hf _ (Lib.getD_mem 0 _ pos (by omega))); (try simp only [List.length_append, List.length_cons, List.length_nil]); omega)))), (show List.length (lineF a (List.take pos (kindS a.op)) : List UInt8) + List.length ([32] ++ (layA a ((List.getD (kindS a.op) pos 0).toNat : Int)) : List UInt8) ≤ maxLen from (by simp only [List.length_append, List.length_cons, List.length_nil, maxLen]; first | omega | (first | omega | (have z := (kind_len a.op).1; omega) | (have z1 := line_len hf pos; have z2 := lay_len ((kind_let a.op).1 _ (Lib.getD_mem 0 _ pos (by omega))) (fields_all hf _ (Lib.getD_mem 0 _ pos (by omega))); (try simp only [List.length_append, List.length_cons, List.length_nil]); omega))))⟩ ?_
  refine AMx.blk ?_
  refine AMx.ent_inv (s' := AS.lst 25 [(1, vp 1 0), (4, vc (st ((lineF a (List.take pos (kindS a.op))) ++ ([32] ++ (layA a ((List.getD (kindS a.op) pos 0).toNat : Int)))))), (14, vp 14 0)] [(1, AObj.row (rwA a)), (14, AObj.iter (kindS a.op) (pos + 1))]) (ent_proj [1, 4, 14] [1, 14]) ?_
  refine AMx.inv ⟨_, ?_, pos + 1, ?_, rfl, ?_⟩
  rotate_left
  · omega
  · rw [← line_step a (kindS a.op) pos (by omega)]
  · omega
 ·
  refine gR [] [List.length (kindS a.op : List UInt8) ≤ pos] 25 [(1, vp 1 0), (4, vc (st (lineF a (List.take pos (kindS a.op))))), (14, vp 14 0), (15, AV.tup [tc (bo false)]), (16, vc (bo false))] [(1, AObj.row (rwA a)), (14, AObj.iter (kindS a.op) pos)] (show List.length (kindS a.op : List UInt8) ≤ pos from (by omega)) ?_
  refine gQ ?_
  refine gBf ?_
  refine AMx.exit ?_
  refine AMx.code_exit ?_
  refine AMx.inv_exit ?_
  refine AMx.blk_exit ?_
  rw [show List.take pos (kindS a.op) = kindS a.op from List.take_of_length_le (by omega)]
  refine gS [] [] 25 [(2, vc (st (lineF a (kindS a.op))))] [] trivial ?_
  exact gT (vc (st (lineF a (kindS a.op)))) rfl
theorem f10_body : Tryz.f10.body = some (.seq (.region 0 (rg Tryz.f10 0) false) (.seq (.region 1 (rg Tryz.f10 1) false) (.seq (.seq (.region 2 (rg Tryz.f10 2) false) (.cond (.tmp 13) (.seq (.region 3 (rg Tryz.f10 3) false) (.ret)) (.skip))) (.seq (.region 4 (rg Tryz.f10 4) false) (.seq (.region 5 (rg Tryz.f10 5) false) (.seq (.seq (.region 6 (rg Tryz.f10 6) false) (.block 0 (.loop (.seq (.region 7 (rg Tryz.f10 7) false) (.seq (.cond (.tmp 20) (.skip) (.exit 0)) (.block 1 (.seq (.region 8 (rg Tryz.f10 8) false) (.seq (.seq (.region 9 (rg Tryz.f10 9) false) (.seq (.region 10 (rg Tryz.f10 10) false) (.cond (.tmp 26) (.seq (.region 11 (rg Tryz.f10 11) false) (.ret)) (.skip)))) (.region 12 (rg Tryz.f10 12) false))))))))) (.seq (.seq (.region 13 (rg Tryz.f10 13) false) (.cond (.tmp 34) (.seq (.region 14 (rg Tryz.f10 14) false) (.ret)) (.skip))) (.seq (.seq (.region 15 (rg Tryz.f10 15) false) (.cond (.tmp 38) (.seq (.region 16 (rg Tryz.f10 16) false) (.ret)) (.skip))) (.seq (.region 17 (rg Tryz.f10 17) false) (.ret)))))))))) := by kernel_rfl
set_option maxRecDepth 100000 in
set_option maxHeartbeats 8000000 in
theorem Check_c (a : AskV) (hb : a.data.length ≤ 100000) : Pure Tryz.prog 10 [TV.agg (rwA a)] (vc (i6 (checkA a))) := by
 refine Pure.of_body Tryz.func10 f10_body (by kernel_rfl) Tryz.ntmps10 (by kernel_rfl) (by kernel_rfl) ?_
 refine gS [] [] 39 [(1, vp 1 0)] [(1, AObj.row (rwA a))] trivial ?_
 refine gS [(2, CE.call [] [] (AV.t (TV.agg [.s (st (wordS a.op)), .s (st (kindS a.op))])) [])] [Spec Tryz.prog 23 [tc (u8 a.op)] (ofH []) (AV.t (TV.agg [.s (st (wordS a.op)), .s (st (kindS a.op))])) (ofH [])] 39 [(1, vp 1 0), (3, vp 3 0)] [(1, AObj.row (rwA a)), (3, AObj.row [.s (st (wordS a.op)), .s (st (kindS a.op))])] (formOf_c a.op) ?_
 refine gQ ?_
 refine gS [] [] 39 [(1, vp 1 0), (3, vp 3 0), (13, vc (bo (decide (wordS a.op = []))))] [(1, AObj.row (rwA a)), (3, AObj.row [.s (st (wordS a.op)), .s (st (kindS a.op))])] trivial ?_
 refine gC (wordS a.op = []) (fun hc1 => ?_) fun hc1 => ?_
 ·
  refine gS [] [] 39 [(2, vc (i6 22))] [] trivial ?_
  exact gT (vc (i6 22)) (by rw [show checkA a = 22 from check_22 hc1])
 ·
  refine AMx.skip ?_
  refine gS [] [] 39 [(1, vp 1 0), (3, vp 3 0), (4, vp 4 0)] [(1, AObj.row (rwA a)), (3, AObj.row [.s (st (wordS a.op)), .s (st (kindS a.op))]), (4, AObj.row (rwA a))] trivial ?_
  refine gS [] [] 39 [(1, vp 1 0), (3, vp 3 0), (4, vp 4 0)] [(1, AObj.row (rwA a)), (3, AObj.row [.s (st (wordS a.op)), .s (st (kindS a.op))]), (4, AObj.row [.s (u8 0), .s (st a.token), .s (st a.path), .s (st a.other), .s (i6 a.n), .s (i6 a.cas), .s (bo a.flag), .s (AL.Fnv.slI a.ns), .s (st a.data), .s (Policy.slP a.rules), .s (st a.key)])] trivial ?_
  refine gQ ?_
  refine gS [] [] 39 [(1, vp 1 0), (4, vp 4 0), (18, vp 18 0)] [(1, AObj.row (rwA a)), (4, AObj.row [.s (u8 0), .s (st a.token), .s (st a.path), .s (st a.other), .s (i6 a.n), .s (i6 a.cas), .s (bo a.flag), .s (AL.Fnv.slI a.ns), .s (st a.data), .s (Policy.slP a.rules), .s (st a.key)]), (18, AObj.iter (kindS a.op) 0)] trivial ?_
  refine AMx.block ?_
  refine AMx.ent (s' := AS.lst 39 [(1, vp 1 0), (4, vp 4 0), (18, vp 18 0)] [(1, AObj.row (rwA a)), (4, AObj.row [.s (u8 0), .s (st a.token), .s (st a.path), .s (st a.other), .s (i6 a.n), .s (i6 a.cas), .s (bo a.flag), .s (AL.Fnv.slI a.ns), .s (st a.data), .s (Policy.slP a.rules), .s (st a.key)]), (18, AObj.iter (kindS a.op) 0)]) (ent_proj [1, 4, 18] [1, 4, 18]) ?_
  refine AMx.loop (fun mm ss => ∃ (pos : Nat), (pos ≤ (kindS a.op).length ∧ FieldsAt a (kindS a.op) pos) ∧ mm = (kindS a.op).length - pos ∧ ss = AS.lst 39 [(1, vp 1 0), (4, vp 4 0), (18, vp 18 0)] [(1, AObj.row (rwA a)), (4, AObj.row (rwA (bareF a (List.take pos (kindS a.op))))), (18, AObj.iter (kindS a.op) pos)]) ⟨0, ?_, rfl, ?_⟩ ?_
  · exact ⟨Nat.zero_le _, fields_0 a _⟩
  · rfl
  rintro mm ss ⟨pos, ⟨hI, hN⟩, rfl, rfl⟩
  refine gQ ?_
  rcases Nat.lt_or_ge pos (List.length (kindS a.op : List UInt8)) with hn1 | hn1
  ·
   have hd1 := AL.Rune.dec_ok hn1
   refine gR [(0, CE.str [])] [pos < List.length (kindS a.op : List UInt8), ((pos : Nat) : Int) ≤ 9223372036854775807] 39 [(1, vp 1 0), (4, vp 4 0), (18, vp 18 0), (19, AV.tup [tc (bo true), tc (i6 (pos : Int)), tc (i3 ((decS (kindS a.op) pos).1 : Int))]), (20, vc (bo true))] [(1, AObj.row (rwA a)), (4, AObj.row (rwA (bareF a (List.take pos (kindS a.op))))), (18, AObj.iter (kindS a.op) (pos + (decS (kindS a.op) pos).2))] ⟨(show pos < List.length (kindS a.op : List UInt8) from (by omega)), (show ((pos : Nat) : Int) ≤ 9223372036854775807 from (by first | omega | (have z := (kind_len a.op).1; omega)))⟩ ?_
   rw [show pos + (decS (kindS a.op) pos).2 = pos + 1 from by rw [kind_dec a.op (by omega)]]
   rw [show (decS (kindS a.op) pos).1 = (List.getD (kindS a.op) pos 0).toNat from by rw [kind_dec a.op (by omega)]]
   refine gQ ?_
   refine gBt ?_
   refine AMx.skip ?_
   refine AMx.block ?_
   refine gS [] [] 39 [(1, vp 1 0), (4, vp 4 0), (6, vc (i3 ((List.getD (kindS a.op) pos 0).toNat : Int))), (18, vp 18 0)] [(1, AObj.row (rwA a)), (4, AObj.row (rwA (bareF a (List.take pos (kindS a.op))))), (18, AObj.iter (kindS a.op) (pos + 1))] trivial ?_
   refine gQ ?_
   refine gS [(2, CE.call [] [] (vc (i6 (fieldS a ((List.getD (kindS a.op) pos 0).toNat : Int)))) [])] [Spec Tryz.prog 24 [TV.agg (rwA a), tc (i3 ((List.getD (kindS a.op) pos 0).toNat : Int))] (ofH []) (vc (i6 (fieldS a ((List.getD (kindS a.op) pos 0).toNat : Int)))) (ofH [])] 39 [(1, vp 1 0), (4, vp 4 0), (6, vc (i3 ((List.getD (kindS a.op) pos 0).toNat : Int))), (7, vc (i6 (fieldS a ((List.getD (kindS a.op) pos 0).toNat : Int)))), (18, vp 18 0)] [(1, AObj.row (rwA a)), (4, AObj.row (rwA (bareF a (List.take pos (kindS a.op))))), (18, AObj.iter (kindS a.op) (pos + 1))] (field_c a ((List.getD (kindS a.op) pos 0).toNat : Int)) ?_
   refine gS [] [] 39 [(1, vp 1 0), (4, vp 4 0), (6, vc (i3 ((List.getD (kindS a.op) pos 0).toNat : Int))), (7, vc (i6 (fieldS a ((List.getD (kindS a.op) pos 0).toNat : Int)))), (18, vp 18 0), (26, vc (bo (!decide (fieldS a ((List.getD (kindS a.op) pos 0).toNat : Int) = 0))))] [(1, AObj.row (rwA a)), (4, AObj.row (rwA (bareF a (List.take pos (kindS a.op))))), (18, AObj.iter (kindS a.op) (pos + 1))] trivial ?_
   refine gN (fieldS a ((List.getD (kindS a.op) pos 0).toNat : Int) = 0) (fun hc3 => ?_) fun hc3 => ?_
   ·
    refine gS [] [] 39 [(2, vc (i6 (fieldS a ((List.getD (kindS a.op) pos 0).toNat : Int))))] [] trivial ?_
    exact gT (vc (i6 (fieldS a ((List.getD (kindS a.op) pos 0).toNat : Int)))) (by rw [show checkA a = fieldS a ((List.getD (kindS a.op) pos 0).toNat : Int) from by have hz := fun q => fields_end (a := a) (l := kindS a.op) (k := pos) q hN; first | exact check_22 hc1 | exact check_f hc1 (by omega) hN (by assumption) | exact check_2 hc1 (hz (by omega)) (by assumption) | exact check_5 hc1 (hz (by omega)) (by assumption) (by assumption) | exact check_0 hc1 (hz (by omega)) (by assumption) (by assumption)])
   ·
    refine AMx.skip ?_
    refine gR [(2, CE.call [] [] (AV.t (TV.agg (rwA (withoutS (bareF a (List.take pos (kindS a.op))) ((List.getD (kindS a.op) pos 0).toNat : Int))))) [])] [Spec Tryz.prog 25 [TV.agg (rwA (bareF a (List.take pos (kindS a.op)))), tc (i3 ((List.getD (kindS a.op) pos 0).toNat : Int))] (ofH []) (AV.t (TV.agg (rwA (withoutS (bareF a (List.take pos (kindS a.op))) ((List.getD (kindS a.op) pos 0).toNat : Int))))) (ofH [])] 39 [(1, vp 1 0), (4, vp 4 0), (18, vp 18 0)] [(1, AObj.row (rwA a)), (4, AObj.row (rwA (withoutS (bareF a (List.take pos (kindS a.op))) ((List.getD (kindS a.op) pos 0).toNat : Int)))), (18, AObj.iter (kindS a.op) (pos + 1))] (without_c (bareF a (List.take pos (kindS a.op))) ((List.getD (kindS a.op) pos 0).toNat : Int)) ?_
    refine AMx.blk ?_
    refine AMx.ent_inv (s' := AS.lst 39 [(1, vp 1 0), (4, vp 4 0), (18, vp 18 0)] [(1, AObj.row (rwA a)), (4, AObj.row (rwA (withoutS (bareF a (List.take pos (kindS a.op))) ((List.getD (kindS a.op) pos 0).toNat : Int)))), (18, AObj.iter (kindS a.op) (pos + 1))]) (ent_proj [1, 4, 18] [1, 4, 18]) ?_
    refine AMx.inv ⟨_, ?_, pos + 1, ?_, rfl, ?_⟩
    rotate_left
    · exact ⟨by omega, fields_step (by omega) hN (by assumption)⟩
    · rw [← bare_step a (kindS a.op) pos (by omega)]
    · omega
  ·
   refine gR [] [List.length (kindS a.op : List UInt8) ≤ pos] 39 [(1, vp 1 0), (4, vp 4 0), (18, vp 18 0), (19, AV.tup [tc (bo false)]), (20, vc (bo false))] [(1, AObj.row (rwA a)), (4, AObj.row (rwA (bareF a (List.take pos (kindS a.op))))), (18, AObj.iter (kindS a.op) pos)] (show List.length (kindS a.op : List UInt8) ≤ pos from (by omega)) ?_
   refine gQ ?_
   refine gBf ?_
   refine AMx.exit ?_
   refine AMx.code_exit ?_
   refine AMx.inv_exit ?_
   refine AMx.blk_exit ?_
   rw [show List.take pos (kindS a.op) = kindS a.op from List.take_of_length_le (by omega)]
   refine gQ ?_
   refine gS [(2, CE.call [] [] (vc (bo (decide ((bareF a (kindS a.op)) = (⟨0, [], [], [], 0, 0, false, [], [], [], []⟩ : AskV))))) [])] [Spec Tryz.prog 12 [TV.agg (rwA (bareF a (kindS a.op))), TV.agg [.s (u8 0), .s (st []), .s (st []), .s (st []), .s (i6 0), .s (i6 0), .s (bo false), .s (SC.nilsl), .s (st []), .s (SC.nilsl), .s (st [])]] (ofH []) (vc (bo (decide ((bareF a (kindS a.op)) = (⟨0, [], [], [], 0, 0, false, [], [], [], []⟩ : AskV))))) (ofH [])] 39 [(1, vp 1 0), (34, vc (bo (!(decide ((bareF a (kindS a.op)) = (⟨0, [], [], [], 0, 0, false, [], [], [], []⟩ : AskV))))))] [(1, AObj.row (rwA a))] (Spec.weak (args' := [TV.agg (rwA (bareF a (kindS a.op))), TV.agg [.s (u8 0), .s (st []), .s (st []), .s (st []), .s (i6 0), .s (i6 0), .s (bo false), .s (AL.Fnv.slI []), .s (st []), .s (Policy.slP []), .s (st [])]]) ⟨TV.le_rfl, (TV.le_agg (l := [.s (u8 0), .s (st []), .s (st []), .s (st []), .s (i6 0), .s (i6 0), .s (bo false), .s (SC.nilsl), .s (st []), .s (SC.nilsl), .s (st [])]) (m := [.s (u8 ((⟨0, [], [], [], 0, 0, false, [], [], [], []⟩ : AskV).op)), .s (st ((⟨0, [], [], [], 0, 0, false, [], [], [], []⟩ : AskV).token)), .s (st ((⟨0, [], [], [], 0, 0, false, [], [], [], []⟩ : AskV).path)), .s (st ((⟨0, [], [], [], 0, 0, false, [], [], [], []⟩ : AskV).other)), .s (i6 ((⟨0, [], [], [], 0, 0, false, [], [], [], []⟩ : AskV).n)), .s (i6 ((⟨0, [], [], [], 0, 0, false, [], [], [], []⟩ : AskV).cas)), .s (bo ((⟨0, [], [], [], 0, 0, false, [], [], [], []⟩ : AskV).flag)), .s (AL.Fnv.slI ((⟨0, [], [], [], 0, 0, false, [], [], [], []⟩ : AskV).ns)), .s (st ((⟨0, [], [], [], 0, 0, false, [], [], [], []⟩ : AskV).data)), .s (Policy.slP ((⟨0, [], [], [], 0, 0, false, [], [], [], []⟩ : AskV).rules)), .s (st ((⟨0, [], [], [], 0, 0, false, [], [], [], []⟩ : AskV).key))]) ⟨AC.le_rfl, AC.le_rfl, AC.le_rfl, AC.le_rfl, AC.le_rfl, AC.le_rfl, AC.le_rfl, AC.le_nil, AC.le_rfl, AC.le_nil, AC.le_rfl, trivial⟩), trivial⟩ (Same_c (bareF a (kindS a.op)) (⟨0, [], [], [], 0, 0, false, [], [], [], []⟩ : AskV))) ?_
   refine gB (!(decide ((bareF a (kindS a.op)) = (⟨0, [], [], [], 0, 0, false, [], [], [], []⟩ : AskV)))) (fun hc5 => ?_) fun hc5 => ?_
   ·
    try simp only [xT, xF, xN, xM] at hc5
    refine gS [] [] 39 [(2, vc (i6 2))] [] trivial ?_
    exact gT (vc (i6 2)) (by rw [show checkA a = 2 from by have hz := fun q => fields_end (a := a) (l := kindS a.op) (k := pos) q hN; first | exact check_22 hc1 | exact check_f hc1 (by omega) hN (by assumption) | exact check_2 hc1 (hz (by omega)) (by assumption) | exact check_5 hc1 (hz (by omega)) (by assumption) (by assumption) | exact check_0 hc1 (hz (by omega)) (by assumption) (by assumption)])
   ·
    try simp only [xT, xF, xN, xM] at hc5
    refine AMx.skip ?_
    refine gQ ?_
    refine gS [(1, CE.call [] [] (vc (st (lineA a))) [])] [Spec Tryz.prog 20 [TV.agg (rwA a)] (ofH []) (vc (st (lineA a))) (ofH [])] 39 [(38, vc (bo (decide (400 < (List.length (lineA a : List UInt8) : Int)))))] [] (line_c a (by exact fields_end (by omega) hN) (by omega)) ?_
    refine gC (400 < (List.length (lineA a : List UInt8) : Int)) (fun hc6 => ?_) fun hc6 => ?_
    ·
     refine gS [] [] 39 [(2, vc (i6 5))] [] trivial ?_
     exact gT (vc (i6 5)) (by rw [show checkA a = 5 from by have hz := fun q => fields_end (a := a) (l := kindS a.op) (k := pos) q hN; first | exact check_22 hc1 | exact check_f hc1 (by omega) hN (by assumption) | exact check_2 hc1 (hz (by omega)) (by assumption) | exact check_5 hc1 (hz (by omega)) (by assumption) (by assumption) | exact check_0 hc1 (hz (by omega)) (by assumption) (by assumption)])
    ·
     refine AMx.skip ?_
     refine gS [] [] 39 [(2, vc (i6 0))] [] trivial ?_
     exact gT (vc (i6 0)) (by rw [show checkA a = 0 from by have hz := fun q => fields_end (a := a) (l := kindS a.op) (k := pos) q hN; first | exact check_22 hc1 | exact check_f hc1 (by omega) hN (by assumption) | exact check_2 hc1 (hz (by omega)) (by assumption) | exact check_5 hc1 (hz (by omega)) (by assumption) (by assumption) | exact check_0 hc1 (hz (by omega)) (by assumption) (by assumption)])
theorem f7_body : Tryz.f7.body = some (.seq (.region 0 (rg Tryz.f7 0) false) (.seq (.seq (.region 1 (rg Tryz.f7 1) false) (.seq (.region 2 (rg Tryz.f7 2) false) (.cond (.tmp 8) (.seq (.region 3 (rg Tryz.f7 3) false) (.ret)) (.skip)))) (.seq (.region 4 (rg Tryz.f7 4) false) (.ret)))) := by kernel_rfl
set_option maxRecDepth 100000 in
set_option maxHeartbeats 8000000 in
theorem Text_c (a : AskV) (hb : a.data.length ≤ 100000) : Pure Tryz.prog 7 [TV.agg (rwA a)] (AV.tup [tc (st ((textA a).1)), tc (i6 ((textA a).2))]) := by
 refine Pure.of_body Tryz.func7 f7_body (by kernel_rfl) Tryz.ntmps7 (by kernel_rfl) (by kernel_rfl) ?_
 refine gS [] [] 12 [(1, vp 1 0)] [(1, AObj.row (rwA a))] trivial ?_
 refine gQ ?_
 refine gS [(1, CE.call [] [] (vc (i6 (checkA a))) [])] [Spec Tryz.prog 10 [TV.agg (rwA a)] (ofH []) (vc (i6 (checkA a))) (ofH [])] 12 [(1, vp 1 0), (4, vc (i6 (checkA a)))] [(1, AObj.row (rwA a))] (Check_c a (by omega)) ?_
 refine gS [] [] 12 [(1, vp 1 0), (4, vc (i6 (checkA a))), (8, vc (bo (!decide (checkA a = 0))))] [(1, AObj.row (rwA a))] trivial ?_
 refine gN (checkA a = 0) (fun hc1 => ?_) fun hc1 => ?_
 ·
  refine gS [] [] 12 [(2, vc (st [])), (3, vc (i6 (checkA a)))] [] trivial ?_
  exact gT (AV.tup [tc (st []), tc (i6 (checkA a))]) (by rw [show textA a = ([], checkA a) from by first | rw [text_no (by assumption)] | rw [text_ok (by assumption)]])
 ·
  refine AMx.skip ?_
  refine gS [(1, CE.call [] [] (vc (st (lineA a))) [])] [Spec Tryz.prog 20 [TV.agg (rwA a)] (ofH []) (vc (st (lineA a))) (ofH [])] 12 [(2, vc (st (lineA a))), (3, vc (i6 0))] [] (line_c a (by exact (check_ok (by assumption)).2.1) (by omega)) ?_
  exact gT (AV.tup [tc (st (lineA a)), tc (i6 0)]) (by rw [show textA a = (lineA a, 0) from by first | rw [text_no (by assumption)] | rw [text_ok (by assumption)]])
end AL.Ask
namespace AL.Ask
open Go Go.Proofs AL
set_option linter.unusedVariables false
set_option linter.unusedSimpArgs false
theorem f14_body : Tryz.f14.body = some (.seq (.region 0 (rg Tryz.f14 0) false) (.seq (.seq (.region 1 (rg Tryz.f14 1) false) (.cond (.tmp 12) (.seq (.region 2 (rg Tryz.f14 2) false) (.ret)) (.skip))) (.seq (.region 3 (rg Tryz.f14 3) false) (.seq (.region 4 (rg Tryz.f14 4) false) (.seq (.seq (.region 5 (rg Tryz.f14 5) false) (.cond (.tmp 23) (.seq (.region 6 (rg Tryz.f14 6) false) (.ret)) (.skip))) (.seq (.region 7 (rg Tryz.f14 7) false) (.seq (.seq (.region 8 (rg Tryz.f14 8) false) (.cond (.tmp 34) (.seq (.region 9 (rg Tryz.f14 9) false) (.ret)) (.skip))) (.seq (.seq (.region 10 (rg Tryz.f14 10) false) (.block 0 (.loop (.seq (.region 11 (rg Tryz.f14 11) false) (.seq (.cond (.tmp 39) (.skip) (.exit 0)) (.block 1 (.seq (.region 12 (rg Tryz.f14 12) false) (.seq (.region 13 (rg Tryz.f14 13) false) (.seq (.region 14 (rg Tryz.f14 14) true) (.seq (.region 15 (rg Tryz.f14 15) false) (.cond (.tmp 54) (.seq (.region 16 (rg Tryz.f14 16) false) (.ret)) (.skip)))))))))))) (.seq (.region 17 (rg Tryz.f14 17) false) (.ret)))))))))) := by kernel_rfl
set_option maxRecDepth 100000 in
set_option maxHeartbeats 8000000 in
theorem Parse_c (s : Bytes) : Pure Tryz.prog 14 [tc (st s)] (AV.tup [TV.agg (rwA ((parseA s).1)), tc (i6 ((parseA s).2))]) := by
 refine Pure.of_body Tryz.func14 f14_body (by kernel_rfl) Tryz.ntmps14 (by kernel_rfl) (by kernel_rfl) ?_
 obtain ⟨op, hop⟩ : ∃ op, op = opS (List.getD (AL.Sep.splitC 32 s) 0 []) := ⟨_, rfl⟩
 have hsl := Sep.split_len 32 s
 have hor := op_rng (List.getD (AL.Sep.splitC 32 s) 0 [])
 rw [← hop] at hor
 refine gS [] [] 58 [(0, vc (st s)), (2, vp 2 0)] [(2, AObj.row [.s (u8 0), .s (st []), .s (st []), .s (st []), .s (i6 0), .s (i6 0), .s (bo false), .s (SC.nilsl), .s (st []), .s (SC.nilsl), .s (st [])])] trivial ?_
 refine gQ ?_
 refine gS [] [] 58 [(0, vc (st s)), (2, vp 2 0), (12, vc (bo (decide (400 < (List.length s : Int)))))] [(2, AObj.row [.s (u8 0), .s (st []), .s (st []), .s (st []), .s (i6 0), .s (i6 0), .s (bo false), .s (SC.nilsl), .s (st []), .s (SC.nilsl), .s (st [])])] trivial ?_
 refine gC (400 < (List.length s : Int)) (fun hc1 => ?_) fun hc1 => ?_
 ·
  refine gS [] [] 58 [(2, vp 2 0), (3, vc (i6 5))] [(2, AObj.row [.s (u8 0), .s (st []), .s (st []), .s (st []), .s (i6 0), .s (i6 0), .s (bo false), .s (SC.nilsl), .s (st []), .s (SC.nilsl), .s (st [])])] trivial ?_
  refine AMx.ent (ent_row 2 (l := [.s (u8 0), .s (st []), .s (st []), .s (st []), .s (i6 0), .s (i6 0), .s (bo false), .s (SC.nilsl), .s (st []), .s (SC.nilsl), .s (st [])]) (m := [.s (u8 0), .s (st []), .s (st []), .s (st []), .s (i6 0), .s (i6 0), .s (bo false), .s (AL.Fnv.slI []), .s (st []), .s (Policy.slP []), .s (st [])]) (by kernel_rfl) ⟨AC.le_rfl, AC.le_rfl, AC.le_rfl, AC.le_rfl, AC.le_rfl, AC.le_rfl, AC.le_rfl, AC.le_nil, AC.le_rfl, AC.le_nil, AC.le_rfl, trivial⟩) ?_
  exact gT (AV.tup [TV.agg [.s (u8 0), .s (st []), .s (st []), .s (st []), .s (i6 0), .s (i6 0), .s (bo false), .s (AL.Fnv.slI []), .s (st []), .s (Policy.slP []), .s (st [])], tc (i6 5)]) (by rw [show parseA s = ((⟨0, [], [], [], 0, 0, false, [], [], [], []⟩ : AskV), 5) from by first | exact parse_5 (by omega) | exact parse_22 hop (by omega) (by assumption) | exact parse_4 hop (by omega) (by assumption) (by assumption) | exact parse_e hop (by omega) (by assumption) (by omega) (by omega) hN (by assumption) | exact parse_0 hop (by omega) (by assumption) (by omega) (by omega) hN])
 ·
  refine AMx.skip ?_
  refine gS [(1, CE.call [] [] (vc (AL.Fnv.slS (AL.Sep.splitC 32 s))) [])] [Spec Tryz.prog 33 [tc (st s), tc (st [32])] (ofH []) (vc (AL.Fnv.slS (AL.Sep.splitC 32 s))) (ofH [])] 58 [(2, vp 2 0), (4, vc (AL.Fnv.slS (AL.Sep.splitC 32 s)))] [(2, AObj.row [.s (u8 0), .s (st []), .s (st []), .s (st []), .s (i6 0), .s (i6 0), .s (bo false), .s (SC.nilsl), .s (st []), .s (SC.nilsl), .s (st [])])] (AL.Sep.Split_c 32 s (by omega)) ?_
  refine gS [(3, CE.call [] [] (vc (u8 (opS (List.getD (AL.Sep.splitC 32 s) 0 [])))) [])] [(0 : Int) ≤ 0, (0 : Int) < List.length (AL.Sep.splitC 32 s : List Bytes), Spec Tryz.prog 34 [tc (st (List.getD (AL.Sep.splitC 32 s) 0 []))] (ofH []) (vc (u8 (opS (List.getD (AL.Sep.splitC 32 s) 0 [])))) (ofH [])] 58 [(2, vp 2 0), (4, vc (AL.Fnv.slS (AL.Sep.splitC 32 s))), (5, vp 5 0)] [(2, AObj.row [.s (u8 0), .s (st []), .s (st []), .s (st []), .s (i6 0), .s (i6 0), .s (bo false), .s (SC.nilsl), .s (st []), .s (SC.nilsl), .s (st [])]), (5, AObj.row [.s (u8 (opS (List.getD (AL.Sep.splitC 32 s) 0 []))), .s (st []), .s (st []), .s (st []), .s (i6 0), .s (i6 0), .s (bo false), .s (SC.nilsl), .s (st []), .s (SC.nilsl), .s (st [])])] ⟨(show (0 : Int) ≤ 0 from (by omega)), (show (0 : Int) < List.length (AL.Sep.splitC 32 s : List Bytes) from (by omega)), (opOf_c (List.getD (AL.Sep.splitC 32 s) 0 []))⟩ ?_
  rw [show opS (List.getD (AL.Sep.splitC 32 s) 0 []) = op from hop.symm]
  refine gQ ?_
  refine gS [] [] 58 [(2, vp 2 0), (4, vc (AL.Fnv.slS (AL.Sep.splitC 32 s))), (5, vp 5 0), (23, vc (bo (decide (op = 0))))] [(2, AObj.row [.s (u8 0), .s (st []), .s (st []), .s (st []), .s (i6 0), .s (i6 0), .s (bo false), .s (SC.nilsl), .s (st []), .s (SC.nilsl), .s (st [])]), (5, AObj.row [.s (u8 op), .s (st []), .s (st []), .s (st []), .s (i6 0), .s (i6 0), .s (bo false), .s (SC.nilsl), .s (st []), .s (SC.nilsl), .s (st [])])] trivial ?_
  refine gC (op = 0) (fun hc2 => ?_) fun hc2 => ?_
  ·
   refine gS [] [] 58 [(2, vp 2 0), (3, vc (i6 22))] [(2, AObj.row [.s (u8 0), .s (st []), .s (st []), .s (st []), .s (i6 0), .s (i6 0), .s (bo false), .s (SC.nilsl), .s (st []), .s (SC.nilsl), .s (st [])])] trivial ?_
   refine AMx.ent (ent_row 2 (l := [.s (u8 0), .s (st []), .s (st []), .s (st []), .s (i6 0), .s (i6 0), .s (bo false), .s (SC.nilsl), .s (st []), .s (SC.nilsl), .s (st [])]) (m := [.s (u8 0), .s (st []), .s (st []), .s (st []), .s (i6 0), .s (i6 0), .s (bo false), .s (AL.Fnv.slI []), .s (st []), .s (Policy.slP []), .s (st [])]) (by kernel_rfl) ⟨AC.le_rfl, AC.le_rfl, AC.le_rfl, AC.le_rfl, AC.le_rfl, AC.le_rfl, AC.le_rfl, AC.le_nil, AC.le_rfl, AC.le_nil, AC.le_rfl, trivial⟩) ?_
   exact gT (AV.tup [TV.agg [.s (u8 0), .s (st []), .s (st []), .s (st []), .s (i6 0), .s (i6 0), .s (bo false), .s (AL.Fnv.slI []), .s (st []), .s (Policy.slP []), .s (st [])], tc (i6 22)]) (by rw [show parseA s = ((⟨0, [], [], [], 0, 0, false, [], [], [], []⟩ : AskV), 22) from by first | exact parse_5 (by omega) | exact parse_22 hop (by omega) (by assumption) | exact parse_4 hop (by omega) (by assumption) (by assumption) | exact parse_e hop (by omega) (by assumption) (by omega) (by omega) hN (by assumption) | exact parse_0 hop (by omega) (by assumption) (by omega) (by omega) hN])
  ·
   refine AMx.skip ?_
   refine gS [(2, CE.call [] [] (AV.t (TV.agg [.s (st (wordS op)), .s (st (kindS op))])) [])] [Spec Tryz.prog 23 [tc (u8 op)] (ofH []) (AV.t (TV.agg [.s (st (wordS op)), .s (st (kindS op))])) (ofH [])] 58 [(2, vp 2 0), (4, vc (AL.Fnv.slS (AL.Sep.splitC 32 s))), (5, vp 5 0), (6, vc (st (kindS op)))] [(2, AObj.row [.s (u8 0), .s (st []), .s (st []), .s (st []), .s (i6 0), .s (i6 0), .s (bo false), .s (SC.nilsl), .s (st []), .s (SC.nilsl), .s (st [])]), (5, AObj.row [.s (u8 op), .s (st []), .s (st []), .s (st []), .s (i6 0), .s (i6 0), .s (bo false), .s (SC.nilsl), .s (st []), .s (SC.nilsl), .s (st [])])] (formOf_c op) ?_
   refine gQ ?_
   refine gS [] [InR .i64 (1 + (List.length (kindS op : List UInt8) : Int))] 58 [(2, vp 2 0), (4, vc (AL.Fnv.slS (AL.Sep.splitC 32 s))), (5, vp 5 0), (6, vc (st (kindS op))), (34, vc (bo (!decide ((List.length (AL.Sep.splitC 32 s : List Bytes) : Int) = 1 + (List.length (kindS op : List UInt8) : Int)))))] [(2, AObj.row [.s (u8 0), .s (st []), .s (st []), .s (st []), .s (i6 0), .s (i6 0), .s (bo false), .s (SC.nilsl), .s (st []), .s (SC.nilsl), .s (st [])]), (5, AObj.row [.s (u8 op), .s (st []), .s (st []), .s (st []), .s (i6 0), .s (i6 0), .s (bo false), .s (SC.nilsl), .s (st []), .s (SC.nilsl), .s (st [])])] (show InR .i64 (1 + (List.length (kindS op : List UInt8) : Int)) from (inR64 (by omega) (by first | omega | (have z := (kind_len op).1; omega) | (have z := Sep.mem_len (Lib.getD_mem [] (AL.Sep.splitC 32 s) (1 + pos) (by omega)); omega)))) ?_
   refine gN ((List.length (AL.Sep.splitC 32 s : List Bytes) : Int) = 1 + (List.length (kindS op : List UInt8) : Int)) (fun hc3 => ?_) fun hc3 => ?_
   ·
    refine gS [] [] 58 [(2, vp 2 0), (3, vc (i6 4))] [(2, AObj.row [.s (u8 0), .s (st []), .s (st []), .s (st []), .s (i6 0), .s (i6 0), .s (bo false), .s (SC.nilsl), .s (st []), .s (SC.nilsl), .s (st [])])] trivial ?_
    refine AMx.ent (ent_row 2 (l := [.s (u8 0), .s (st []), .s (st []), .s (st []), .s (i6 0), .s (i6 0), .s (bo false), .s (SC.nilsl), .s (st []), .s (SC.nilsl), .s (st [])]) (m := [.s (u8 0), .s (st []), .s (st []), .s (st []), .s (i6 0), .s (i6 0), .s (bo false), .s (AL.Fnv.slI []), .s (st []), .s (Policy.slP []), .s (st [])]) (by kernel_rfl) ⟨AC.le_rfl, AC.le_rfl, AC.le_rfl, AC.le_rfl, AC.le_rfl, AC.le_rfl, AC.le_rfl, AC.le_nil, AC.le_rfl, AC.le_nil, AC.le_rfl, trivial⟩) ?_
    exact gT (AV.tup [TV.agg [.s (u8 0), .s (st []), .s (st []), .s (st []), .s (i6 0), .s (i6 0), .s (bo false), .s (AL.Fnv.slI []), .s (st []), .s (Policy.slP []), .s (st [])], tc (i6 4)]) (by rw [show parseA s = ((⟨0, [], [], [], 0, 0, false, [], [], [], []⟩ : AskV), 4) from by first | exact parse_5 (by omega) | exact parse_22 hop (by omega) (by assumption) | exact parse_4 hop (by omega) (by assumption) (by assumption) | exact parse_e hop (by omega) (by assumption) (by omega) (by omega) hN (by assumption) | exact parse_0 hop (by omega) (by assumption) (by omega) (by omega) hN])
   ·
    refine AMx.skip ?_
    refine gQ ?_
    refine gS [] [] 58 [(2, vp 2 0), (4, vc (AL.Fnv.slS (AL.Sep.splitC 32 s))), (5, vp 5 0), (37, vp 37 0)] [(2, AObj.row [.s (u8 0), .s (st []), .s (st []), .s (st []), .s (i6 0), .s (i6 0), .s (bo false), .s (SC.nilsl), .s (st []), .s (SC.nilsl), .s (st [])]), (5, AObj.row [.s (u8 op), .s (st []), .s (st []), .s (st []), .s (i6 0), .s (i6 0), .s (bo false), .s (SC.nilsl), .s (st []), .s (SC.nilsl), .s (st [])]), (37, AObj.iter (kindS op) 0)] trivial ?_
    refine AMx.block ?_
    refine AMx.ent (ent_row 5 (l := [.s (u8 op), .s (st []), .s (st []), .s (st []), .s (i6 0), .s (i6 0), .s (bo false), .s (SC.nilsl), .s (st []), .s (SC.nilsl), .s (st [])]) (m := [.s (u8 op), .s (st []), .s (st []), .s (st []), .s (i6 0), .s (i6 0), .s (bo false), .s (AL.Fnv.slI []), .s (st []), .s (Policy.slP []), .s (st [])]) (by kernel_rfl) ⟨AC.le_rfl, AC.le_rfl, AC.le_rfl, AC.le_rfl, AC.le_rfl, AC.le_rfl, AC.le_rfl, AC.le_nil, AC.le_rfl, AC.le_nil, AC.le_rfl, trivial⟩) ?_
    refine AMx.ent (s' := AS.lst 58 [(2, vp 2 0), (4, vc (AL.Fnv.slS (AL.Sep.splitC 32 s))), (5, vp 5 0), (37, vp 37 0)] [(2, AObj.row [.s (u8 0), .s (st []), .s (st []), .s (st []), .s (i6 0), .s (i6 0), .s (bo false), .s (SC.nilsl), .s (st []), .s (SC.nilsl), .s (st [])]), (5, AObj.row [.s (u8 op), .s (st []), .s (st []), .s (st []), .s (i6 0), .s (i6 0), .s (bo false), .s (AL.Fnv.slI []), .s (st []), .s (Policy.slP []), .s (st [])]), (37, AObj.iter (kindS op) 0)]) (ent_proj [2, 4, 5, 37] [2, 5, 37]) ?_
    refine AMx.loop (fun mm ss => ∃ (pos : Nat) (b : AskV), (pos ≤ (kindS op).length ∧ ReadAt ({ askd with op := op } : AskV) (kindS op) (List.drop 1 (AL.Sep.splitC 32 s)) pos b) ∧ mm = (kindS op).length - pos ∧ ss = AS.lst 58 [(2, vp 2 0), (4, vc (AL.Fnv.slS (AL.Sep.splitC 32 s))), (5, vp 5 0), (37, vp 37 0)] [(2, AObj.row [.s (u8 0), .s (st []), .s (st []), .s (st []), .s (i6 0), .s (i6 0), .s (bo false), .s (SC.nilsl), .s (st []), .s (SC.nilsl), .s (st [])]), (5, AObj.row (rwA b)), (37, AObj.iter (kindS op) pos)]) ⟨0, ({ askd with op := op } : AskV), ?_, rfl, ?_⟩ ?_
    · exact ⟨Nat.zero_le _, readat_0 _ _ _⟩
    · rfl
    rintro mm ss ⟨pos, b, ⟨hI, hN⟩, rfl, rfl⟩
    refine gQ ?_
    rcases Nat.lt_or_ge pos (List.length (kindS op : List UInt8)) with hn1 | hn1
    ·
     have hd1 := AL.Rune.dec_ok hn1
     refine gR [(0, CE.str [])] [pos < List.length (kindS op : List UInt8), ((pos : Nat) : Int) ≤ 9223372036854775807] 58 [(2, vp 2 0), (4, vc (AL.Fnv.slS (AL.Sep.splitC 32 s))), (5, vp 5 0), (37, vp 37 0), (38, AV.tup [tc (bo true), tc (i6 (pos : Int)), tc (i3 ((decS (kindS op) pos).1 : Int))]), (39, vc (bo true))] [(2, AObj.row [.s (u8 0), .s (st []), .s (st []), .s (st []), .s (i6 0), .s (i6 0), .s (bo false), .s (SC.nilsl), .s (st []), .s (SC.nilsl), .s (st [])]), (5, AObj.row (rwA b)), (37, AObj.iter (kindS op) (pos + (decS (kindS op) pos).2))] ⟨(show pos < List.length (kindS op : List UInt8) from (by omega)), (show ((pos : Nat) : Int) ≤ 9223372036854775807 from (by first | omega | (have z := (kind_len op).1; omega) | (have z := Sep.mem_len (Lib.getD_mem [] (AL.Sep.splitC 32 s) (1 + pos) (by omega)); omega)))⟩ ?_
     rw [show pos + (decS (kindS op) pos).2 = pos + 1 from by rw [kind_dec op (by omega)]]
     rw [show (decS (kindS op) pos).1 = (List.getD (kindS op) pos 0).toNat from by rw [kind_dec op (by omega)]]
     refine gQ ?_
     refine gBt ?_
     refine AMx.skip ?_
     refine AMx.block ?_
     refine gS [] [] 58 [(2, vp 2 0), (4, vc (AL.Fnv.slS (AL.Sep.splitC 32 s))), (5, vp 5 0), (7, vc (i6 (pos : Int))), (8, vc (i3 ((List.getD (kindS op) pos 0).toNat : Int))), (37, vp 37 0)] [(2, AObj.row [.s (u8 0), .s (st []), .s (st []), .s (st []), .s (i6 0), .s (i6 0), .s (bo false), .s (SC.nilsl), .s (st []), .s (SC.nilsl), .s (st [])]), (5, AObj.row (rwA b)), (37, AObj.iter (kindS op) (pos + 1))] trivial ?_
     refine gS [] [] 58 [(2, vp 2 0), (4, vc (AL.Fnv.slS (AL.Sep.splitC 32 s))), (5, vp 5 0), (7, vc (i6 (pos : Int))), (8, vc (i3 ((List.getD (kindS op) pos 0).toNat : Int))), (37, vp 37 0)] [(2, AObj.row [.s (u8 0), .s (st []), .s (st []), .s (st []), .s (i6 0), .s (i6 0), .s (bo false), .s (SC.nilsl), .s (st []), .s (SC.nilsl), .s (st [])]), (5, AObj.row (rwA b)), (37, AObj.iter (kindS op) (pos + 1))] trivial ?_
     refine gY [(7, CE.call [] [] (AV.tup [TV.agg (rwA ((readA b ((List.getD (kindS op) pos 0).toNat : Int) (List.getD (AL.Sep.splitC 32 s) (1 + pos) [])).1)), tc (i6 ((readA b ((List.getD (kindS op) pos 0).toNat : Int) (List.getD (AL.Sep.splitC 32 s) (1 + pos) [])).2))]) [])] [(0, [5]), (11, [5])] [InR .i64 (1 + (pos : Int)), (0 : Int) ≤ 1 + (pos : Int), 1 + (pos : Int) < List.length (AL.Sep.splitC 32 s : List Bytes), Spec Tryz.prog 35 [TV.agg (rwA b), tc (i3 ((List.getD (kindS op) pos 0).toNat : Int)), tc (st (List.getD (AL.Sep.splitC 32 s) (1 + pos) []))] (ofH []) (AV.tup [TV.agg (rwA ((readA b ((List.getD (kindS op) pos 0).toNat : Int) (List.getD (AL.Sep.splitC 32 s) (1 + pos) [])).1)), tc (i6 ((readA b ((List.getD (kindS op) pos 0).toNat : Int) (List.getD (AL.Sep.splitC 32 s) (1 + pos) [])).2))]) (ofH [])] 58 [(2, vp 2 0), (4, vc (AL.Fnv.slS (AL.Sep.splitC 32 s))), (5, vp 5 0), (9, vc (i6 ((readA b ((List.getD (kindS op) pos 0).toNat : Int) (List.getD (AL.Sep.splitC 32 s) (1 + pos) [])).2))), (37, vp 37 0)] [(2, AObj.row [.s (u8 0), .s (st []), .s (st []), .s (st []), .s (i6 0), .s (i6 0), .s (bo false), .s (SC.nilsl), .s (st []), .s (SC.nilsl), .s (st [])]), (5, AObj.row (rwA ((readA b ((List.getD (kindS op) pos 0).toNat : Int) (List.getD (AL.Sep.splitC 32 s) (1 + pos) [])).1))), (37, AObj.iter (kindS op) (pos + 1))] mixed ⟨(show InR .i64 (1 + (pos : Int)) from (inR64 (by omega) (by first | omega | (have z := (kind_len op).1; omega) | (have z := Sep.mem_len (Lib.getD_mem [] (AL.Sep.splitC 32 s) (1 + pos) (by omega)); omega)))), (show (0 : Int) ≤ 1 + (pos : Int) from (by omega)), (show 1 + (pos : Int) < List.length (AL.Sep.splitC 32 s : List Bytes) from (by omega)), (read_c2 b ((List.getD (kindS op) pos 0).toNat : Int) (List.getD (AL.Sep.splitC 32 s) (1 + pos) []) (by exact (kind_let op).1 _ (Lib.getD_mem 0 _ pos (by omega))) (by first | omega | (have z := (kind_len op).1; omega) | (have z := Sep.mem_len (Lib.getD_mem [] (AL.Sep.splitC 32 s) (1 + pos) (by omega)); omega)))⟩ ?_
     refine gS [] [] 58 [(2, vp 2 0), (4, vc (AL.Fnv.slS (AL.Sep.splitC 32 s))), (5, vp 5 0), (9, vc (i6 ((readA b ((List.getD (kindS op) pos 0).toNat : Int) (List.getD (AL.Sep.splitC 32 s) (1 + pos) [])).2))), (37, vp 37 0), (54, vc (bo (!decide ((readA b ((List.getD (kindS op) pos 0).toNat : Int) (List.getD (AL.Sep.splitC 32 s) (1 + pos) [])).2 = 0))))] [(2, AObj.row [.s (u8 0), .s (st []), .s (st []), .s (st []), .s (i6 0), .s (i6 0), .s (bo false), .s (SC.nilsl), .s (st []), .s (SC.nilsl), .s (st [])]), (5, AObj.row (rwA ((readA b ((List.getD (kindS op) pos 0).toNat : Int) (List.getD (AL.Sep.splitC 32 s) (1 + pos) [])).1))), (37, AObj.iter (kindS op) (pos + 1))] trivial ?_
     refine gN ((readA b ((List.getD (kindS op) pos 0).toNat : Int) (List.getD (AL.Sep.splitC 32 s) (1 + pos) [])).2 = 0) (fun hc5 => ?_) fun hc5 => ?_
     ·
      refine gS [] [] 58 [(2, vp 2 0), (3, vc (i6 ((readA b ((List.getD (kindS op) pos 0).toNat : Int) (List.getD (AL.Sep.splitC 32 s) (1 + pos) [])).2)))] [(2, AObj.row [.s (u8 0), .s (st []), .s (st []), .s (st []), .s (i6 0), .s (i6 0), .s (bo false), .s (SC.nilsl), .s (st []), .s (SC.nilsl), .s (st [])])] trivial ?_
      refine AMx.ent (ent_row 2 (l := [.s (u8 0), .s (st []), .s (st []), .s (st []), .s (i6 0), .s (i6 0), .s (bo false), .s (SC.nilsl), .s (st []), .s (SC.nilsl), .s (st [])]) (m := [.s (u8 0), .s (st []), .s (st []), .s (st []), .s (i6 0), .s (i6 0), .s (bo false), .s (AL.Fnv.slI []), .s (st []), .s (Policy.slP []), .s (st [])]) (by kernel_rfl) ⟨AC.le_rfl, AC.le_rfl, AC.le_rfl, AC.le_rfl, AC.le_rfl, AC.le_rfl, AC.le_rfl, AC.le_nil, AC.le_rfl, AC.le_nil, AC.le_rfl, trivial⟩) ?_
      exact gT (AV.tup [TV.agg [.s (u8 0), .s (st []), .s (st []), .s (st []), .s (i6 0), .s (i6 0), .s (bo false), .s (AL.Fnv.slI []), .s (st []), .s (Policy.slP []), .s (st [])], tc (i6 ((readA b ((List.getD (kindS op) pos 0).toNat : Int) (List.getD (AL.Sep.splitC 32 s) (1 + pos) [])).2))]) (by rw [show parseA s = ((⟨0, [], [], [], 0, 0, false, [], [], [], []⟩ : AskV), (readA b ((List.getD (kindS op) pos 0).toNat : Int) (List.getD (AL.Sep.splitC 32 s) (1 + pos) [])).2) from by first | exact parse_5 (by omega) | exact parse_22 hop (by omega) (by assumption) | exact parse_4 hop (by omega) (by assumption) (by assumption) | exact parse_e hop (by omega) (by assumption) (by omega) (by omega) hN (by assumption) | exact parse_0 hop (by omega) (by assumption) (by omega) (by omega) hN])
     ·
      refine AMx.skip ?_
      refine AMx.blk ?_
      refine AMx.ent_inv (s' := AS.lst 58 [(2, vp 2 0), (4, vc (AL.Fnv.slS (AL.Sep.splitC 32 s))), (5, vp 5 0), (37, vp 37 0)] [(2, AObj.row [.s (u8 0), .s (st []), .s (st []), .s (st []), .s (i6 0), .s (i6 0), .s (bo false), .s (SC.nilsl), .s (st []), .s (SC.nilsl), .s (st [])]), (5, AObj.row (rwA ((readA b ((List.getD (kindS op) pos 0).toNat : Int) (List.getD (AL.Sep.splitC 32 s) (1 + pos) [])).1))), (37, AObj.iter (kindS op) (pos + 1))]) (ent_proj [2, 4, 5, 37] [2, 5, 37]) ?_
      refine AMx.inv ⟨_, ?_, pos + 1, (readA b ((List.getD (kindS op) pos 0).toNat : Int) (List.getD (AL.Sep.splitC 32 s) (1 + pos) [])).1, ?_, rfl, ?_⟩
      rotate_left
      · exact ⟨by omega, readat_next (by omega) hN (by assumption)⟩
      · rfl
      · omega
    ·
     refine gR [] [List.length (kindS op : List UInt8) ≤ pos] 58 [(2, vp 2 0), (4, vc (AL.Fnv.slS (AL.Sep.splitC 32 s))), (5, vp 5 0), (37, vp 37 0), (38, AV.tup [tc (bo false)]), (39, vc (bo false))] [(2, AObj.row [.s (u8 0), .s (st []), .s (st []), .s (st []), .s (i6 0), .s (i6 0), .s (bo false), .s (SC.nilsl), .s (st []), .s (SC.nilsl), .s (st [])]), (5, AObj.row (rwA b)), (37, AObj.iter (kindS op) pos)] (show List.length (kindS op : List UInt8) ≤ pos from (by omega)) ?_
     refine gQ ?_
     refine gBf ?_
     refine AMx.exit ?_
     refine AMx.code_exit ?_
     refine AMx.inv_exit ?_
     refine AMx.blk_exit ?_
     refine gS [] [] 58 [(2, vp 2 0), (3, vc (i6 0))] [(2, AObj.row (rwA b))] trivial ?_
     exact gT (AV.tup [TV.agg (rwA b), tc (i6 0)]) (by rw [show parseA s = (b, 0) from by first | exact parse_5 (by omega) | exact parse_22 hop (by omega) (by assumption) | exact parse_4 hop (by omega) (by assumption) (by assumption) | exact parse_e hop (by omega) (by assumption) (by omega) (by omega) hN (by assumption) | exact parse_0 hop (by omega) (by assumption) (by omega) (by omega) hN])
end AL.Ask
namespace AL.Ask
open Go AL
open AL.Sep (splitC joinC)
open AL.Policy (RuleV textP parseP checkP)
set_option linter.unusedVariables false
set_option linter.unusedSimpArgs false
def aw1 : AskV := ⟨10, [114, 111, 111, 116], [116, 101, 97, 109, 47, 97, 112, 112], [], 0, -1, false, [], [97, 98], [], []⟩
def aw2 : AskV := ⟨11, [114, 111, 111, 116], [97], [], 0, 0, false, [1, 2], [], [], []⟩
end AL.Ask
namespace AL.Ask
open Go Go.Proofs AL
set_option linter.unusedVariables false
set_option linter.unusedSimpArgs false
theorem f16_body : Tryz.f16.body = some (.seq (.region 0 (rg Tryz.f16 0) false) (.seq (.region 1 (rg Tryz.f16 1) true) (.ret))) := by kernel_rfl
set_option maxRecDepth 100000 in
set_option maxHeartbeats 8000000 in
theorem Back_c (a : AskV) (hl : a.rules.length ≤ 100000) : Pure Tryz.prog 16 [TV.agg (rwA a)] (AV.t (TV.agg (rwA a))) := by
 refine Pure.of_body Tryz.func16 f16_body (by kernel_rfl) Tryz.ntmps16 (by kernel_rfl) (by kernel_rfl) ?_
 refine gS [] [] 27 [(1, vp 1 0), (2, vp 2 0)] [(1, AObj.row (rwA a)), (2, AObj.row [.s (u8 0), .s (st []), .s (st []), .s (st []), .s (i6 0), .s (i6 0), .s (bo false), .s (SC.nilsl), .s (st []), .s (SC.nilsl), .s (st [])])] trivial ?_
 refine gY [(20, CE.call [] [] (vc (Policy.slP a.rules)) [])] [(1, [1]), (3, [1]), (5, [1]), (7, [1]), (9, [1]), (11, [1]), (13, [1]), (15, [1]), (17, [1]), (19, [1]), (22, [1]), (24, [2])] [Spec Tryz.prog 39 [tc (Policy.slP a.rules)] (ofH []) (vc (Policy.slP a.rules)) (ofH [])] 27 [(2, vp 2 0)] [(2, AObj.row (rwA a))] mixed (Policy.Back_c a.rules (by omega)) ?_
 exact gT (AV.t (TV.agg (rwA a))) rfl
theorem f6_body : Tryz.f6.body = some (.seq (.region 0 (rg Tryz.f6 0) false) (.seq (.region 1 (rg Tryz.f6 1) false) (.seq (.region 2 (rg Tryz.f6 2) false) (.seq (.region 3 (rg Tryz.f6 3) false) (.seq (.region 4 (rg Tryz.f6 4) false) (.seq (.region 5 (rg Tryz.f6 5) false) (.seq (.region 6 (rg Tryz.f6 6) false) (.seq (.region 7 (rg Tryz.f6 7) false) (.seq (.region 8 (rg Tryz.f6 8) false) (.ret)))))))))) := by kernel_rfl
set_option maxRecDepth 100000 in
set_option maxHeartbeats 8000000 in
theorem awake_c  : Pure Tryz.prog 6 [] (vc (bo true)) := by
 refine Pure.of_body Tryz.func6 f6_body (by kernel_rfl) Tryz.ntmps6 (by kernel_rfl) (by kernel_rfl) ?_
 refine gS [] [] 120 [] [] trivial ?_
 refine gS [(0, CE.call [] [] (AV.tup [TV.agg (rwA ((parseA [119, 114, 105, 116, 101, 32, 114, 111, 111, 116, 32, 116, 101, 97, 109, 47, 97, 112, 112, 32, 45, 32, 54, 49, 54, 50]).1)), tc (i6 ((parseA [119, 114, 105, 116, 101, 32, 114, 111, 111, 116, 32, 116, 101, 97, 109, 47, 97, 112, 112, 32, 45, 32, 54, 49, 54, 50]).2))]) [])] [Spec Tryz.prog 14 [tc (st [119, 114, 105, 116, 101, 32, 114, 111, 111, 116, 32, 116, 101, 97, 109, 47, 97, 112, 112, 32, 45, 32, 54, 49, 54, 50])] (ofH []) (AV.tup [TV.agg (rwA ((parseA [119, 114, 105, 116, 101, 32, 114, 111, 111, 116, 32, 116, 101, 97, 109, 47, 97, 112, 112, 32, 45, 32, 54, 49, 54, 50]).1)), tc (i6 ((parseA [119, 114, 105, 116, 101, 32, 114, 111, 111, 116, 32, 116, 101, 97, 109, 47, 97, 112, 112, 32, 45, 32, 54, 49, 54, 50]).2))]) (ofH [])] 120 [(1, vp 1 0), (2, vc (i6 ((parseA [119, 114, 105, 116, 101, 32, 114, 111, 111, 116, 32, 116, 101, 97, 109, 47, 97, 112, 112, 32, 45, 32, 54, 49, 54, 50]).2)))] [(1, AObj.row (rwA ((parseA [119, 114, 105, 116, 101, 32, 114, 111, 111, 116, 32, 116, 101, 97, 109, 47, 97, 112, 112, 32, 45, 32, 54, 49, 54, 50]).1)))] (Parse_c [119, 114, 105, 116, 101, 32, 114, 111, 111, 116, 32, 116, 101, 97, 109, 47, 97, 112, 112, 32, 45, 32, 54, 49, 54, 50]) ?_
 rw [show (parseA [119, 114, 105, 116, 101, 32, 114, 111, 111, 116, 32, 116, 101, 97, 109, 47, 97, 112, 112, 32, 45, 32, 54, 49, 54, 50]).1 = aw1 from by decide +kernel]
 rw [show (parseA [119, 114, 105, 116, 101, 32, 114, 111, 111, 116, 32, 116, 101, 97, 109, 47, 97, 112, 112, 32, 45, 32, 54, 49, 54, 50]).2 = 0 from by decide +kernel]
 refine gS [(1, CE.call [] [] (AV.tup [tc (st ((textA aw1).1)), tc (i6 ((textA aw1).2))]) [])] [Spec Tryz.prog 7 [TV.agg (rwA aw1)] (ofH []) (AV.tup [tc (st ((textA aw1).1)), tc (i6 ((textA aw1).2))]) (ofH [])] 120 [(1, vp 1 0), (2, vc (i6 0)), (3, vc (st ((textA aw1).1))), (4, vc (i6 ((textA aw1).2)))] [(1, AObj.row (rwA aw1))] (Text_c aw1 (by first | omega | decide +kernel)) ?_
 rw [show (textA aw1).1 = [119, 114, 105, 116, 101, 32, 114, 111, 111, 116, 32, 116, 101, 97, 109, 47, 97, 112, 112, 32, 45, 32, 54, 49, 54, 50] from by decide +kernel]
 rw [show (textA aw1).2 = 0 from by decide +kernel]
 refine gS [(0, CE.call [] [] (AV.tup [TV.agg (rwA ((parseA [119, 114, 116, 101, 32, 114, 111, 111, 116]).1)), tc (i6 ((parseA [119, 114, 116, 101, 32, 114, 111, 111, 116]).2))]) [])] [Spec Tryz.prog 14 [tc (st [119, 114, 116, 101, 32, 114, 111, 111, 116])] (ofH []) (AV.tup [TV.agg (rwA ((parseA [119, 114, 116, 101, 32, 114, 111, 111, 116]).1)), tc (i6 ((parseA [119, 114, 116, 101, 32, 114, 111, 111, 116]).2))]) (ofH [])] 120 [(1, vp 1 0), (2, vc (i6 0)), (3, vc (st [119, 114, 105, 116, 101, 32, 114, 111, 111, 116, 32, 116, 101, 97, 109, 47, 97, 112, 112, 32, 45, 32, 54, 49, 54, 50])), (4, vc (i6 0)), (6, vc (i6 ((parseA [119, 114, 116, 101, 32, 114, 111, 111, 116]).2)))] [(1, AObj.row (rwA aw1))] (Parse_c [119, 114, 116, 101, 32, 114, 111, 111, 116]) ?_
 rw [show (parseA [119, 114, 116, 101, 32, 114, 111, 111, 116]).2 = 22 from by decide +kernel]
 refine gS [(0, CE.call [] [] (AV.tup [TV.agg (rwA ((parseA [115, 101, 97, 108]).1)), tc (i6 ((parseA [115, 101, 97, 108]).2))]) [])] [Spec Tryz.prog 14 [tc (st [115, 101, 97, 108])] (ofH []) (AV.tup [TV.agg (rwA ((parseA [115, 101, 97, 108]).1)), tc (i6 ((parseA [115, 101, 97, 108]).2))]) (ofH [])] 120 [(1, vp 1 0), (2, vc (i6 0)), (3, vc (st [119, 114, 105, 116, 101, 32, 114, 111, 111, 116, 32, 116, 101, 97, 109, 47, 97, 112, 112, 32, 45, 32, 54, 49, 54, 50])), (4, vc (i6 0)), (6, vc (i6 22)), (8, vc (i6 ((parseA [115, 101, 97, 108]).2)))] [(1, AObj.row (rwA aw1))] (Parse_c [115, 101, 97, 108]) ?_
 rw [show (parseA [115, 101, 97, 108]).2 = 4 from by decide +kernel]
 refine gS [(0, CE.call [] [] (AV.tup [TV.agg (rwA ((parseA [114, 101, 97, 100, 32, 114, 111, 111, 116, 32, 97, 47, 47, 98, 32, 49]).1)), tc (i6 ((parseA [114, 101, 97, 100, 32, 114, 111, 111, 116, 32, 97, 47, 47, 98, 32, 49]).2))]) [])] [Spec Tryz.prog 14 [tc (st [114, 101, 97, 100, 32, 114, 111, 111, 116, 32, 97, 47, 47, 98, 32, 49])] (ofH []) (AV.tup [TV.agg (rwA ((parseA [114, 101, 97, 100, 32, 114, 111, 111, 116, 32, 97, 47, 47, 98, 32, 49]).1)), tc (i6 ((parseA [114, 101, 97, 100, 32, 114, 111, 111, 116, 32, 97, 47, 47, 98, 32, 49]).2))]) (ofH [])] 120 [(1, vp 1 0), (2, vc (i6 0)), (3, vc (st [119, 114, 105, 116, 101, 32, 114, 111, 111, 116, 32, 116, 101, 97, 109, 47, 97, 112, 112, 32, 45, 32, 54, 49, 54, 50])), (4, vc (i6 0)), (6, vc (i6 22)), (8, vc (i6 4)), (10, vc (i6 ((parseA [114, 101, 97, 100, 32, 114, 111, 111, 116, 32, 97, 47, 47, 98, 32, 49]).2)))] [(1, AObj.row (rwA aw1))] (Parse_c [114, 101, 97, 100, 32, 114, 111, 111, 116, 32, 97, 47, 47, 98, 32, 49]) ?_
 rw [show (parseA [114, 101, 97, 100, 32, 114, 111, 111, 116, 32, 97, 47, 47, 98, 32, 49]).2 = 4 from by decide +kernel]
 refine gS [(0, CE.call [] [] (AV.tup [TV.agg (rwA ((parseA [100, 101, 108, 101, 116, 101, 32, 114, 111, 111, 116, 32, 97, 32, 49, 44, 50]).1)), tc (i6 ((parseA [100, 101, 108, 101, 116, 101, 32, 114, 111, 111, 116, 32, 97, 32, 49, 44, 50]).2))]) [])] [Spec Tryz.prog 14 [tc (st [100, 101, 108, 101, 116, 101, 32, 114, 111, 111, 116, 32, 97, 32, 49, 44, 50])] (ofH []) (AV.tup [TV.agg (rwA ((parseA [100, 101, 108, 101, 116, 101, 32, 114, 111, 111, 116, 32, 97, 32, 49, 44, 50]).1)), tc (i6 ((parseA [100, 101, 108, 101, 116, 101, 32, 114, 111, 111, 116, 32, 97, 32, 49, 44, 50]).2))]) (ofH [])] 120 [(1, vp 1 0), (2, vc (i6 0)), (3, vc (st [119, 114, 105, 116, 101, 32, 114, 111, 111, 116, 32, 116, 101, 97, 109, 47, 97, 112, 112, 32, 45, 32, 54, 49, 54, 50])), (4, vc (i6 0)), (6, vc (i6 22)), (8, vc (i6 4)), (10, vc (i6 4)), (11, vp 11 0), (12, vc (i6 ((parseA [100, 101, 108, 101, 116, 101, 32, 114, 111, 111, 116, 32, 97, 32, 49, 44, 50]).2)))] [(1, AObj.row (rwA aw1)), (11, AObj.row (rwA ((parseA [100, 101, 108, 101, 116, 101, 32, 114, 111, 111, 116, 32, 97, 32, 49, 44, 50]).1)))] (Parse_c [100, 101, 108, 101, 116, 101, 32, 114, 111, 111, 116, 32, 97, 32, 49, 44, 50]) ?_
 rw [show (parseA [100, 101, 108, 101, 116, 101, 32, 114, 111, 111, 116, 32, 97, 32, 49, 44, 50]).1 = aw2 from by decide +kernel]
 rw [show (parseA [100, 101, 108, 101, 116, 101, 32, 114, 111, 111, 116, 32, 97, 32, 49, 44, 50]).2 = 0 from by decide +kernel]
 refine gS [(0, CE.call [] [] (AV.tup [tc (st ((unhexS [54, 49, 54, 50]).1)), tc (bo ((unhexS [54, 49, 54, 50]).2))]) [])] [Spec Tryz.prog 18 [tc (st [54, 49, 54, 50])] (ofH []) (AV.tup [tc (st ((unhexS [54, 49, 54, 50]).1)), tc (bo ((unhexS [54, 49, 54, 50]).2))]) (ofH [])] 120 [(1, vp 1 0), (2, vc (i6 0)), (3, vc (st [119, 114, 105, 116, 101, 32, 114, 111, 111, 116, 32, 116, 101, 97, 109, 47, 97, 112, 112, 32, 45, 32, 54, 49, 54, 50])), (4, vc (i6 0)), (6, vc (i6 22)), (8, vc (i6 4)), (10, vc (i6 4)), (11, vp 11 0), (12, vc (i6 0)), (13, vc (st ((unhexS [54, 49, 54, 50]).1))), (14, vc (bo ((unhexS [54, 49, 54, 50]).2)))] [(1, AObj.row (rwA aw1)), (11, AObj.row (rwA aw2))] (Unhex_c [54, 49, 54, 50] (by first | omega | decide +kernel)) ?_
 rw [show (unhexS [54, 49, 54, 50]).1 = [97, 98] from by decide +kernel]
 rw [show (unhexS [54, 49, 54, 50]).2 = true from by decide +kernel]
 refine gS [(60, CE.call [] [] (vc (st (hexS [97, 98]))) []), (72, CE.call [] [] (vc (bo (decide (aw1 = aw1)))) [])] [(true = true) → allP [], (true = true) → allP [true = true], (true = true) → allP [true = true], true = true → allP [true = true], ((decide (aw1.op = 10)) = true) → allP [], ((decide (aw1.op = 10)) = true) → allP [(decide (aw1.op = 10)) = true], ((decide (aw1.op = 10)) = true) → allP [(decide (aw1.op = 10)) = true], (decide (aw1.op = 10)) = true → allP [(decide (aw1.op = 10)) = true], (((decide (aw1.op = 10)) && (decide (aw1.cas = (-1)))) = true) → allP [], (((decide (aw1.op = 10)) && (decide (aw1.cas = (-1)))) = true) → allP [((decide (aw1.op = 10)) && (decide (aw1.cas = (-1)))) = true], (((decide (aw1.op = 10)) && (decide (aw1.cas = (-1)))) = true) → allP [((decide (aw1.op = 10)) && (decide (aw1.cas = (-1)))) = true], ((decide (aw1.op = 10)) && (decide (aw1.cas = (-1)))) = true → allP [((decide (aw1.op = 10)) && (decide (aw1.cas = (-1)))) = true], ((((decide (aw1.op = 10)) && (decide (aw1.cas = (-1)))) && (decide (aw1.data = [97, 98]))) = true) → allP [], ((((decide (aw1.op = 10)) && (decide (aw1.cas = (-1)))) && (decide (aw1.data = [97, 98]))) = true) → allP [(((decide (aw1.op = 10)) && (decide (aw1.cas = (-1)))) && (decide (aw1.data = [97, 98]))) = true], (((decide (aw1.op = 10)) && (decide (aw1.cas = (-1)))) && (decide (aw1.data = [97, 98]))) = true → allP [(((decide (aw1.op = 10)) && (decide (aw1.cas = (-1)))) && (decide (aw1.data = [97, 98]))) = true], (((((decide (aw1.op = 10)) && (decide (aw1.cas = (-1)))) && (decide (aw1.data = [97, 98]))) && true) = true) → allP [], (((((decide (aw1.op = 10)) && (decide (aw1.cas = (-1)))) && (decide (aw1.data = [97, 98]))) && true) = true) → allP [((((decide (aw1.op = 10)) && (decide (aw1.cas = (-1)))) && (decide (aw1.data = [97, 98]))) && true) = true], ((((decide (aw1.op = 10)) && (decide (aw1.cas = (-1)))) && (decide (aw1.data = [97, 98]))) && true) = true → allP [((((decide (aw1.op = 10)) && (decide (aw1.cas = (-1)))) && (decide (aw1.data = [97, 98]))) && true) = true], ((((((decide (aw1.op = 10)) && (decide (aw1.cas = (-1)))) && (decide (aw1.data = [97, 98]))) && true) && true) = true) → allP [], ((((((decide (aw1.op = 10)) && (decide (aw1.cas = (-1)))) && (decide (aw1.data = [97, 98]))) && true) && true) = true) → allP [(((((decide (aw1.op = 10)) && (decide (aw1.cas = (-1)))) && (decide (aw1.data = [97, 98]))) && true) && true) = true], (((((decide (aw1.op = 10)) && (decide (aw1.cas = (-1)))) && (decide (aw1.data = [97, 98]))) && true) && true) = true → allP [(((((decide (aw1.op = 10)) && (decide (aw1.cas = (-1)))) && (decide (aw1.data = [97, 98]))) && true) && true) = true], (((((((decide (aw1.op = 10)) && (decide (aw1.cas = (-1)))) && (decide (aw1.data = [97, 98]))) && true) && true) && true) = true) → allP [], (((((((decide (aw1.op = 10)) && (decide (aw1.cas = (-1)))) && (decide (aw1.data = [97, 98]))) && true) && true) && true) = true) → allP [((((((decide (aw1.op = 10)) && (decide (aw1.cas = (-1)))) && (decide (aw1.data = [97, 98]))) && true) && true) && true) = true], ((((((decide (aw1.op = 10)) && (decide (aw1.cas = (-1)))) && (decide (aw1.data = [97, 98]))) && true) && true) && true) = true → allP [((((((decide (aw1.op = 10)) && (decide (aw1.cas = (-1)))) && (decide (aw1.data = [97, 98]))) && true) && true) && true) = true], ((((((((decide (aw1.op = 10)) && (decide (aw1.cas = (-1)))) && (decide (aw1.data = [97, 98]))) && true) && true) && true) && true) = true) → allP [], ((((((((decide (aw1.op = 10)) && (decide (aw1.cas = (-1)))) && (decide (aw1.data = [97, 98]))) && true) && true) && true) && true) = true) → allP [(((((((decide (aw1.op = 10)) && (decide (aw1.cas = (-1)))) && (decide (aw1.data = [97, 98]))) && true) && true) && true) && true) = true], (((((((decide (aw1.op = 10)) && (decide (aw1.cas = (-1)))) && (decide (aw1.data = [97, 98]))) && true) && true) && true) && true) = true → allP [(((((((decide (aw1.op = 10)) && (decide (aw1.cas = (-1)))) && (decide (aw1.data = [97, 98]))) && true) && true) && true) && true) = true], (((((((((decide (aw1.op = 10)) && (decide (aw1.cas = (-1)))) && (decide (aw1.data = [97, 98]))) && true) && true) && true) && true) && true) = true) → allP [], (((((((((decide (aw1.op = 10)) && (decide (aw1.cas = (-1)))) && (decide (aw1.data = [97, 98]))) && true) && true) && true) && true) && true) = true) → allP [((((((((decide (aw1.op = 10)) && (decide (aw1.cas = (-1)))) && (decide (aw1.data = [97, 98]))) && true) && true) && true) && true) && true) = true], ((((((((decide (aw1.op = 10)) && (decide (aw1.cas = (-1)))) && (decide (aw1.data = [97, 98]))) && true) && true) && true) && true) && true) = true → allP [((((((((decide (aw1.op = 10)) && (decide (aw1.cas = (-1)))) && (decide (aw1.data = [97, 98]))) && true) && true) && true) && true) && true) = true], ((((((((((decide (aw1.op = 10)) && (decide (aw1.cas = (-1)))) && (decide (aw1.data = [97, 98]))) && true) && true) && true) && true) && true) && true) = true) → allP [], ((((((((((decide (aw1.op = 10)) && (decide (aw1.cas = (-1)))) && (decide (aw1.data = [97, 98]))) && true) && true) && true) && true) && true) && true) = true) → allP [(((((((((decide (aw1.op = 10)) && (decide (aw1.cas = (-1)))) && (decide (aw1.data = [97, 98]))) && true) && true) && true) && true) && true) && true) = true], ((((((((((decide (aw1.op = 10)) && (decide (aw1.cas = (-1)))) && (decide (aw1.data = [97, 98]))) && true) && true) && true) && true) && true) && true) = true) → allP [(((((((((decide (aw1.op = 10)) && (decide (aw1.cas = (-1)))) && (decide (aw1.data = [97, 98]))) && true) && true) && true) && true) && true) && true) = true], ((((((((((decide (aw1.op = 10)) && (decide (aw1.cas = (-1)))) && (decide (aw1.data = [97, 98]))) && true) && true) && true) && true) && true) && true) = true) → allP [(((((((((decide (aw1.op = 10)) && (decide (aw1.cas = (-1)))) && (decide (aw1.data = [97, 98]))) && true) && true) && true) && true) && true) && true) = true], (((((((((decide (aw1.op = 10)) && (decide (aw1.cas = (-1)))) && (decide (aw1.data = [97, 98]))) && true) && true) && true) && true) && true) && true) = true → allP [(((((((((decide (aw1.op = 10)) && (decide (aw1.cas = (-1)))) && (decide (aw1.data = [97, 98]))) && true) && true) && true) && true) && true) && true) = true], (((((((((((decide (aw1.op = 10)) && (decide (aw1.cas = (-1)))) && (decide (aw1.data = [97, 98]))) && true) && true) && true) && true) && true) && true) && (decide ((List.length aw2.ns : Int) = 2))) = true) → allP [], (((((((((((decide (aw1.op = 10)) && (decide (aw1.cas = (-1)))) && (decide (aw1.data = [97, 98]))) && true) && true) && true) && true) && true) && true) && (decide ((List.length aw2.ns : Int) = 2))) = true) → allP [((((((((((decide (aw1.op = 10)) && (decide (aw1.cas = (-1)))) && (decide (aw1.data = [97, 98]))) && true) && true) && true) && true) && true) && true) && (decide ((List.length aw2.ns : Int) = 2))) = true], (((((((((((decide (aw1.op = 10)) && (decide (aw1.cas = (-1)))) && (decide (aw1.data = [97, 98]))) && true) && true) && true) && true) && true) && true) && (decide ((List.length aw2.ns : Int) = 2))) = true) → allP [((((((((((decide (aw1.op = 10)) && (decide (aw1.cas = (-1)))) && (decide (aw1.data = [97, 98]))) && true) && true) && true) && true) && true) && true) && (decide ((List.length aw2.ns : Int) = 2))) = true], ((((((((((decide (aw1.op = 10)) && (decide (aw1.cas = (-1)))) && (decide (aw1.data = [97, 98]))) && true) && true) && true) && true) && true) && true) && (decide ((List.length aw2.ns : Int) = 2))) = true → allP [((((((((((decide (aw1.op = 10)) && (decide (aw1.cas = (-1)))) && (decide (aw1.data = [97, 98]))) && true) && true) && true) && true) && true) && true) && (decide ((List.length aw2.ns : Int) = 2))) = true], ((((((((((((decide (aw1.op = 10)) && (decide (aw1.cas = (-1)))) && (decide (aw1.data = [97, 98]))) && true) && true) && true) && true) && true) && true) && (decide ((List.length aw2.ns : Int) = 2))) && (decide (aw2.op = 11))) = true) → allP [], ((((((((((((decide (aw1.op = 10)) && (decide (aw1.cas = (-1)))) && (decide (aw1.data = [97, 98]))) && true) && true) && true) && true) && true) && true) && (decide ((List.length aw2.ns : Int) = 2))) && (decide (aw2.op = 11))) = true) → allP [(((((((((((decide (aw1.op = 10)) && (decide (aw1.cas = (-1)))) && (decide (aw1.data = [97, 98]))) && true) && true) && true) && true) && true) && true) && (decide ((List.length aw2.ns : Int) = 2))) && (decide (aw2.op = 11))) = true], (((((((((((decide (aw1.op = 10)) && (decide (aw1.cas = (-1)))) && (decide (aw1.data = [97, 98]))) && true) && true) && true) && true) && true) && true) && (decide ((List.length aw2.ns : Int) = 2))) && (decide (aw2.op = 11))) = true → allP [(((((((((((decide (aw1.op = 10)) && (decide (aw1.cas = (-1)))) && (decide (aw1.data = [97, 98]))) && true) && true) && true) && true) && true) && true) && (decide ((List.length aw2.ns : Int) = 2))) && (decide (aw2.op = 11))) = true], (((((((((((((decide (aw1.op = 10)) && (decide (aw1.cas = (-1)))) && (decide (aw1.data = [97, 98]))) && true) && true) && true) && true) && true) && true) && (decide ((List.length aw2.ns : Int) = 2))) && (decide (aw2.op = 11))) && true) = true) → allP [], ((((((((((((decide (aw1.op = 10)) && (decide (aw1.cas = (-1)))) && (decide (aw1.data = [97, 98]))) && true) && true) && true) && true) && true) && true) && (decide ((List.length aw2.ns : Int) = 2))) && (decide (aw2.op = 11))) && true) = true → allP [((((((((((((decide (aw1.op = 10)) && (decide (aw1.cas = (-1)))) && (decide (aw1.data = [97, 98]))) && true) && true) && true) && true) && true) && true) && (decide ((List.length aw2.ns : Int) = 2))) && (decide (aw2.op = 11))) && true) = true], ((((((((((((((decide (aw1.op = 10)) && (decide (aw1.cas = (-1)))) && (decide (aw1.data = [97, 98]))) && true) && true) && true) && true) && true) && true) && (decide ((List.length aw2.ns : Int) = 2))) && (decide (aw2.op = 11))) && true) && true) = true) → allP [Spec Tryz.prog 19 [tc (st [97, 98])] (ofH []) (vc (st (hexS [97, 98]))) (ofH [])], ((((((((((((((decide (aw1.op = 10)) && (decide (aw1.cas = (-1)))) && (decide (aw1.data = [97, 98]))) && true) && true) && true) && true) && true) && true) && (decide ((List.length aw2.ns : Int) = 2))) && (decide (aw2.op = 11))) && true) && true) = true) → allP [(((((((((((((decide (aw1.op = 10)) && (decide (aw1.cas = (-1)))) && (decide (aw1.data = [97, 98]))) && true) && true) && true) && true) && true) && true) && (decide ((List.length aw2.ns : Int) = 2))) && (decide (aw2.op = 11))) && true) && true) = true], (((((((((((((decide (aw1.op = 10)) && (decide (aw1.cas = (-1)))) && (decide (aw1.data = [97, 98]))) && true) && true) && true) && true) && true) && true) && (decide ((List.length aw2.ns : Int) = 2))) && (decide (aw2.op = 11))) && true) && true) = true → allP [(((((((((((((decide (aw1.op = 10)) && (decide (aw1.cas = (-1)))) && (decide (aw1.data = [97, 98]))) && true) && true) && true) && true) && true) && true) && (decide ((List.length aw2.ns : Int) = 2))) && (decide (aw2.op = 11))) && true) && true) = true], ((((((((((((((decide (aw1.op = 10)) && (decide (aw1.cas = (-1)))) && (decide (aw1.data = [97, 98]))) && true) && true) && true) && true) && true) && true) && (decide ((List.length aw2.ns : Int) = 2))) && (decide (aw2.op = 11))) && true) && true) && (decide (hexS [97, 98] = [54, 49, 54, 50]))) = false → allP [], (((((((((((((((decide (aw1.op = 10)) && (decide (aw1.cas = (-1)))) && (decide (aw1.data = [97, 98]))) && true) && true) && true) && true) && true) && true) && (decide ((List.length aw2.ns : Int) = 2))) && (decide (aw2.op = 11))) && true) && true) && (decide (hexS [97, 98] = [54, 49, 54, 50]))) || false) = false → allP [], ((((((((((((((((decide (aw1.op = 10)) && (decide (aw1.cas = (-1)))) && (decide (aw1.data = [97, 98]))) && true) && true) && true) && true) && true) && true) && (decide ((List.length aw2.ns : Int) = 2))) && (decide (aw2.op = 11))) && true) && true) && (decide (hexS [97, 98] = [54, 49, 54, 50]))) || false) || false) = false → allP [], ((((((((((((((((((decide (aw1.op = 10)) && (decide (aw1.cas = (-1)))) && (decide (aw1.data = [97, 98]))) && true) && true) && true) && true) && true) && true) && (decide ((List.length aw2.ns : Int) = 2))) && (decide (aw2.op = 11))) && true) && true) && (decide (hexS [97, 98] = [54, 49, 54, 50]))) || false) || false) || false) = true) → allP [], ((((((((((((((((((decide (aw1.op = 10)) && (decide (aw1.cas = (-1)))) && (decide (aw1.data = [97, 98]))) && true) && true) && true) && true) && true) && true) && (decide ((List.length aw2.ns : Int) = 2))) && (decide (aw2.op = 11))) && true) && true) && (decide (hexS [97, 98] = [54, 49, 54, 50]))) || false) || false) || false) = true) → allP [], ((((((((((((((((((decide (aw1.op = 10)) && (decide (aw1.cas = (-1)))) && (decide (aw1.data = [97, 98]))) && true) && true) && true) && true) && true) && true) && (decide ((List.length aw2.ns : Int) = 2))) && (decide (aw2.op = 11))) && true) && true) && (decide (hexS [97, 98] = [54, 49, 54, 50]))) || false) || false) || false) = true) → allP [(((((((((((((((((decide (aw1.op = 10)) && (decide (aw1.cas = (-1)))) && (decide (aw1.data = [97, 98]))) && true) && true) && true) && true) && true) && true) && (decide ((List.length aw2.ns : Int) = 2))) && (decide (aw2.op = 11))) && true) && true) && (decide (hexS [97, 98] = [54, 49, 54, 50]))) || false) || false) || false) = true, (((((((((((((((((decide (aw1.op = 10)) && (decide (aw1.cas = (-1)))) && (decide (aw1.data = [97, 98]))) && true) && true) && true) && true) && true) && true) && (decide ((List.length aw2.ns : Int) = 2))) && (decide (aw2.op = 11))) && true) && true) && (decide (hexS [97, 98] = [54, 49, 54, 50]))) || false) || false) || false) = true, Spec Tryz.prog 12 [TV.agg (rwA aw1), TV.agg (rwA aw1)] (ofH []) (vc (bo (decide (aw1 = aw1)))) (ofH [])], (((((((((((((((((decide (aw1.op = 10)) && (decide (aw1.cas = (-1)))) && (decide (aw1.data = [97, 98]))) && true) && true) && true) && true) && true) && true) && (decide ((List.length aw2.ns : Int) = 2))) && (decide (aw2.op = 11))) && true) && true) && (decide (hexS [97, 98] = [54, 49, 54, 50]))) || false) || false) || false) = true → allP [(((((((((((((((((decide (aw1.op = 10)) && (decide (aw1.cas = (-1)))) && (decide (aw1.data = [97, 98]))) && true) && true) && true) && true) && true) && true) && (decide ((List.length aw2.ns : Int) = 2))) && (decide (aw2.op = 11))) && true) && true) && (decide (hexS [97, 98] = [54, 49, 54, 50]))) || false) || false) || false) = true], ((((((((((((((((((decide (aw1.op = 10)) && (decide (aw1.cas = (-1)))) && (decide (aw1.data = [97, 98]))) && true) && true) && true) && true) && true) && true) && (decide ((List.length aw2.ns : Int) = 2))) && (decide (aw2.op = 11))) && true) && true) && (decide (hexS [97, 98] = [54, 49, 54, 50]))) || false) || false) || false) && (decide (aw1 = aw1))) = false → allP []] 120 [(0, vc (bo (((((((((((((((((((decide (aw1.op = 10)) && (decide (aw1.cas = (-1)))) && (decide (aw1.data = [97, 98]))) && true) && true) && true) && true) && true) && true) && (decide ((List.length aw2.ns : Int) = 2))) && (decide (aw2.op = 11))) && true) && true) && (decide (hexS [97, 98] = [54, 49, 54, 50]))) || false) || false) || false) && (decide (aw1 = aw1))) || false)))] [] ⟨(fun _ => trivial), (fun hp => hp), (fun hp => hp), (fun hp2 => (by first | exact hp2 | exact ⟨hp, hp2⟩)), (fun _ => trivial), (fun hp => hp), (fun hp => hp), (fun hp2 => (by first | exact hp2 | exact ⟨hp, hp2⟩)), (fun _ => trivial), (fun hp => hp), (fun hp => hp), (fun hp2 => (by first | exact hp2 | exact ⟨hp, hp2⟩)), (fun _ => trivial), (fun hp => hp), (fun hp2 => (by first | exact hp2 | exact ⟨hp, hp2⟩)), (fun _ => trivial), (fun hp => hp), (fun hp2 => (by first | exact hp2 | exact ⟨hp, hp2⟩)), (fun _ => trivial), (fun hp => hp), (fun hp2 => (by first | exact hp2 | exact ⟨hp, hp2⟩)), (fun _ => trivial), (fun hp => hp), (fun hp2 => (by first | exact hp2 | exact ⟨hp, hp2⟩)), (fun _ => trivial), (fun hp => hp), (fun hp2 => (by first | exact hp2 | exact ⟨hp, hp2⟩)), (fun _ => trivial), (fun hp => hp), (fun hp2 => (by first | exact hp2 | exact ⟨hp, hp2⟩)), (fun _ => trivial), (fun hp => hp), (fun hp => hp), (fun hp => hp), (fun hp2 => (by first | exact hp2 | exact ⟨hp, hp2⟩)), (fun _ => trivial), (fun hp => hp), (fun hp => hp), (fun hp2 => (by first | exact hp2 | exact ⟨hp, hp2⟩)), (fun _ => trivial), (fun hp => hp), (fun hp2 => (by first | exact hp2 | exact ⟨hp, hp2⟩)), (fun _ => trivial), (fun hp2 => (by first | exact hp2 | exact ⟨hp, hp2⟩)), (fun hp => by have hq := hp; (try simp only [decide_eq_true_eq, decide_eq_false_iff_not, Bool.and_eq_true, Bool.or_eq_true, Bool.and_eq_false_iff, Bool.or_eq_false_iff, Bool.not_eq_true', Bool.not_eq_false', Bool.not_eq_true, Bool.not_eq_false] at hq); exact (Hex_c [97, 98] (by first | omega | decide +kernel))), (fun hp => hp), (fun hp2 => (by first | exact hp2 | exact ⟨hp, hp2⟩)), (fun _ => trivial), (fun _ => trivial), (fun _ => trivial), (fun _ => trivial), (fun _ => trivial), (fun hp => by have hq := hp; (try simp only [decide_eq_true_eq, decide_eq_false_iff_not, Bool.and_eq_true, Bool.or_eq_true, Bool.and_eq_false_iff, Bool.or_eq_false_iff, Bool.not_eq_true', Bool.not_eq_false', Bool.not_eq_true, Bool.not_eq_false] at hq); exact ⟨hp, hp, (Same_c aw1 aw1)⟩), (fun hp2 => (by first | exact hp2 | exact ⟨hp, hp2⟩)), (fun _ => trivial)⟩ ?_
 exact gT (vc (bo (((((((((((((((((((decide (aw1.op = 10)) && (decide (aw1.cas = (-1)))) && (decide (aw1.data = [97, 98]))) && true) && true) && true) && true) && true) && true) && (decide ((List.length aw2.ns : Int) = 2))) && (decide (aw2.op = 11))) && true) && true) && (decide (hexS [97, 98] = [54, 49, 54, 50]))) || false) || false) || false) && (decide (aw1 = aw1))) || false))) (congrArg (fun b => vc (bo b)) (show (((((((((((((((((((decide (aw1.op = 10)) && (decide (aw1.cas = (-1)))) && (decide (aw1.data = [97, 98]))) && true) && true) && true) && true) && true) && true) && (decide ((List.length aw2.ns : Int) = 2))) && (decide (aw2.op = 11))) && true) && true) && (decide (hexS [97, 98] = [54, 49, 54, 50]))) || false) || false) || false) && (decide (aw1 = aw1))) || false) = true from by decide +kernel))
end AL.Ask
namespace AL.Ask
open Go AL
set_option linter.unusedVariables false
set_option linter.unusedSimpArgs false
def rV (b : UInt8) : Int := if 97 ≤ b.toNat then (b.toNat : Int) - 87 else (b.toNat : Int) - 48
def accR (s : Bytes) (i : Nat) : Nat → Int
  | 0 => 0
  | j + 1 => 16 * accR s i j + rV (List.getD s (i + j) 0)
theorem rV_rng (b : UInt8) : -48 ≤ rV b ∧ rV b ≤ 168 := by
  have := b.toNat_lt
  unfold rV
  split <;> omega
theorem acc_rng (s : Bytes) (i : Nat) {j : Nat} (h : j ≤ 2) : -1000 ≤ accR s i j ∧ accR s i j ≤ 3000 := by
  have h0 := rV_rng (List.getD s (i + 0) 0)
  have h1 := rV_rng (List.getD s (i + 1) 0)
  have : j = 0 ∨ j = 1 ∨ j = 2 := by omega
  rcases this with q | q | q <;> subst q <;> simp only [accR] <;> omega
theorem acc_t {s : Bytes} {i j : Nat} (h : 97 ≤ ((List.getD s (i + j) 0).toNat : Int)) : 16 * accR s i j + ((List.getD s (i + j) 0).toNat : Int) - 87 = accR s i (j + 1) := by
  show _ = 16 * accR s i j + rV (List.getD s (i + j) 0)
  unfold rV
  rw [if_pos (by omega)]; omega
theorem acc_f {s : Bytes} {i j : Nat} (h : ¬ 97 ≤ ((List.getD s (i + j) 0).toNat : Int)) : 16 * accR s i j + ((List.getD s (i + j) 0).toNat : Int) - 48 = accR s i (j + 1) := by
  show _ = 16 * accR s i j + rV (List.getD s (i + j) 0)
  unfold rV
  rw [if_neg (by omega)]; omega
def refB (s : Bytes) (k : Nat) : UInt8 := UInt8.ofNat (IntKind.wrap .u8 (accR s (2 * k) 2)).toNat
theorem one_ref (s : Bytes) (k : Nat) : flat 1 rowU8 [refB s k] = [AC.s (u8 (IntKind.wrap .u8 (accR s (2 * k) 2)))] := by
  have h : 0 ≤ IntKind.wrap .u8 (accR s (2 * k) 2) ∧ IntKind.wrap .u8 (accR s (2 * k) 2) < 256 := by
    simp [IntKind.wrap, IntKind.signed, IntKind.bits]
    omega
  have e : IntKind.wrap .u8 (accR s (2 * k) 2) = ((refB s k).toNat : Int) := by
    unfold refB
    rw [UInt8.toNat_ofNat']
    omega
  rw [e]; rfl
def refU (s : Bytes) (k : Nat) : Bytes := (List.range k).map (refB s)
theorem refU_step (s : Bytes) (k : Nat) : refU s k ++ [refB s k] = refU s (k + 1) := by unfold refU; rw [List.range_succ, List.map_append]; rfl
theorem refU_len (s : Bytes) (k : Nat) : (refU s k).length = k := by unfold refU; rw [List.length_map, List.length_range]
theorem r_dig {b : UInt8} (h : isH b = true) : rV b = digV b := by
  unfold isH at h
  simp only [Bool.or_eq_true, Bool.and_eq_true, decide_eq_true_eq] at h
  unfold rV digV
  rcases h with h | h
  · rw [if_neg (by omega), if_pos h]
  · rw [if_pos (by omega), if_neg (by omega), if_pos h]; omega
theorem ref_pair {s : Bytes} {k : Nat} (h : 2 * k + 1 < s.length) (ha : s.all isH = true) : refB s k = pairB (List.getD s (2 * k) 0) (List.getD s (2 * k + 1) 0) := by
  have h1 := List.all_eq_true.1 ha _ (Lib.getD_mem 0 s (2 * k) (by omega))
  have h2 := List.all_eq_true.1 ha _ (Lib.getD_mem 0 s (2 * k + 1) (by omega))
  have d1 := (dig_is _).1 h1
  have d2 := (dig_is _).1 h2
  have r1 := dig_rng (List.getD s (2 * k) 0)
  have r2 := dig_rng (List.getD s (2 * k + 1) 0)
  have e : accR s (2 * k) 2 = 16 * digV (List.getD s (2 * k) 0) + digV (List.getD s (2 * k + 1) 0) := by
    simp only [accR]
    rw [Nat.add_zero, r_dig h1, r_dig h2]; omega
  unfold refB pairB
  rw [e, wrap_u8 (by omega) (by omega)]
theorem ref_all {s : Bytes} (ha : s.all isH = true) : ∀ k, 2 * k ≤ s.length → refU s k = unpairs (List.take (2 * k) s)
  | 0, _ => rfl
  | k + 1, h => by
    rw [← refU_step, ref_all ha k (by omega), ref_pair (by omega) ha, un_step k s (by omega)]
theorem ref_fin {s : Bytes} {k : Nat} (h1 : 2 * k ≤ s.length) (h2 : s.length ≤ 2 * k + 1) : unhexS s = if ¬ hexS (refU s k) = s then ([], false) else (refU s k, true) :=
  ref_unhex fun he ha => by
    rw [ref_all ha k h1, List.take_of_length_le (by omega)]
end AL.Ask
namespace AL.Ask
open Go AL
open AL.Sep (splitC joinC SInv)
set_option linter.unusedVariables false
set_option linter.unusedSimpArgs false
theorem wrap_dg {n : Int} (h0 : 0 ≤ n) (h1 : n < 10) : IntKind.wrap .u8 (48 + n) = ((dg n).toNat : Int) := by
  rw [wrap_u8 (by omega) (by omega)]
  unfold dg
  rw [UInt8.toNat_ofNat']
  omega
theorem one_dr {n : Int} (h0 : 0 ≤ n) (h1 : n < 10) : flat 1 rowU8 [dg n] = [AC.s (u8 (IntKind.wrap .u8 (48 + n)))] := by
  rw [wrap_dg h0 h1]; rfl
theorem numr_1 {n : Int} (h : n < 10) : [dg n] = numS n := by unfold numS; rw [if_pos h]
theorem numr_2 {n : Int} (h0 : 0 ≤ n) (h1 : n ≤ 999) (h : ¬ n < 10) : numS (Int.tdiv n 10) ++ [dg (Int.tmod n 10)] = numS n := by
  rw [tdiv_10 h0, (tmod_10 h0).1]
  obtain ⟨m, rfl⟩ := Int.eq_ofNat_of_zero_le h0
  rw [numat_first m (by omega), if_neg (by omega)]
theorem scanr {s : Bytes} (h0 : s ≠ []) (h3 : s.length ≤ 3) (ha : s.all digB = true) : scanN s = if numS (valS s) = s then valS s else -1 := by
  have hv := val_rng s s.length h3 (Nat.le_refl _) (by rw [List.take_length]; exact ha)
  rw [List.take_length] at hv
  have hp := pow_le3 h3
  by_cases hs : sizeB s = true
  · have e : scanN s = valS s := by unfold scanN; rw [if_pos ⟨hs, ha⟩]
    have q := num_scan (s := s) (by rw [e]; exact hv.1)
    rw [e] at q
    rw [if_pos q.1, e]
  · have e : scanN s = -1 := by unfold scanN; rw [if_neg (fun q => hs q.1)]
    rw [e, if_neg]
    intro q
    obtain ⟨m, hm⟩ := Int.eq_ofNat_of_zero_le hv.1
    have z := (num_big m (by omega)).2.2.1
    rw [← hm, q] at z
    exact hs z
theorem digr_all {s : Bytes} {i : Nat} (hD : (List.take i s).all digB = true) (h : s.length ≤ i) : s.all digB = true := by
  rw [List.take_of_length_le h] at hD; exact hD
theorem valr_rng {s : Bytes} {i : Nat} (hD : (List.take i s).all digB = true) (h : s.length ≤ i) (h3 : s.length ≤ 3) : 0 ≤ valS s ∧ valS s ≤ 999 := by
  have hv := val_rng s s.length h3 (Nat.le_refl _) (by rw [List.take_length]; exact digr_all hD h)
  rw [List.take_length] at hv
  have hp := pow_le3 h3
  omega
theorem scanr_y {s : Bytes} {i : Nat} (hD : (List.take i s).all digB = true) (h : s.length ≤ i) (h0 : 1 ≤ s.length) (h3 : s.length ≤ 3) (he : numS (valS s) = s) : scanN s = valS s := by
  rw [scanr (fun e => by subst e; cases h0) h3 (digr_all hD h), if_pos he]
theorem scanr_n {s : Bytes} {i : Nat} (hD : (List.take i s).all digB = true) (h : s.length ≤ i) (h0 : 1 ≤ s.length) (h3 : s.length ≤ 3) (he : ¬ numS (valS s) = s) : scanN s = -1 := by
  rw [scanr (fun e => by subst e; cases h0) h3 (digr_all hD h), if_neg he]
theorem digr_no {s : Bytes} {i : Nat} (h : i < s.length) (hc : ((List.getD s i 0).toNat : Int) < 48 ∨ 57 < ((List.getD s i 0).toNat : Int)) : scanN s = -1 := by
  unfold scanN
  rw [if_neg]
  intro q
  have z := digB_iff.1 (List.all_eq_true.1 q.2 _ (Lib.getD_mem 0 s i h))
  omega
theorem digr_step {s : Bytes} {i : Nat} (h : i < s.length) (hD : (List.take i s).all digB = true) (hc : ¬ (((List.getD s i 0).toNat : Int) < 48 ∨ 57 < ((List.getD s i 0).toNat : Int))) : (List.take (i + 1) s).all digB = true := by
  rw [Lib.take_succ 0 s i h, List.all_append, hD]
  have z : digB (List.getD s i 0) = true := digB_iff.2 (by omega)
  simp only [List.all_cons, List.all_nil, z]; rfl
theorem valr_step {s : Bytes} {i : Nat} (h : i < s.length) : 10 * valS (List.take i s) + ((List.getD s i 0).toNat : Int) - 48 = valS (List.take (i + 1) s) := by
  rw [val_step s i h]; omega
theorem scanr_size {s : Bytes} (h : (List.length s : Int) < 1 ∨ 3 < (List.length s : Int)) : scanN s = -1 := by
  apply scan_size
  rcases h with h | h
  · exact .inl (.inl (List.eq_nil_of_length_eq_zero (by omega)))
  · exact .inl (.inr h)
def NsTo (l : List Int) (i : Nat) : Prop := ∀ x ∈ List.take i l, withinI x 1 999 = true
theorem nsto_0 (l : List Int) : NsTo l 0 := fun x hx => by simp at hx
theorem nsto_step {l : List Int} {i : Nat} (h : i < l.length) (hN : NsTo l i) (hc : withinI (List.getD l i 0) 1 999 = true) : NsTo l (i + 1) := by
  intro x hx
  rw [Lib.take_succ 0 l i h, List.mem_append] at hx
  rcases hx with hx | hx
  · exact hN x hx
  · rw [List.mem_singleton.1 hx]; exact hc
theorem nsto_bad {l : List Int} {i : Nat} (h : i < l.length) (hc : ¬ withinI (List.getD l i 0) 1 999 = true) : okNs l = false := by
  unfold okNs
  rw [Bool.eq_false_iff]
  intro q
  rw [Bool.and_eq_true] at q
  exact hc (List.all_eq_true.1 q.2 _ (Lib.getD_mem 0 l i h))
theorem nsto_end {l : List Int} {i : Nat} (h : l.length ≤ i) (hN : NsTo l i) : decide ((List.length l : Int) ≤ 6) = okNs l := by
  unfold okNs NsTo at *
  rw [List.take_of_length_le h] at hN
  rw [List.all_eq_true.2 hN, Bool.and_true, decide_eq_decide]
  omega
theorem piece_hit {k : UInt8} {s : Bytes} {i f : Nat} {o : List Bytes} (h : SInv k s i f o) (hi : i ≤ s.length) (hc : (i : Int) = (List.length s : Int) ∨ ((List.getD s i 0).toNat : Int) = (k.toNat : Int)) : SInv k s (i + 1) (i + 1) (o ++ [List.drop f (List.take i s)]) :=
  Sep.sinv_hit h hi (hc.imp (fun q => by omega) fun q => UInt8.toNat_inj.1 (by omega))
theorem piece_not {k : UInt8} {s : Bytes} {i f : Nat} {o : List Bytes} (h : SInv k s i f o) (hi : i ≤ s.length) (hc : ¬ ((i : Int) = (List.length s : Int) ∨ ((List.getD s i 0).toNat : Int) = (k.toNat : Int))) : SInv k s (i + 1) f o :=
  Sep.sinv_not h hi fun q => hc (q.imp (fun q => by omega) fun q => by rw [q])
theorem same_ref (a b : AskV) : decide (a = b) = (((((((((((decide (a.op = b.op)) && (decide (a.token = b.token))) && (decide (a.path = b.path))) && (decide (a.other = b.other))) && (decide (a.n = b.n))) && (decide (a.cas = b.cas))) && (a.flag == b.flag)) && (decide (a.ns = b.ns))) && (decide (a.data = b.data))) && (decide (a.rules = b.rules))) && (decide (a.key = b.key))) := by
  rw [Bool.eq_iff_iff]
  simp only [decide_eq_true_eq, Bool.and_eq_true, beq_iff_eq]
  rw [AskV.eq_iff]
  grind
end AL.Ask
namespace AL.Ask
open Go Go.Proofs AL
set_option linter.unusedVariables false
set_option linter.unusedSimpArgs false
theorem f62_body : Tryz.f62.body = some (.seq (.region 0 (rg Tryz.f62 0) false) (.seq (.region 1 (rg Tryz.f62 1) false) (.seq (.seq (.region 2 (rg Tryz.f62 2) false) (.block 0 (.loop (.seq (.seq (.region 3 (rg Tryz.f62 3) false) (.cond (.tmp 13) (.skip) (.exit 0))) (.seq (.block 1 (.seq (.region 5 (rg Tryz.f62 5) false) (.seq (.seq (.region 6 (rg Tryz.f62 6) false) (.block 2 (.loop (.seq (.seq (.region 7 (rg Tryz.f62 7) false) (.cond (.tmp 17) (.skip) (.exit 2))) (.seq (.block 3 (.seq (.region 9 (rg Tryz.f62 9) false) (.seq (.region 10 (rg Tryz.f62 10) false) (.cond (.tmp 27) (.region 11 (rg Tryz.f62 11) false) (.region 12 (rg Tryz.f62 12) false))))) (.region 8 (rg Tryz.f62 8) false)))))) (.region 13 (rg Tryz.f62 13) false)))) (.region 4 (rg Tryz.f62 4) false)))))) (.seq (.seq (.region 14 (rg Tryz.f62 14) false) (.cond (.tmp 47) (.seq (.region 15 (rg Tryz.f62 15) false) (.ret)) (.skip))) (.seq (.region 16 (rg Tryz.f62 16) false) (.ret)))))) := by kernel_rfl
set_option maxRecDepth 100000 in
set_option maxHeartbeats 8000000 in
theorem RUnhex_c (s : Bytes) (hb : s.length ≤ 100000) : Pure Tryz.prog 62 [tc (st s)] (AV.tup [tc (st ((unhexS s).1)), tc (bo ((unhexS s).2))]) := by
 refine Pure.of_body Tryz.func62 f62_body (by kernel_rfl) Tryz.ntmps62 (by kernel_rfl) (by kernel_rfl) ?_
 refine gS [] [] 50 [(0, vc (st s))] [] trivial ?_
 refine gS [] [] 50 [(0, vc (st s)), (4, vc (SC.nilsl))] [] trivial ?_
 refine gQ ?_
 refine gS [] [] 50 [(0, vc (st s)), (4, vc (SC.nilsl)), (5, vc (i6 0))] [] trivial ?_
 refine AMx.block ?_
 refine AMx.ent (s' := AS.lst 50 [(0, vc (st s)), (4, vo 4), (5, vc (i6 0))] [(4, AObj.grow 5 1 UInt8 0 rowU8 [])]) (ent_adopt (t := 4) (d := 4) 5 1 UInt8 0 rowU8 (by kernel_rfl) (by kernel_rfl) (by kernel_rfl) (by kernel_rfl)) ?_
 refine AMx.ent (s' := AS.lst 50 [(0, vc (st s)), (4, vo 4), (5, vc (i6 0))] [(4, AObj.grow 5 1 UInt8 0 rowU8 [])]) (ent_proj [0, 4, 5] [4]) ?_
 refine AMx.loop (fun mm ss => ∃ (k : Nat), (2 * k ≤ s.length) ∧ mm = s.length - 2 * k ∧ ss = AS.lst 50 [(0, vc (st s)), (4, vo 4), (5, vc (i6 ((2 * k : Nat) : Int)))] [(4, AObj.grow 5 1 UInt8 0 rowU8 (refU s k))]) ⟨0, ?_, rfl, ?_⟩ ?_
 · omega
 · rfl
 rintro mm ss ⟨k, hI, rfl, rfl⟩
 refine gQ ?_
 refine gS [] [InR .i64 (((2 * k : Nat) : Int) + 1)] 50 [(0, vc (st s)), (4, vo 4), (5, vc (i6 ((2 * k : Nat) : Int))), (13, vc (bo (decide (((2 * k : Nat) : Int) + 1 < (List.length s : Int)))))] [(4, AObj.grow 5 1 UInt8 0 rowU8 (refU s k))] (show InR .i64 (((2 * k : Nat) : Int) + 1) from (inR64 (by omega) (by omega))) ?_
 refine gC (((2 * k : Nat) : Int) + 1 < (List.length s : Int)) (fun hc1 => ?_) fun hc1 => ?_
 ·
  refine AMx.skip ?_
  refine gQ ?_
  refine AMx.block ?_
  refine gS [] [] 50 [(0, vc (st s)), (4, vo 4), (5, vc (i6 ((2 * k : Nat) : Int))), (6, vc (i6 0))] [(4, AObj.grow 5 1 UInt8 0 rowU8 (refU s k))] trivial ?_
  refine gQ ?_
  refine gS [] [] 50 [(0, vc (st s)), (4, vo 4), (5, vc (i6 ((2 * k : Nat) : Int))), (6, vc (i6 0)), (7, vc (i6 0))] [(4, AObj.grow 5 1 UInt8 0 rowU8 (refU s k))] trivial ?_
  refine AMx.block ?_
  refine AMx.ent (s' := AS.lst 50 [(0, vc (st s)), (4, vo 4), (5, vc (i6 ((2 * k : Nat) : Int))), (6, vc (i6 0)), (7, vc (i6 0))] [(4, AObj.grow 5 1 UInt8 0 rowU8 (refU s k))]) (ent_proj [0, 4, 5, 6, 7] [4]) ?_
  refine AMx.loop (fun mm ss => ∃ (j : Nat), (j ≤ 2) ∧ mm = 2 - j ∧ ss = AS.lst 50 [(0, vc (st s)), (4, vo 4), (5, vc (i6 ((2 * k : Nat) : Int))), (6, vc (i6 (accR s (2 * k) j))), (7, vc (i6 (j : Int)))] [(4, AObj.grow 5 1 UInt8 0 rowU8 (refU s k))]) ⟨0, ?_, rfl, ?_⟩ ?_
  · omega
  · rfl
  rintro mm ss ⟨j, hI, rfl, rfl⟩
  refine gQ ?_
  refine gS [] [] 50 [(0, vc (st s)), (4, vo 4), (5, vc (i6 ((2 * k : Nat) : Int))), (6, vc (i6 (accR s (2 * k) j))), (7, vc (i6 (j : Int))), (17, vc (bo (decide ((j : Int) < 2))))] [(4, AObj.grow 5 1 UInt8 0 rowU8 (refU s k))] trivial ?_
  refine gC ((j : Int) < 2) (fun hc2 => ?_) fun hc2 => ?_
  ·
   refine AMx.skip ?_
   refine gQ ?_
   refine AMx.block ?_
   refine gS [] [InR .i64 (((2 * k : Nat) : Int) + (j : Int)), (0 : Int) ≤ ((2 * k : Nat) : Int) + (j : Int), ((2 * k : Nat) : Int) + (j : Int) < List.length s] 50 [(0, vc (st s)), (4, vo 4), (5, vc (i6 ((2 * k : Nat) : Int))), (6, vc (i6 (accR s (2 * k) j))), (7, vc (i6 (j : Int))), (8, vc (i6 ((List.getD s ((2 * k) + j) 0).toNat : Int)))] [(4, AObj.grow 5 1 UInt8 0 rowU8 (refU s k))] ⟨(show InR .i64 (((2 * k : Nat) : Int) + (j : Int)) from (inR64 (by omega) (by omega))), (show (0 : Int) ≤ ((2 * k : Nat) : Int) + (j : Int) from (by omega)), (show ((2 * k : Nat) : Int) + (j : Int) < List.length s from (by omega))⟩ ?_
   refine gS [] [] 50 [(0, vc (st s)), (4, vo 4), (5, vc (i6 ((2 * k : Nat) : Int))), (6, vc (i6 (accR s (2 * k) j))), (7, vc (i6 (j : Int))), (8, vc (i6 ((List.getD s ((2 * k) + j) 0).toNat : Int))), (27, vc (bo (decide (97 ≤ ((List.getD s ((2 * k) + j) 0).toNat : Int)))))] [(4, AObj.grow 5 1 UInt8 0 rowU8 (refU s k))] trivial ?_
   refine gC (97 ≤ ((List.getD s ((2 * k) + j) 0).toNat : Int)) (fun hc3 => ?_) fun hc3 => ?_
   ·
    refine gR [] [InR .i64 (16 * (accR s (2 * k) j)), InR .i64 ((16 * (accR s (2 * k) j)) + ((List.getD s ((2 * k) + j) 0).toNat : Int)), InR .i64 (((16 * (accR s (2 * k) j)) + ((List.getD s ((2 * k) + j) 0).toNat : Int)) - 87)] 50 [(0, vc (st s)), (4, vo 4), (5, vc (i6 ((2 * k : Nat) : Int))), (6, vc (i6 (((16 * (accR s (2 * k) j)) + ((List.getD s ((2 * k) + j) 0).toNat : Int)) - 87))), (7, vc (i6 (j : Int)))] [(4, AObj.grow 5 1 UInt8 0 rowU8 (refU s k))] ⟨(show InR .i64 (16 * (accR s (2 * k) j)) from (inR64 (by first | omega | (have hr := acc_rng s (2 * k) (j := j) (by omega); have hb2 := UInt8.toNat_lt (List.getD s (2 * k + j) 0); omega) | ((try simp only [List.length_append, List.length_cons, List.length_nil, List.length_replicate, List.length_map, List.length_take, List.length_drop, hex_len, refU_len]); omega)) (by first | omega | (have hr := acc_rng s (2 * k) (j := j) (by omega); have hb2 := UInt8.toNat_lt (List.getD s (2 * k + j) 0); omega) | ((try simp only [List.length_append, List.length_cons, List.length_nil, List.length_replicate, List.length_map, List.length_take, List.length_drop, hex_len, refU_len]); omega)))), (show InR .i64 ((16 * (accR s (2 * k) j)) + ((List.getD s ((2 * k) + j) 0).toNat : Int)) from (inR64 (by first | omega | (have hr := acc_rng s (2 * k) (j := j) (by omega); have hb2 := UInt8.toNat_lt (List.getD s (2 * k + j) 0); omega) | ((try simp only [List.length_append, List.length_cons, List.length_nil, List.length_replicate, List.length_map, List.length_take, List.length_drop, hex_len, refU_len]); omega)) (by first | omega | (have hr := acc_rng s (2 * k) (j := j) (by omega); have hb2 := UInt8.toNat_lt (List.getD s (2 * k + j) 0); omega) | ((try simp only [List.length_append, List.length_cons, List.length_nil, List.length_replicate, List.length_map, List.length_take, List.length_drop, hex_len, refU_len]); omega)))), (show InR .i64 (((16 * (accR s (2 * k) j)) + ((List.getD s ((2 * k) + j) 0).toNat : Int)) - 87) from (inR64 (by first | omega | (have hr := acc_rng s (2 * k) (j := j) (by omega); have hb2 := UInt8.toNat_lt (List.getD s (2 * k + j) 0); omega) | ((try simp only [List.length_append, List.length_cons, List.length_nil, List.length_replicate, List.length_map, List.length_take, List.length_drop, hex_len, refU_len]); omega)) (by first | omega | (have hr := acc_rng s (2 * k) (j := j) (by omega); have hb2 := UInt8.toNat_lt (List.getD s (2 * k + j) 0); omega) | ((try simp only [List.length_append, List.length_cons, List.length_nil, List.length_replicate, List.length_map, List.length_take, List.length_drop, hex_len, refU_len]); omega))))⟩ ?_
    refine AMx.blk ?_
    refine gR [] [InR .i64 ((j : Int) + 1)] 50 [(0, vc (st s)), (4, vo 4), (5, vc (i6 ((2 * k : Nat) : Int))), (6, vc (i6 (((16 * (accR s (2 * k) j)) + ((List.getD s ((2 * k) + j) 0).toNat : Int)) - 87))), (7, vc (i6 ((j : Int) + 1)))] [(4, AObj.grow 5 1 UInt8 0 rowU8 (refU s k))] (show InR .i64 ((j : Int) + 1) from (inR64 (by omega) (by omega))) ?_
    refine AMx.ent_inv (s' := AS.lst 50 [(0, vc (st s)), (4, vo 4), (5, vc (i6 ((2 * k : Nat) : Int))), (6, vc (i6 (((16 * (accR s (2 * k) j)) + ((List.getD s ((2 * k) + j) 0).toNat : Int)) - 87))), (7, vc (i6 ((j : Int) + 1)))] [(4, AObj.grow 5 1 UInt8 0 rowU8 (refU s k))]) (ent_proj [0, 4, 5, 6, 7] [4]) ?_
    refine AMx.inv ⟨_, ?_, j + 1, ?_, rfl, ?_⟩
    rotate_left
    · omega
    · rw [← acc_t (by assumption)]; rfl
    · omega
   ·
    refine gR [] [InR .i64 (16 * (accR s (2 * k) j)), InR .i64 ((16 * (accR s (2 * k) j)) + ((List.getD s ((2 * k) + j) 0).toNat : Int)), InR .i64 (((16 * (accR s (2 * k) j)) + ((List.getD s ((2 * k) + j) 0).toNat : Int)) - 48)] 50 [(0, vc (st s)), (4, vo 4), (5, vc (i6 ((2 * k : Nat) : Int))), (6, vc (i6 (((16 * (accR s (2 * k) j)) + ((List.getD s ((2 * k) + j) 0).toNat : Int)) - 48))), (7, vc (i6 (j : Int)))] [(4, AObj.grow 5 1 UInt8 0 rowU8 (refU s k))] ⟨(show InR .i64 (16 * (accR s (2 * k) j)) from (inR64 (by first | omega | (have hr := acc_rng s (2 * k) (j := j) (by omega); have hb2 := UInt8.toNat_lt (List.getD s (2 * k + j) 0); omega) | ((try simp only [List.length_append, List.length_cons, List.length_nil, List.length_replicate, List.length_map, List.length_take, List.length_drop, hex_len, refU_len]); omega)) (by first | omega | (have hr := acc_rng s (2 * k) (j := j) (by omega); have hb2 := UInt8.toNat_lt (List.getD s (2 * k + j) 0); omega) | ((try simp only [List.length_append, List.length_cons, List.length_nil, List.length_replicate, List.length_map, List.length_take, List.length_drop, hex_len, refU_len]); omega)))), (show InR .i64 ((16 * (accR s (2 * k) j)) + ((List.getD s ((2 * k) + j) 0).toNat : Int)) from (inR64 (by first | omega | (have hr := acc_rng s (2 * k) (j := j) (by omega); have hb2 := UInt8.toNat_lt (List.getD s (2 * k + j) 0); omega) | ((try simp only [List.length_append, List.length_cons, List.length_nil, List.length_replicate, List.length_map, List.length_take, List.length_drop, hex_len, refU_len]); omega)) (by first | omega | (have hr := acc_rng s (2 * k) (j := j) (by omega); have hb2 := UInt8.toNat_lt (List.getD s (2 * k + j) 0); omega) | ((try simp only [List.length_append, List.length_cons, List.length_nil, List.length_replicate, List.length_map, List.length_take, List.length_drop, hex_len, refU_len]); omega)))), (show InR .i64 (((16 * (accR s (2 * k) j)) + ((List.getD s ((2 * k) + j) 0).toNat : Int)) - 48) from (inR64 (by first | omega | (have hr := acc_rng s (2 * k) (j := j) (by omega); have hb2 := UInt8.toNat_lt (List.getD s (2 * k + j) 0); omega) | ((try simp only [List.length_append, List.length_cons, List.length_nil, List.length_replicate, List.length_map, List.length_take, List.length_drop, hex_len, refU_len]); omega)) (by first | omega | (have hr := acc_rng s (2 * k) (j := j) (by omega); have hb2 := UInt8.toNat_lt (List.getD s (2 * k + j) 0); omega) | ((try simp only [List.length_append, List.length_cons, List.length_nil, List.length_replicate, List.length_map, List.length_take, List.length_drop, hex_len, refU_len]); omega))))⟩ ?_
    refine AMx.blk ?_
    refine gR [] [InR .i64 ((j : Int) + 1)] 50 [(0, vc (st s)), (4, vo 4), (5, vc (i6 ((2 * k : Nat) : Int))), (6, vc (i6 (((16 * (accR s (2 * k) j)) + ((List.getD s ((2 * k) + j) 0).toNat : Int)) - 48))), (7, vc (i6 ((j : Int) + 1)))] [(4, AObj.grow 5 1 UInt8 0 rowU8 (refU s k))] (show InR .i64 ((j : Int) + 1) from (inR64 (by omega) (by omega))) ?_
    refine AMx.ent_inv (s' := AS.lst 50 [(0, vc (st s)), (4, vo 4), (5, vc (i6 ((2 * k : Nat) : Int))), (6, vc (i6 (((16 * (accR s (2 * k) j)) + ((List.getD s ((2 * k) + j) 0).toNat : Int)) - 48))), (7, vc (i6 ((j : Int) + 1)))] [(4, AObj.grow 5 1 UInt8 0 rowU8 (refU s k))]) (ent_proj [0, 4, 5, 6, 7] [4]) ?_
    refine AMx.inv ⟨_, ?_, j + 1, ?_, rfl, ?_⟩
    rotate_left
    · omega
    · rw [← acc_f (by assumption)]; rfl
    · omega
  ·
   refine AMx.exit ?_
   refine AMx.code_exit ?_
   refine AMx.inv_exit ?_
   refine AMx.blk_exit ?_
   refine gR [(3, CE.obj (AObj.grow 5 1 UInt8 0 rowU8 [refB s k])), (4, CE.obj (AObj.grow 5 1 UInt8 0 rowU8 ((refU s k) ++ [refB s k])))] [flat 1 rowU8 [refB s k] = [.s (u8 (IntKind.wrap .u8 (accR s (2 * k) j)))], List.length ([refB s k] : List UInt8) = 1, AppC (flat 1 rowU8 [refB s k]) (List.length ([refB s k] : List UInt8)) 1 (AObj.grow 5 1 UInt8 0 rowU8 (refU s k)) (AObj.grow 5 1 UInt8 0 rowU8 ((refU s k) ++ [refB s k]))] 50 [(0, vc (st s)), (4, vo 42), (5, vc (i6 ((2 * k : Nat) : Int)))] [(42, AObj.grow 5 1 UInt8 0 rowU8 ((refU s k) ++ [refB s k]))] ⟨(by obtain rfl : j = 2 := (by omega); exact one_ref s k), rfl, (⟨_, rfl, rfl, rfl, by simp only [List.length_append, List.length_cons, List.length_nil, List.length_replicate, List.length_map, List.length_take, List.length_drop, hex_len, refU_len]; omega, by simp only [maxLen, List.length_append, List.length_cons, List.length_nil, List.length_replicate, List.length_map, List.length_take, List.length_drop, hex_len, refU_len]; omega⟩)⟩ ?_
   refine AMx.blk ?_
   refine gR [] [InR .i64 (((2 * k : Nat) : Int) + 2)] 50 [(0, vc (st s)), (4, vo 42), (5, vc (i6 (((2 * k : Nat) : Int) + 2)))] [(42, AObj.grow 5 1 UInt8 0 rowU8 ((refU s k) ++ [refB s k]))] (show InR .i64 (((2 * k : Nat) : Int) + 2) from (inR64 (by omega) (by omega))) ?_
   refine AMx.ent_inv (s' := AS.lst 50 [(0, vc (st s)), (4, vo 4), (5, vc (i6 (((2 * k : Nat) : Int) + 2)))] [(4, AObj.grow 5 1 UInt8 0 rowU8 ((refU s k) ++ [refB s k]))]) (ent_swap 42 4 (by kernel_rfl) (by kernel_rfl)) ?_
   refine AMx.ent_inv (s' := AS.lst 50 [(0, vc (st s)), (4, vo 4), (5, vc (i6 (((2 * k : Nat) : Int) + 2)))] [(4, AObj.grow 5 1 UInt8 0 rowU8 ((refU s k) ++ [refB s k]))]) (ent_proj [0, 4, 5] [4]) ?_
   refine AMx.inv ⟨_, ?_, k + 1, ?_, rfl, ?_⟩
   rotate_left
   · omega
   · rw [← refU_step]; rfl
   · omega
 ·
  refine AMx.exit ?_
  refine AMx.code_exit ?_
  refine AMx.inv_exit ?_
  refine AMx.blk_exit ?_
  refine gQ ?_
  refine gS [(1, CE.str (refU s k)), (2, CE.call [] [] (vc (st (hexS (refU s k)))) [])] [flat 1 rowU8 (refU s k) = flat 1 rowU8 (refU s k), List.length (refU s k : List UInt8) = List.length (refU s k : List UInt8), (List.length (refU s k : List UInt8) : Int) ≤ 140737488355328, Spec Tryz.prog 69 [tc (st (refU s k))] (ofH []) (vc (st (hexS (refU s k)))) (ofH [])] 50 [(4, vo 4), (47, vc (bo (!decide (hexS (refU s k) = s))))] [(4, AObj.grow 5 1 UInt8 0 rowU8 (refU s k))] ⟨rfl, rfl, (show (List.length (refU s k : List UInt8) : Int) ≤ 140737488355328 from (by first | omega | (have hr := acc_rng s (2 * k) (j := j) (by omega); have hb2 := UInt8.toNat_lt (List.getD s (2 * k + j) 0); omega) | ((try simp only [List.length_append, List.length_cons, List.length_nil, List.length_replicate, List.length_map, List.length_take, List.length_drop, hex_len, refU_len]); omega))), (RHex_c (refU s k) (by first | omega | (have hr := acc_rng s (2 * k) (j := j) (by omega); have hb2 := UInt8.toNat_lt (List.getD s (2 * k + j) 0); omega) | ((try simp only [List.length_append, List.length_cons, List.length_nil, List.length_replicate, List.length_map, List.length_take, List.length_drop, hex_len, refU_len]); omega)))⟩ ?_
  refine gN (hexS (refU s k) = s) (fun hc4 => ?_) fun hc4 => ?_
  ·
   refine gS [] [] 50 [(2, vc (st [])), (3, vc (bo false))] [] trivial ?_
   exact gT (AV.tup [tc (st []), tc (bo false)]) (by rw [show unhexS s = ([], false) from by rw [ref_fin (k := k) (by omega) (by omega)]; first | rw [if_pos (by assumption)] | rw [if_neg (fun q => q (by assumption))]])
  ·
   refine AMx.skip ?_
   refine gS [(1, CE.str (refU s k))] [flat 1 rowU8 (refU s k) = flat 1 rowU8 (refU s k), List.length (refU s k : List UInt8) = List.length (refU s k : List UInt8), (List.length (refU s k : List UInt8) : Int) ≤ 140737488355328] 50 [(2, vc (st (refU s k))), (3, vc (bo true))] [] ⟨rfl, rfl, (show (List.length (refU s k : List UInt8) : Int) ≤ 140737488355328 from (by first | omega | (have hr := acc_rng s (2 * k) (j := j) (by omega); have hb2 := UInt8.toNat_lt (List.getD s (2 * k + j) 0); omega) | ((try simp only [List.length_append, List.length_cons, List.length_nil, List.length_replicate, List.length_map, List.length_take, List.length_drop, hex_len, refU_len]); omega)))⟩ ?_
   exact gT (AV.tup [tc (st (refU s k)), tc (bo true)]) (by rw [show unhexS s = (refU s k, true) from by rw [ref_fin (k := k) (by omega) (by omega)]; first | rw [if_pos (by assumption)] | rw [if_neg (fun q => q (by assumption))]])
end AL.Ask
