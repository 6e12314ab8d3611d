/- ask: the contracts of its functions, by their walks. No condition. -/
import Derived.Test.YtiiiecdfganahaaDoorAskB
import Derived.Test.YtiiiecdfganahaaDoorPolicyC
import Derived.Test.YtiiiecdfganahaaDoorPolicyE
import Derived.Test.YtiiiecdfganahaaDoorPolicyO
namespace AL.Ask
open Go Go.Proofs AL
set_option linter.unusedVariables false
set_option linter.unusedSimpArgs false

theorem f23_body : Tryd.f23.body = some (.seq (.region 0 (rg Tryd.f23 0) false) (.seq (.region 1 (rg Tryd.f23 1) false) (.seq (.seq (.region 2 (rg Tryd.f23 2) false) (.cond (.tmp 25) (.seq (.region 3 (rg Tryd.f23 3) false) (.ret)) (.skip))) (.seq (.region 4 (rg Tryd.f23 4) false) (.ret))))) := by kernel_rfl

set_option maxRecDepth 100000 in
set_option maxHeartbeats 8000000 in
theorem formOf_c (op : Int) : Pure Tryd.prog 23 [tc (u8 op)] (AV.t (TV.agg [.s (st (wordS op)), .s (st (kindS op))])) := by
  refine Pure.of_body Tryd.func23 f23_body (by kernel_rfl) Tryd.ntmps23 (by kernel_rfl) (by kernel_rfl) ?_
  refine AMx.int 0 rfl (fun hop => ?_)
  rw [inR8_iff] at hop
  refine AMx.seq ?_
  refine AMx.region (ces := []) (ks := [0, 2]) (hs := [2]) (cs := []) (s' := AS.lst 30 [(0, vc (u8 op)), (2, vp 2 0)] [(2, AObj.row [.s (st []), .s (st [])])]) (by kernel_rfl) ?_ ?_
  · exact trivial
  refine AMx.seq ?_
  refine AMx.region (ces := []) (ks := [0, 2, 3]) (hs := [2, 3]) (cs := []) (s' := AS.lst 30 [(0, vc (u8 op)), (2, vp 2 0), (3, vp 3 0)] [(2, AObj.row [.s (st []), .s (st [])]), (3, AObj.row [.s (st []), .s (st []), .s (st [115, 116, 97, 116, 117, 115]), .s (st []), .s (st [117, 110, 115, 101, 97, 108]), .s (st [107]), .s (st [115, 101, 97, 108]), .s (st [116]), .s (st [114, 111, 116, 97, 116, 101]), .s (st [116]), .s (st [109, 111, 117, 110, 116]), .s (st [116, 112, 110, 102]), .s (st [117, 110, 109, 111, 117, 110, 116]), .s (st [116, 112]), .s (st [109, 97, 107, 101]), .s (st [116, 109, 114]), .s (st [114, 101, 118, 111, 107, 101]), .s (st [116, 109]), .s (st [114, 101, 97, 100]), .s (st [116, 112, 110]), .s (st [119, 114, 105, 116, 101]), .s (st [116, 112, 99, 100]), .s (st [100, 101, 108, 101, 116, 101]), .s (st [116, 112, 108]), .s (st [117, 110, 100, 101, 108, 101, 116, 101]), .s (st [116, 112, 108]), .s (st [100, 101, 115, 116, 114, 111, 121]), .s (st [116, 112, 108]), .s (st [109, 101, 116, 97]), .s (st [116, 112]), .s (st [99, 111, 110, 102, 105, 103]), .s (st [116, 112, 110, 102]), .s (st [112, 117, 114, 103, 101]), .s (st [116, 112]), .s (st [108, 105, 115, 116]), .s (st [116, 112]), .s (st [99, 111, 112, 121]), .s (st [116, 112, 113])])]) (by kernel_rfl) ?_ ?_
  · exact trivial
  refine AMx.seq ?_
  refine AMx.seq ?_
  refine AMx.region (ces := []) (ks := [0, 2, 3, 25]) (hs := [2, 3]) (cs := []) (s' := AS.lst 30 [(0, vc (u8 op)), (2, vp 2 0), (3, vp 3 0), (25, vc (bo (decide (19 ≤ op))))] [(2, AObj.row [.s (st []), .s (st [])]), (3, AObj.row [.s (st []), .s (st []), .s (st [115, 116, 97, 116, 117, 115]), .s (st []), .s (st [117, 110, 115, 101, 97, 108]), .s (st [107]), .s (st [115, 101, 97, 108]), .s (st [116]), .s (st [114, 111, 116, 97, 116, 101]), .s (st [116]), .s (st [109, 111, 117, 110, 116]), .s (st [116, 112, 110, 102]), .s (st [117, 110, 109, 111, 117, 110, 116]), .s (st [116, 112]), .s (st [109, 97, 107, 101]), .s (st [116, 109, 114]), .s (st [114, 101, 118, 111, 107, 101]), .s (st [116, 109]), .s (st [114, 101, 97, 100]), .s (st [116, 112, 110]), .s (st [119, 114, 105, 116, 101]), .s (st [116, 112, 99, 100]), .s (st [100, 101, 108, 101, 116, 101]), .s (st [116, 112, 108]), .s (st [117, 110, 100, 101, 108, 101, 116, 101]), .s (st [116, 112, 108]), .s (st [100, 101, 115, 116, 114, 111, 121]), .s (st [116, 112, 108]), .s (st [109, 101, 116, 97]), .s (st [116, 112]), .s (st [99, 111, 110, 102, 105, 103]), .s (st [116, 112, 110, 102]), .s (st [112, 117, 114, 103, 101]), .s (st [116, 112]), .s (st [108, 105, 115, 116]), .s (st [116, 112]), .s (st [99, 111, 112, 121]), .s (st [116, 112, 113])])]) (by kernel_rfl) ?_ ?_
  · exact trivial
  refine AMx.cond (b := decide (19 ≤ op)) (by kernel_rfl) (fun hc1 => ?_) (fun hc1 => ?_)
  · try simp only [decide_eq_true_eq, decide_eq_false_iff_not] at hc1
    refine AMx.seq ?_
    refine AMx.region (ces := []) (ks := [2]) (hs := [2]) (cs := []) (s' := AS.lst 30 [(2, vp 2 0)] [(2, AObj.row [.s (st []), .s (st [])])]) (by kernel_rfl) ?_ ?_
    · exact trivial
    refine AMx.ret ?_
    exact RetP.mk (r := AV.t (TV.agg [.s (st []), .s (st [])])) (by kernel_rfl) (by first | rfl | rw [(word_out (by omega)).1, (word_out (by omega)).2])
  · try simp only [decide_eq_true_eq, decide_eq_false_iff_not] at hc1
    refine AMx.skip ?_
    refine AMx.seq ?_
    rcases (show op = 0 ∨ op = 1 ∨ op = 2 ∨ op = 3 ∨ op = 4 ∨ op = 5 ∨ op = 6 ∨ op = 7 ∨ op = 8 ∨ op = 9 ∨ op = 10 ∨ op = 11 ∨ op = 12 ∨ op = 13 ∨ op = 14 ∨ op = 15 ∨ op = 16 ∨ op = 17 ∨ op = 18 by omega) with rfl | rfl | rfl | rfl | rfl | rfl | rfl | rfl | rfl | rfl | rfl | rfl | rfl | rfl | rfl | rfl | rfl | rfl | rfl
    · skip
      refine AMx.region (ces := []) (ks := [2]) (hs := [2]) (cs := [(0 : Int) ≤ 0, (0 : Int) < 19]) (s' := AS.lst 30 [(2, vp 2 0)] [(2, AObj.row [.s (st []), .s (st [])])]) (by kernel_rfl) ?_ ?_
      · exact ⟨(show (0 : Int) ≤ 0 from (by omega)), (show (0 : Int) < 19 from (by omega))⟩
      refine AMx.ret ?_
      exact RetP.mk (r := AV.t (TV.agg [.s (st []), .s (st [])])) (by kernel_rfl) (by first | rfl | rw [(word_out (by omega)).1, (word_out (by omega)).2])
    · skip
      refine AMx.region (ces := []) (ks := [2]) (hs := [2]) (cs := [(0 : Int) ≤ 1, (1 : Int) < 19]) (s' := AS.lst 30 [(2, vp 2 0)] [(2, AObj.row [.s (st [115, 116, 97, 116, 117, 115]), .s (st [])])]) (by kernel_rfl) ?_ ?_
      · exact ⟨(show (0 : Int) ≤ 1 from (by omega)), (show (1 : Int) < 19 from (by omega))⟩
      refine AMx.ret ?_
      exact RetP.mk (r := AV.t (TV.agg [.s (st [115, 116, 97, 116, 117, 115]), .s (st [])])) (by kernel_rfl) (by first | rfl | rw [(word_out (by omega)).1, (word_out (by omega)).2])
    · skip
      refine AMx.region (ces := []) (ks := [2]) (hs := [2]) (cs := [(0 : Int) ≤ 2, (2 : Int) < 19]) (s' := AS.lst 30 [(2, vp 2 0)] [(2, AObj.row [.s (st [117, 110, 115, 101, 97, 108]), .s (st [107])])]) (by kernel_rfl) ?_ ?_
      · exact ⟨(show (0 : Int) ≤ 2 from (by omega)), (show (2 : Int) < 19 from (by omega))⟩
      refine AMx.ret ?_
      exact RetP.mk (r := AV.t (TV.agg [.s (st [117, 110, 115, 101, 97, 108]), .s (st [107])])) (by kernel_rfl) (by first | rfl | rw [(word_out (by omega)).1, (word_out (by omega)).2])
    · skip
      refine AMx.region (ces := []) (ks := [2]) (hs := [2]) (cs := [(0 : Int) ≤ 3, (3 : Int) < 19]) (s' := AS.lst 30 [(2, vp 2 0)] [(2, AObj.row [.s (st [115, 101, 97, 108]), .s (st [116])])]) (by kernel_rfl) ?_ ?_
      · exact ⟨(show (0 : Int) ≤ 3 from (by omega)), (show (3 : Int) < 19 from (by omega))⟩
      refine AMx.ret ?_
      exact RetP.mk (r := AV.t (TV.agg [.s (st [115, 101, 97, 108]), .s (st [116])])) (by kernel_rfl) (by first | rfl | rw [(word_out (by omega)).1, (word_out (by omega)).2])
    · skip
      refine AMx.region (ces := []) (ks := [2]) (hs := [2]) (cs := [(0 : Int) ≤ 4, (4 : Int) < 19]) (s' := AS.lst 30 [(2, vp 2 0)] [(2, AObj.row [.s (st [114, 111, 116, 97, 116, 101]), .s (st [116])])]) (by kernel_rfl) ?_ ?_
      · exact ⟨(show (0 : Int) ≤ 4 from (by omega)), (show (4 : Int) < 19 from (by omega))⟩
      refine AMx.ret ?_
      exact RetP.mk (r := AV.t (TV.agg [.s (st [114, 111, 116, 97, 116, 101]), .s (st [116])])) (by kernel_rfl) (by first | rfl | rw [(word_out (by omega)).1, (word_out (by omega)).2])
    · skip
      refine AMx.region (ces := []) (ks := [2]) (hs := [2]) (cs := [(0 : Int) ≤ 5, (5 : Int) < 19]) (s' := AS.lst 30 [(2, vp 2 0)] [(2, AObj.row [.s (st [109, 111, 117, 110, 116]), .s (st [116, 112, 110, 102])])]) (by kernel_rfl) ?_ ?_
      · exact ⟨(show (0 : Int) ≤ 5 from (by omega)), (show (5 : Int) < 19 from (by omega))⟩
      refine AMx.ret ?_
      exact RetP.mk (r := AV.t (TV.agg [.s (st [109, 111, 117, 110, 116]), .s (st [116, 112, 110, 102])])) (by kernel_rfl) (by first | rfl | rw [(word_out (by omega)).1, (word_out (by omega)).2])
    · skip
      refine AMx.region (ces := []) (ks := [2]) (hs := [2]) (cs := [(0 : Int) ≤ 6, (6 : Int) < 19]) (s' := AS.lst 30 [(2, vp 2 0)] [(2, AObj.row [.s (st [117, 110, 109, 111, 117, 110, 116]), .s (st [116, 112])])]) (by kernel_rfl) ?_ ?_
      · exact ⟨(show (0 : Int) ≤ 6 from (by omega)), (show (6 : Int) < 19 from (by omega))⟩
      refine AMx.ret ?_
      exact RetP.mk (r := AV.t (TV.agg [.s (st [117, 110, 109, 111, 117, 110, 116]), .s (st [116, 112])])) (by kernel_rfl) (by first | rfl | rw [(word_out (by omega)).1, (word_out (by omega)).2])
    · skip
      refine AMx.region (ces := []) (ks := [2]) (hs := [2]) (cs := [(0 : Int) ≤ 7, (7 : Int) < 19]) (s' := AS.lst 30 [(2, vp 2 0)] [(2, AObj.row [.s (st [109, 97, 107, 101]), .s (st [116, 109, 114])])]) (by kernel_rfl) ?_ ?_
      · exact ⟨(show (0 : Int) ≤ 7 from (by omega)), (show (7 : Int) < 19 from (by omega))⟩
      refine AMx.ret ?_
      exact RetP.mk (r := AV.t (TV.agg [.s (st [109, 97, 107, 101]), .s (st [116, 109, 114])])) (by kernel_rfl) (by first | rfl | rw [(word_out (by omega)).1, (word_out (by omega)).2])
    · skip
      refine AMx.region (ces := []) (ks := [2]) (hs := [2]) (cs := [(0 : Int) ≤ 8, (8 : Int) < 19]) (s' := AS.lst 30 [(2, vp 2 0)] [(2, AObj.row [.s (st [114, 101, 118, 111, 107, 101]), .s (st [116, 109])])]) (by kernel_rfl) ?_ ?_
      · exact ⟨(show (0 : Int) ≤ 8 from (by omega)), (show (8 : Int) < 19 from (by omega))⟩
      refine AMx.ret ?_
      exact RetP.mk (r := AV.t (TV.agg [.s (st [114, 101, 118, 111, 107, 101]), .s (st [116, 109])])) (by kernel_rfl) (by first | rfl | rw [(word_out (by omega)).1, (word_out (by omega)).2])
    · skip
      refine AMx.region (ces := []) (ks := [2]) (hs := [2]) (cs := [(0 : Int) ≤ 9, (9 : Int) < 19]) (s' := AS.lst 30 [(2, vp 2 0)] [(2, AObj.row [.s (st [114, 101, 97, 100]), .s (st [116, 112, 110])])]) (by kernel_rfl) ?_ ?_
      · exact ⟨(show (0 : Int) ≤ 9 from (by omega)), (show (9 : Int) < 19 from (by omega))⟩
      refine AMx.ret ?_
      exact RetP.mk (r := AV.t (TV.agg [.s (st [114, 101, 97, 100]), .s (st [116, 112, 110])])) (by kernel_rfl) (by first | rfl | rw [(word_out (by omega)).1, (word_out (by omega)).2])
    · skip
      refine AMx.region (ces := []) (ks := [2]) (hs := [2]) (cs := [(0 : Int) ≤ 10, (10 : Int) < 19]) (s' := AS.lst 30 [(2, vp 2 0)] [(2, AObj.row [.s (st [119, 114, 105, 116, 101]), .s (st [116, 112, 99, 100])])]) (by kernel_rfl) ?_ ?_
      · exact ⟨(show (0 : Int) ≤ 10 from (by omega)), (show (10 : Int) < 19 from (by omega))⟩
      refine AMx.ret ?_
      exact RetP.mk (r := AV.t (TV.agg [.s (st [119, 114, 105, 116, 101]), .s (st [116, 112, 99, 100])])) (by kernel_rfl) (by first | rfl | rw [(word_out (by omega)).1, (word_out (by omega)).2])
    · skip
      refine AMx.region (ces := []) (ks := [2]) (hs := [2]) (cs := [(0 : Int) ≤ 11, (11 : Int) < 19]) (s' := AS.lst 30 [(2, vp 2 0)] [(2, AObj.row [.s (st [100, 101, 108, 101, 116, 101]), .s (st [116, 112, 108])])]) (by kernel_rfl) ?_ ?_
      · exact ⟨(show (0 : Int) ≤ 11 from (by omega)), (show (11 : Int) < 19 from (by omega))⟩
      refine AMx.ret ?_
      exact RetP.mk (r := AV.t (TV.agg [.s (st [100, 101, 108, 101, 116, 101]), .s (st [116, 112, 108])])) (by kernel_rfl) (by first | rfl | rw [(word_out (by omega)).1, (word_out (by omega)).2])
    · skip
      refine AMx.region (ces := []) (ks := [2]) (hs := [2]) (cs := [(0 : Int) ≤ 12, (12 : Int) < 19]) (s' := AS.lst 30 [(2, vp 2 0)] [(2, AObj.row [.s (st [117, 110, 100, 101, 108, 101, 116, 101]), .s (st [116, 112, 108])])]) (by kernel_rfl) ?_ ?_
      · exact ⟨(show (0 : Int) ≤ 12 from (by omega)), (show (12 : Int) < 19 from (by omega))⟩
      refine AMx.ret ?_
      exact RetP.mk (r := AV.t (TV.agg [.s (st [117, 110, 100, 101, 108, 101, 116, 101]), .s (st [116, 112, 108])])) (by kernel_rfl) (by first | rfl | rw [(word_out (by omega)).1, (word_out (by omega)).2])
    · skip
      refine AMx.region (ces := []) (ks := [2]) (hs := [2]) (cs := [(0 : Int) ≤ 13, (13 : Int) < 19]) (s' := AS.lst 30 [(2, vp 2 0)] [(2, AObj.row [.s (st [100, 101, 115, 116, 114, 111, 121]), .s (st [116, 112, 108])])]) (by kernel_rfl) ?_ ?_
      · exact ⟨(show (0 : Int) ≤ 13 from (by omega)), (show (13 : Int) < 19 from (by omega))⟩
      refine AMx.ret ?_
      exact RetP.mk (r := AV.t (TV.agg [.s (st [100, 101, 115, 116, 114, 111, 121]), .s (st [116, 112, 108])])) (by kernel_rfl) (by first | rfl | rw [(word_out (by omega)).1, (word_out (by omega)).2])
    · skip
      refine AMx.region (ces := []) (ks := [2]) (hs := [2]) (cs := [(0 : Int) ≤ 14, (14 : Int) < 19]) (s' := AS.lst 30 [(2, vp 2 0)] [(2, AObj.row [.s (st [109, 101, 116, 97]), .s (st [116, 112])])]) (by kernel_rfl) ?_ ?_
      · exact ⟨(show (0 : Int) ≤ 14 from (by omega)), (show (14 : Int) < 19 from (by omega))⟩
      refine AMx.ret ?_
      exact RetP.mk (r := AV.t (TV.agg [.s (st [109, 101, 116, 97]), .s (st [116, 112])])) (by kernel_rfl) (by first | rfl | rw [(word_out (by omega)).1, (word_out (by omega)).2])
    · skip
      refine AMx.region (ces := []) (ks := [2]) (hs := [2]) (cs := [(0 : Int) ≤ 15, (15 : Int) < 19]) (s' := AS.lst 30 [(2, vp 2 0)] [(2, AObj.row [.s (st [99, 111, 110, 102, 105, 103]), .s (st [116, 112, 110, 102])])]) (by kernel_rfl) ?_ ?_
      · exact ⟨(show (0 : Int) ≤ 15 from (by omega)), (show (15 : Int) < 19 from (by omega))⟩
      refine AMx.ret ?_
      exact RetP.mk (r := AV.t (TV.agg [.s (st [99, 111, 110, 102, 105, 103]), .s (st [116, 112, 110, 102])])) (by kernel_rfl) (by first | rfl | rw [(word_out (by omega)).1, (word_out (by omega)).2])
    · skip
      refine AMx.region (ces := []) (ks := [2]) (hs := [2]) (cs := [(0 : Int) ≤ 16, (16 : Int) < 19]) (s' := AS.lst 30 [(2, vp 2 0)] [(2, AObj.row [.s (st [112, 117, 114, 103, 101]), .s (st [116, 112])])]) (by kernel_rfl) ?_ ?_
      · exact ⟨(show (0 : Int) ≤ 16 from (by omega)), (show (16 : Int) < 19 from (by omega))⟩
      refine AMx.ret ?_
      exact RetP.mk (r := AV.t (TV.agg [.s (st [112, 117, 114, 103, 101]), .s (st [116, 112])])) (by kernel_rfl) (by first | rfl | rw [(word_out (by omega)).1, (word_out (by omega)).2])
    · skip
      refine AMx.region (ces := []) (ks := [2]) (hs := [2]) (cs := [(0 : Int) ≤ 17, (17 : Int) < 19]) (s' := AS.lst 30 [(2, vp 2 0)] [(2, AObj.row [.s (st [108, 105, 115, 116]), .s (st [116, 112])])]) (by kernel_rfl) ?_ ?_
      · exact ⟨(show (0 : Int) ≤ 17 from (by omega)), (show (17 : Int) < 19 from (by omega))⟩
      refine AMx.ret ?_
      exact RetP.mk (r := AV.t (TV.agg [.s (st [108, 105, 115, 116]), .s (st [116, 112])])) (by kernel_rfl) (by first | rfl | rw [(word_out (by omega)).1, (word_out (by omega)).2])
    · skip
      refine AMx.region (ces := []) (ks := [2]) (hs := [2]) (cs := [(0 : Int) ≤ 18, (18 : Int) < 19]) (s' := AS.lst 30 [(2, vp 2 0)] [(2, AObj.row [.s (st [99, 111, 112, 121]), .s (st [116, 112, 113])])]) (by kernel_rfl) ?_ ?_
      · exact ⟨(show (0 : Int) ≤ 18 from (by omega)), (show (18 : Int) < 19 from (by omega))⟩
      refine AMx.ret ?_
      exact RetP.mk (r := AV.t (TV.agg [.s (st [99, 111, 112, 121]), .s (st [116, 112, 113])])) (by kernel_rfl) (by first | rfl | rw [(word_out (by omega)).1, (word_out (by omega)).2])

theorem f22_body : Tryd.f22.body = some (.seq (.region 0 (rg Tryd.f22 0) false) (.seq (.seq (.region 1 (rg Tryd.f22 1) false) (.block 0 (.loop (.seq (.seq (.region 2 (rg Tryd.f22 2) false) (.cond (.tmp 5) (.skip) (.exit 0))) (.seq (.block 1 (.seq (.region 4 (rg Tryd.f22 4) false) (.cond (.tmp 12) (.seq (.region 5 (rg Tryd.f22 5) false) (.ret)) (.skip)))) (.region 3 (rg Tryd.f22 3) false)))))) (.seq (.region 6 (rg Tryd.f22 6) false) (.ret)))) := by kernel_rfl

set_option maxRecDepth 100000 in
set_option maxHeartbeats 8000000 in
theorem opOf_c (w : Bytes) : Pure Tryd.prog 22 [tc (st w)] (vc (u8 (opS w))) := by
  refine Pure.of_body Tryd.func22 f22_body (by kernel_rfl) Tryd.ntmps22 (by kernel_rfl) (by kernel_rfl) ?_
  refine AMx.seq ?_
  refine AMx.region (ces := []) (ks := [0]) (hs := []) (cs := []) (s' := AS.lst 14 [(0, vc (st w))] []) (by kernel_rfl) ?_ ?_
  · exact trivial
  refine AMx.seq ?_
  refine AMx.seq ?_
  refine AMx.region (ces := []) (ks := [0, 3]) (hs := []) (cs := []) (s' := AS.lst 14 [(0, vc (st w)), (3, vc (u8 1))] []) (by kernel_rfl) ?_ ?_
  · exact trivial
  refine AMx.block ?_
  refine AMx.ent (s' := AS.lst 14 [(0, vc (st w)), (3, vc (u8 1))] []) (ent_proj [0, 3] []) ?_
  refine AMx.loop (fun mm ss => ∃ (k : Nat), ((1 ≤ k ∧ k ≤ 19) ∧ ∀ j, 1 ≤ j → j < k → ¬ List.getD wordsL j [] = w) ∧ mm = 19 - k ∧ ss = AS.lst 14 [(0, vc (st w)), (3, vc (u8 (k : Int)))] []) ⟨1, ?_, rfl, ?_⟩ ?_
  · exact ⟨by omega, fun j h1 h2 => by omega⟩
  · rfl
  rintro mm ss ⟨k, ⟨hI, hN⟩, rfl, rfl⟩
  refine AMx.seq ?_
  refine AMx.seq ?_
  refine AMx.region (ces := []) (ks := [0, 3, 5]) (hs := []) (cs := []) (s' := AS.lst 14 [(0, vc (st w)), (3, vc (u8 (k : Int))), (5, vc (bo (decide ((k : Int) ≤ 18))))] []) (by kernel_rfl) ?_ ?_
  · exact trivial
  refine AMx.cond (b := decide ((k : Int) ≤ 18)) (by kernel_rfl) (fun hc1 => ?_) (fun hc1 => ?_)
  · try simp only [decide_eq_true_eq, decide_eq_false_iff_not] at hc1
    refine AMx.skip ?_
    refine AMx.seq ?_
    refine AMx.block ?_
    refine AMx.seq ?_
    refine AMx.region (ces := [(1, CE.call [] [] (AV.t (TV.agg [.s (st (wordS (k : Int))), .s (st (kindS (k : Int)))])) [])]) (ks := [0, 3, 12]) (hs := []) (cs := [Spec Tryd.prog 23 [tc (u8 (k : Int))] (ofH []) (AV.t (TV.agg [.s (st (wordS (k : Int))), .s (st (kindS (k : Int)))])) (ofH [])]) (s' := AS.lst 14 [(0, vc (st w)), (3, vc (u8 (k : Int))), (12, vc (bo (decide (wordS (k : Int) = w))))] []) (by kernel_rfl) ?_ ?_
    · exact (formOf_c (k : Int))
    refine AMx.cond (b := decide (wordS (k : Int) = w)) (by kernel_rfl) (fun hc2 => ?_) (fun hc2 => ?_)
    · try simp only [decide_eq_true_eq, decide_eq_false_iff_not] at hc2
      refine AMx.seq ?_
      refine AMx.region (ces := []) (ks := [2]) (hs := []) (cs := []) (s' := AS.lst 14 [(2, vc (u8 (k : Int)))] []) (by kernel_rfl) ?_ ?_
      · exact trivial
      refine AMx.ret ?_
      exact RetP.mk (r := vc (u8 (k : Int))) (by kernel_rfl) (by rw [op_some (k := k) (by omega) (by omega) (by assumption)])
    · try simp only [decide_eq_true_eq, decide_eq_false_iff_not] at hc2
      refine AMx.skip ?_
      refine AMx.blk ?_
      refine AMx.region (ces := []) (ks := [0, 3]) (hs := []) (cs := []) (s' := AS.lst 14 [(0, vc (st w)), (3, vc (u8 (IntKind.wrap .u8 ((k : Int) + 1))))] []) (by kernel_rfl) ?_ ?_
      · exact trivial
      refine AMx.ent_inv (s' := AS.lst 14 [(0, vc (st w)), (3, vc (u8 (IntKind.wrap .u8 ((k : Int) + 1))))] []) (ent_proj [0, 3] []) ?_
      refine AMx.inv ⟨_, ?_, k + 1, ?_, rfl, ?_⟩
      rotate_left
      · exact ⟨by omega, fun j h1 h2 => by rcases Nat.lt_or_ge j k with q | q; exact hN j h1 q; rw [show j = k by omega]; assumption⟩
      · rw [wrap_u8 (by omega) (by omega)]; rfl
      · omega
  · try simp only [decide_eq_true_eq, decide_eq_false_iff_not] at hc1
    refine AMx.exit ?_
    refine AMx.code_exit ?_
    refine AMx.inv_exit ?_
    refine AMx.blk_exit ?_
    refine AMx.seq ?_
    refine AMx.region (ces := []) (ks := [2]) (hs := []) (cs := []) (s' := AS.lst 14 [(2, vc (u8 0))] []) (by kernel_rfl) ?_ ?_
    · exact trivial
    refine AMx.ret ?_
    exact RetP.mk (r := vc (u8 0)) (by kernel_rfl) (by rw [op_none (fun j h1 h2 => hN j h1 (by omega))])

theorem f27_body : Tryd.f27.body = some (.seq (.region 0 (rg Tryd.f27 0) false) (.seq (.seq (.region 1 (rg Tryd.f27 1) false) (.block 0 (.seq (.region 2 (rg Tryd.f27 2) false) (.cond (.tmp 6) (.seq (.region 3 (rg Tryd.f27 3) false) (.ret)) (.seq (.region 4 (rg Tryd.f27 4) false) (.cond (.tmp 12) (.seq (.region 5 (rg Tryd.f27 5) false) (.ret)) (.seq (.region 6 (rg Tryd.f27 6) false) (.cond (.tmp 18) (.seq (.region 7 (rg Tryd.f27 7) false) (.ret)) (.seq (.region 8 (rg Tryd.f27 8) false) (.cond (.tmp 23) (.seq (.region 9 (rg Tryd.f27 9) false) (.ret)) (.seq (.region 10 (rg Tryd.f27 10) false) (.cond (.tmp 28) (.seq (.region 11 (rg Tryd.f27 11) false) (.ret)) (.seq (.region 12 (rg Tryd.f27 12) false) (.cond (.tmp 34) (.seq (.region 13 (rg Tryd.f27 13) false) (.ret)) (.seq (.region 14 (rg Tryd.f27 14) false) (.cond (.tmp 40) (.seq (.region 15 (rg Tryd.f27 15) false) (.ret)) (.seq (.region 16 (rg Tryd.f27 16) false) (.cond (.tmp 46) (.seq (.region 17 (rg Tryd.f27 17) false) (.ret)) (.seq (.region 18 (rg Tryd.f27 18) false) (.cond (.tmp 51) (.seq (.region 19 (rg Tryd.f27 19) false) (.ret)) (.skip))))))))))))))))))))) (.seq (.region 20 (rg Tryd.f27 20) false) (.ret)))) := by kernel_rfl

set_option maxRecDepth 100000 in
set_option maxHeartbeats 8000000 in
theorem field_c (a : AskV) (c : Int) : Pure Tryd.prog 27 [TV.agg (rwA a), tc (i3 c)] (vc (i6 (fieldS a c))) := by
  refine Pure.of_body Tryd.func27 f27_body (by kernel_rfl) Tryd.ntmps27 (by kernel_rfl) (by kernel_rfl) ?_
  refine AMx.seq ?_
  refine AMx.region (ces := []) (ks := [1, 2]) (hs := [2]) (cs := []) (s' := AS.lst 58 [(1, vc (i3 c)), (2, vp 2 0)] [(2, AObj.row (rwA a))]) (by kernel_rfl) ?_ ?_
  · exact trivial
  refine AMx.seq ?_
  refine AMx.seq ?_
  refine AMx.region (ces := []) (ks := [2, 5]) (hs := [2]) (cs := []) (s' := AS.lst 58 [(2, vp 2 0), (5, vc (i3 c))] [(2, AObj.row (rwA a))]) (by kernel_rfl) ?_ ?_
  · exact trivial
  refine AMx.block ?_
  refine AMx.seq ?_
  refine AMx.region (ces := []) (ks := [2, 5, 6]) (hs := [2]) (cs := []) (s' := AS.lst 58 [(2, vp 2 0), (5, vc (i3 c)), (6, vc (bo (decide (c = 116))))] [(2, AObj.row (rwA a))]) (by kernel_rfl) ?_ ?_
  · exact trivial
  refine AMx.cond (b := decide (c = 116)) (by kernel_rfl) (fun hc1 => ?_) (fun hc1 => ?_)
  · try simp only [decide_eq_true_eq, decide_eq_false_iff_not] at hc1
    refine AMx.seq ?_
    refine AMx.region (ces := [(2, CE.call [] [] (vc (bo (Rows.namedS a.token))) []), (3, CE.call [] [] (vc (i6 (fineS (Rows.namedS a.token)))) [])]) (ks := [4]) (hs := []) (cs := [Spec Tryd.prog 36 [tc (st a.token)] (ofH []) (vc (bo (Rows.namedS a.token))) (ofH []), Spec Tryd.prog 32 [tc (bo (Rows.namedS a.token))] (ofH []) (vc (i6 (fineS (Rows.namedS a.token)))) (ofH [])]) (s' := AS.lst 58 [(4, vc (i6 (fineS (Rows.namedS a.token))))] []) (by kernel_rfl) ?_ ?_
    · exact ⟨(named_c a.token), (fine_c (Rows.namedS a.token))⟩
    refine AMx.ret ?_
    exact RetP.mk (r := vc (i6 (fineS (Rows.namedS a.token)))) (by kernel_rfl) (by first | (subst_vars; rfl) | (subst_vars; rw [key16]; rfl) | (unfold fieldS; rw [if_neg (by assumption), if_neg (by assumption), if_neg (by assumption), if_neg (by assumption), if_neg (by assumption), if_neg (by assumption), if_neg (by assumption), if_neg (by assumption), if_neg (by assumption)]))
  · try simp only [decide_eq_true_eq, decide_eq_false_iff_not] at hc1
    refine AMx.seq ?_
    refine AMx.region (ces := []) (ks := [2, 5, 12]) (hs := [2]) (cs := []) (s' := AS.lst 58 [(2, vp 2 0), (5, vc (i3 c)), (12, vc (bo (decide (c = 109))))] [(2, AObj.row (rwA a))]) (by kernel_rfl) ?_ ?_
    · exact trivial
    refine AMx.cond (b := decide (c = 109)) (by kernel_rfl) (fun hc2 => ?_) (fun hc2 => ?_)
    · try simp only [decide_eq_true_eq, decide_eq_false_iff_not] at hc2
      refine AMx.seq ?_
      refine AMx.region (ces := [(2, CE.call [] [] (vc (bo (Rows.namedS a.other))) []), (3, CE.call [] [] (vc (i6 (fineS (Rows.namedS a.other)))) [])]) (ks := [4]) (hs := []) (cs := [Spec Tryd.prog 36 [tc (st a.other)] (ofH []) (vc (bo (Rows.namedS a.other))) (ofH []), Spec Tryd.prog 32 [tc (bo (Rows.namedS a.other))] (ofH []) (vc (i6 (fineS (Rows.namedS a.other)))) (ofH [])]) (s' := AS.lst 58 [(4, vc (i6 (fineS (Rows.namedS a.other))))] []) (by kernel_rfl) ?_ ?_
      · exact ⟨(named_c a.other), (fine_c (Rows.namedS a.other))⟩
      refine AMx.ret ?_
      exact RetP.mk (r := vc (i6 (fineS (Rows.namedS a.other)))) (by kernel_rfl) (by first | (subst_vars; rfl) | (subst_vars; rw [key16]; rfl) | (unfold fieldS; rw [if_neg (by assumption), if_neg (by assumption), if_neg (by assumption), if_neg (by assumption), if_neg (by assumption), if_neg (by assumption), if_neg (by assumption), if_neg (by assumption), if_neg (by assumption)]))
    · try simp only [decide_eq_true_eq, decide_eq_false_iff_not] at hc2
      refine AMx.seq ?_
      refine AMx.region (ces := []) (ks := [2, 5, 18]) (hs := [2]) (cs := []) (s' := AS.lst 58 [(2, vp 2 0), (5, vc (i3 c)), (18, vc (bo (decide (c = 112))))] [(2, AObj.row (rwA a))]) (by kernel_rfl) ?_ ?_
      · exact trivial
      refine AMx.cond (b := decide (c = 112)) (by kernel_rfl) (fun hc3 => ?_) (fun hc3 => ?_)
      · try simp only [decide_eq_true_eq, decide_eq_false_iff_not] at hc3
        refine AMx.seq ?_
        refine AMx.region (ces := [(2, CE.call [] [] (vc (i6 (Route.checkS a.path))) [])]) (ks := [4]) (hs := []) (cs := [Spec Tryd.prog 37 [tc (st a.path)] (ofH []) (vc (i6 (Route.checkS a.path))) (ofH [])]) (s' := AS.lst 58 [(4, vc (i6 (Route.checkS a.path)))] []) (by kernel_rfl) ?_ ?_
        · exact (Route.Check_c a.path)
        refine AMx.ret ?_
        exact RetP.mk (r := vc (i6 (Route.checkS a.path))) (by kernel_rfl) (by first | (subst_vars; rfl) | (subst_vars; rw [key16]; rfl) | (unfold fieldS; rw [if_neg (by assumption), if_neg (by assumption), if_neg (by assumption), if_neg (by assumption), if_neg (by assumption), if_neg (by assumption), if_neg (by assumption), if_neg (by assumption), if_neg (by assumption)]))
      · try simp only [decide_eq_true_eq, decide_eq_false_iff_not] at hc3
        refine AMx.seq ?_
        refine AMx.region (ces := []) (ks := [2, 5, 23]) (hs := [2]) (cs := []) (s' := AS.lst 58 [(2, vp 2 0), (5, vc (i3 c)), (23, vc (bo (decide (c = 113))))] [(2, AObj.row (rwA a))]) (by kernel_rfl) ?_ ?_
        · exact trivial
        refine AMx.cond (b := decide (c = 113)) (by kernel_rfl) (fun hc4 => ?_) (fun hc4 => ?_)
        · try simp only [decide_eq_true_eq, decide_eq_false_iff_not] at hc4
          refine AMx.seq ?_
          refine AMx.region (ces := [(2, CE.call [] [] (vc (i6 (Route.checkS a.other))) [])]) (ks := [4]) (hs := []) (cs := [Spec Tryd.prog 37 [tc (st a.other)] (ofH []) (vc (i6 (Route.checkS a.other))) (ofH [])]) (s' := AS.lst 58 [(4, vc (i6 (Route.checkS a.other)))] []) (by kernel_rfl) ?_ ?_
          · exact (Route.Check_c a.other)
          refine AMx.ret ?_
          exact RetP.mk (r := vc (i6 (Route.checkS a.other))) (by kernel_rfl) (by first | (subst_vars; rfl) | (subst_vars; rw [key16]; rfl) | (unfold fieldS; rw [if_neg (by assumption), if_neg (by assumption), if_neg (by assumption), if_neg (by assumption), if_neg (by assumption), if_neg (by assumption), if_neg (by assumption), if_neg (by assumption), if_neg (by assumption)]))
        · try simp only [decide_eq_true_eq, decide_eq_false_iff_not] at hc4
          refine AMx.seq ?_
          refine AMx.region (ces := []) (ks := [2, 5, 28]) (hs := [2]) (cs := []) (s' := AS.lst 58 [(2, vp 2 0), (5, vc (i3 c)), (28, vc (bo (decide (c = 110))))] [(2, AObj.row (rwA a))]) (by kernel_rfl) ?_ ?_
          · exact trivial
          refine AMx.cond (b := decide (c = 110)) (by kernel_rfl) (fun hc5 => ?_) (fun hc5 => ?_)
          · try simp only [decide_eq_true_eq, decide_eq_false_iff_not] at hc5
            refine AMx.seq ?_
            refine AMx.region (ces := [(2, CE.call [] [] (vc (bo (withinI a.n 0 999))) []), (3, CE.call [] [] (vc (i6 (fineS (withinI a.n 0 999)))) [])]) (ks := [4]) (hs := []) (cs := [Spec Tryd.prog 38 [tc (i6 a.n), tc (i6 0), tc (i6 999)] (ofH []) (vc (bo (withinI a.n 0 999))) (ofH []), Spec Tryd.prog 32 [tc (bo (withinI a.n 0 999))] (ofH []) (vc (i6 (fineS (withinI a.n 0 999)))) (ofH [])]) (s' := AS.lst 58 [(4, vc (i6 (fineS (withinI a.n 0 999))))] []) (by kernel_rfl) ?_ ?_
            · exact ⟨(within_c a.n 0 999), (fine_c (withinI a.n 0 999))⟩
            refine AMx.ret ?_
            exact RetP.mk (r := vc (i6 (fineS (withinI a.n 0 999)))) (by kernel_rfl) (by first | (subst_vars; rfl) | (subst_vars; rw [key16]; rfl) | (unfold fieldS; rw [if_neg (by assumption), if_neg (by assumption), if_neg (by assumption), if_neg (by assumption), if_neg (by assumption), if_neg (by assumption), if_neg (by assumption), if_neg (by assumption), if_neg (by assumption)]))
          · try simp only [decide_eq_true_eq, decide_eq_false_iff_not] at hc5
            refine AMx.seq ?_
            refine AMx.region (ces := []) (ks := [2, 5, 34]) (hs := [2]) (cs := []) (s' := AS.lst 58 [(2, vp 2 0), (5, vc (i3 c)), (34, vc (bo (decide (c = 99))))] [(2, AObj.row (rwA a))]) (by kernel_rfl) ?_ ?_
            · exact trivial
            refine AMx.cond (b := decide (c = 99)) (by kernel_rfl) (fun hc6 => ?_) (fun hc6 => ?_)
            · try simp only [decide_eq_true_eq, decide_eq_false_iff_not] at hc6
              refine AMx.seq ?_
              refine AMx.region (ces := [(2, CE.call [] [] (vc (bo (withinI a.cas (-1) 999))) []), (3, CE.call [] [] (vc (i6 (fineS (withinI a.cas (-1) 999)))) [])]) (ks := [4]) (hs := []) (cs := [Spec Tryd.prog 38 [tc (i6 a.cas), tc (i6 (-1)), tc (i6 999)] (ofH []) (vc (bo (withinI a.cas (-1) 999))) (ofH []), Spec Tryd.prog 32 [tc (bo (withinI a.cas (-1) 999))] (ofH []) (vc (i6 (fineS (withinI a.cas (-1) 999)))) (ofH [])]) (s' := AS.lst 58 [(4, vc (i6 (fineS (withinI a.cas (-1) 999))))] []) (by kernel_rfl) ?_ ?_
              · exact ⟨(within_c a.cas (-1) 999), (fine_c (withinI a.cas (-1) 999))⟩
              refine AMx.ret ?_
              exact RetP.mk (r := vc (i6 (fineS (withinI a.cas (-1) 999)))) (by kernel_rfl) (by first | (subst_vars; rfl) | (subst_vars; rw [key16]; rfl) | (unfold fieldS; rw [if_neg (by assumption), if_neg (by assumption), if_neg (by assumption), if_neg (by assumption), if_neg (by assumption), if_neg (by assumption), if_neg (by assumption), if_neg (by assumption), if_neg (by assumption)]))
            · try simp only [decide_eq_true_eq, decide_eq_false_iff_not] at hc6
              refine AMx.seq ?_
              refine AMx.region (ces := []) (ks := [2, 5, 40]) (hs := [2]) (cs := []) (s' := AS.lst 58 [(2, vp 2 0), (5, vc (i3 c)), (40, vc (bo (decide (c = 108))))] [(2, AObj.row (rwA a))]) (by kernel_rfl) ?_ ?_
              · exact trivial
              refine AMx.cond (b := decide (c = 108)) (by kernel_rfl) (fun hc7 => ?_) (fun hc7 => ?_)
              · try simp only [decide_eq_true_eq, decide_eq_false_iff_not] at hc7
                refine AMx.seq ?_
                refine AMx.region (ces := [(2, CE.call [] [] (vc (bo (okNs a.ns))) []), (3, CE.call [] [] (vc (i6 (fineS (okNs a.ns)))) [])]) (ks := [4]) (hs := []) (cs := [Spec Tryd.prog 39 [tc (AL.Fnv.slI a.ns)] (ofH []) (vc (bo (okNs a.ns))) (ofH []), Spec Tryd.prog 32 [tc (bo (okNs a.ns))] (ofH []) (vc (i6 (fineS (okNs a.ns)))) (ofH [])]) (s' := AS.lst 58 [(4, vc (i6 (fineS (okNs a.ns))))] []) (by kernel_rfl) ?_ ?_
                · exact ⟨(counted_c a.ns), (fine_c (okNs a.ns))⟩
                refine AMx.ret ?_
                exact RetP.mk (r := vc (i6 (fineS (okNs a.ns)))) (by kernel_rfl) (by first | (subst_vars; rfl) | (subst_vars; rw [key16]; rfl) | (unfold fieldS; rw [if_neg (by assumption), if_neg (by assumption), if_neg (by assumption), if_neg (by assumption), if_neg (by assumption), if_neg (by assumption), if_neg (by assumption), if_neg (by assumption), if_neg (by assumption)]))
              · try simp only [decide_eq_true_eq, decide_eq_false_iff_not] at hc7
                refine AMx.seq ?_
                refine AMx.region (ces := []) (ks := [2, 5, 46]) (hs := [2]) (cs := []) (s' := AS.lst 58 [(2, vp 2 0), (5, vc (i3 c)), (46, vc (bo (decide (c = 114))))] [(2, AObj.row (rwA a))]) (by kernel_rfl) ?_ ?_
                · exact trivial
                refine AMx.cond (b := decide (c = 114)) (by kernel_rfl) (fun hc8 => ?_) (fun hc8 => ?_)
                · try simp only [decide_eq_true_eq, decide_eq_false_iff_not] at hc8
                  refine AMx.seq ?_
                  refine AMx.region (ces := [(2, CE.call [] [] (vc (i6 (Policy.checkP a.rules))) [])]) (ks := [4]) (hs := []) (cs := [Spec Tryd.prog 40 [tc (Policy.slP a.rules)] (ofH []) (vc (i6 (Policy.checkP a.rules))) (ofH [])]) (s' := AS.lst 58 [(4, vc (i6 (Policy.checkP a.rules)))] []) (by kernel_rfl) ?_ ?_
                  · exact (Policy.Check_c a.rules)
                  refine AMx.ret ?_
                  exact RetP.mk (r := vc (i6 (Policy.checkP a.rules))) (by kernel_rfl) (by first | (subst_vars; rfl) | (subst_vars; rw [key16]; rfl) | (unfold fieldS; rw [if_neg (by assumption), if_neg (by assumption), if_neg (by assumption), if_neg (by assumption), if_neg (by assumption), if_neg (by assumption), if_neg (by assumption), if_neg (by assumption), if_neg (by assumption)]))
                · try simp only [decide_eq_true_eq, decide_eq_false_iff_not] at hc8
                  refine AMx.seq ?_
                  refine AMx.region (ces := []) (ks := [2, 51]) (hs := [2]) (cs := []) (s' := AS.lst 58 [(2, vp 2 0), (51, vc (bo (decide (c = 107))))] [(2, AObj.row (rwA a))]) (by kernel_rfl) ?_ ?_
                  · exact trivial
                  refine AMx.cond (b := decide (c = 107)) (by kernel_rfl) (fun hc9 => ?_) (fun hc9 => ?_)
                  · try simp only [decide_eq_true_eq, decide_eq_false_iff_not] at hc9
                    refine AMx.seq ?_
                    refine AMx.region (ces := [(4, CE.call [] [] (vc (i6 (fineS (decide ((List.length a.key : Int) = 16))))) [])]) (ks := [4]) (hs := []) (cs := [Spec Tryd.prog 32 [tc (bo (decide ((List.length a.key : Int) = 16)))] (ofH []) (vc (i6 (fineS (decide ((List.length a.key : Int) = 16))))) (ofH [])]) (s' := AS.lst 58 [(4, vc (i6 (fineS (decide ((List.length a.key : Int) = 16)))))] []) (by kernel_rfl) ?_ ?_
                    · exact (fine_c (decide ((List.length a.key : Int) = 16)))
                    refine AMx.ret ?_
                    exact RetP.mk (r := vc (i6 (fineS (decide ((List.length a.key : Int) = 16))))) (by kernel_rfl) (by first | (subst_vars; rfl) | (subst_vars; rw [key16]; rfl) | (unfold fieldS; rw [if_neg (by assumption), if_neg (by assumption), if_neg (by assumption), if_neg (by assumption), if_neg (by assumption), if_neg (by assumption), if_neg (by assumption), if_neg (by assumption), if_neg (by assumption)]))
                  · try simp only [decide_eq_true_eq, decide_eq_false_iff_not] at hc9
                    refine AMx.skip ?_
                    refine AMx.blk ?_
                    refine AMx.seq ?_
                    refine AMx.region (ces := []) (ks := [4]) (hs := []) (cs := []) (s' := AS.lst 58 [(4, vc (i6 0))] []) (by kernel_rfl) ?_ ?_
                    · exact trivial
                    refine AMx.ret ?_
                    exact RetP.mk (r := vc (i6 0)) (by kernel_rfl) (by first | (subst_vars; rfl) | (subst_vars; rw [key16]; rfl) | (unfold fieldS; rw [if_neg (by assumption), if_neg (by assumption), if_neg (by assumption), if_neg (by assumption), if_neg (by assumption), if_neg (by assumption), if_neg (by assumption), if_neg (by assumption), if_neg (by assumption)]))

theorem f28_body : Tryd.f28.body = some (.seq (.region 0 (rg Tryd.f28 0) false) (.seq (.seq (.region 1 (rg Tryd.f28 1) false) (.block 0 (.seq (.region 2 (rg Tryd.f28 2) false) (.cond (.tmp 6) (.region 3 (rg Tryd.f28 3) false) (.seq (.region 4 (rg Tryd.f28 4) false) (.cond (.tmp 9) (.region 5 (rg Tryd.f28 5) false) (.seq (.seq (.region 6 (rg Tryd.f28 6) false) (.cond (.tmp 12) (.skip) (.region 7 (rg Tryd.f28 7) false))) (.cond (.tmp 12) (.region 8 (rg Tryd.f28 8) false) (.seq (.region 9 (rg Tryd.f28 9) false) (.cond (.tmp 16) (.region 10 (rg Tryd.f28 10) false) (.seq (.region 11 (rg Tryd.f28 11) false) (.cond (.tmp 19) (.region 12 (rg Tryd.f28 12) false) (.seq (.region 13 (rg Tryd.f28 13) false) (.cond (.tmp 22) (.region 14 (rg Tryd.f28 14) false) (.seq (.region 15 (rg Tryd.f28 15) false) (.cond (.tmp 25) (.region 16 (rg Tryd.f28 16) false) (.seq (.region 17 (rg Tryd.f28 17) false) (.cond (.tmp 28) (.region 18 (rg Tryd.f28 18) false) (.seq (.region 19 (rg Tryd.f28 19) false) (.cond (.tmp 31) (.region 20 (rg Tryd.f28 20) false) (.seq (.region 21 (rg Tryd.f28 21) false) (.cond (.tmp 34) (.region 22 (rg Tryd.f28 22) false) (.skip))))))))))))))))))))))) (.seq (.region 23 (rg Tryd.f28 23) false) (.ret)))) := by kernel_rfl

set_option maxRecDepth 100000 in
set_option maxHeartbeats 8000000 in
theorem without_c (a : AskV) (c : Int) : Pure Tryd.prog 28 [TV.agg (rwA a), tc (i3 c)] (AV.t (TV.agg (rwA (withoutS a c)))) := by
  refine Pure.of_body Tryd.func28 f28_body (by kernel_rfl) Tryd.ntmps28 (by kernel_rfl) (by kernel_rfl) ?_
  refine AMx.seq ?_
  refine AMx.region (ces := []) (ks := [1, 2, 4]) (hs := [2, 4]) (cs := []) (s' := AS.lst 38 [(1, vc (i3 c)), (2, vp 2 0), (4, vp 4 0)] [(2, AObj.row (rwA a)), (4, AObj.row [.s (u8 0), .s (st []), .s (st []), .s (st []), .s (i6 0), .s (i6 0), .s (bo false), .s (SC.nilsl), .s (st []), .s (SC.nilsl), .s (st [])])]) (by kernel_rfl) ?_ ?_
  · exact trivial
  refine AMx.seq ?_
  refine AMx.seq ?_
  refine AMx.region (ces := []) (ks := [2, 4, 5]) (hs := [2, 4]) (cs := []) (s' := AS.lst 38 [(2, vp 2 0), (4, vp 4 0), (5, vc (i3 c))] [(2, AObj.row (rwA a)), (4, AObj.row [.s (u8 0), .s (st []), .s (st []), .s (st []), .s (i6 0), .s (i6 0), .s (bo false), .s (SC.nilsl), .s (st []), .s (SC.nilsl), .s (st [])])]) (by kernel_rfl) ?_ ?_
  · exact trivial
  refine AMx.block ?_
  refine AMx.seq ?_
  refine AMx.region (ces := []) (ks := [2, 4, 5, 6]) (hs := [2, 4]) (cs := []) (s' := AS.lst 38 [(2, vp 2 0), (4, vp 4 0), (5, vc (i3 c)), (6, vc (bo (decide (c = 116))))] [(2, AObj.row (rwA a)), (4, AObj.row [.s (u8 0), .s (st []), .s (st []), .s (st []), .s (i6 0), .s (i6 0), .s (bo false), .s (SC.nilsl), .s (st []), .s (SC.nilsl), .s (st [])])]) (by kernel_rfl) ?_ ?_
  · exact trivial
  refine AMx.cond (b := decide (c = 116)) (by kernel_rfl) (fun hc1 => ?_) (fun hc1 => ?_)
  · try simp only [decide_eq_true_eq, decide_eq_false_iff_not] at hc1
    refine AMx.region (ces := []) (ks := [2, 4]) (hs := [2, 4]) (cs := []) (s' := AS.lst 38 [(2, vp 2 0), (4, vp 4 0)] [(2, AObj.row [.s (u8 a.op), .s (st []), .s (st a.path), .s (st a.other), .s (i6 a.n), .s (i6 a.cas), .s (bo a.flag), .s (AL.Fnv.slI a.ns), .s (st a.data), .s (Policy.slP a.rules), .s (st a.key)]), (4, AObj.row [.s (u8 0), .s (st []), .s (st []), .s (st []), .s (i6 0), .s (i6 0), .s (bo false), .s (SC.nilsl), .s (st []), .s (SC.nilsl), .s (st [])])]) (by kernel_rfl) ?_ ?_
    · exact trivial
    refine AMx.blk ?_
    refine AMx.seq ?_
    refine AMx.region (ces := []) (ks := [4]) (hs := [4]) (cs := []) (s' := AS.lst 38 [(4, vp 4 0)] [(4, AObj.row [.s (u8 a.op), .s (st []), .s (st a.path), .s (st a.other), .s (i6 a.n), .s (i6 a.cas), .s (bo a.flag), .s (AL.Fnv.slI a.ns), .s (st a.data), .s (Policy.slP a.rules), .s (st a.key)])]) (by kernel_rfl) ?_ ?_
    · exact trivial
    refine AMx.ret ?_
    exact RetP.mk (r := AV.t (TV.agg [.s (u8 a.op), .s (st []), .s (st a.path), .s (st a.other), .s (i6 a.n), .s (i6 a.cas), .s (bo a.flag), .s (AL.Fnv.slI a.ns), .s (st a.data), .s (Policy.slP a.rules), .s (st a.key)])) (by kernel_rfl) (by rw [show withoutS a c = (⟨a.op, [], a.path, a.other, a.n, a.cas, a.flag, a.ns, a.data, a.rules, a.key⟩ : AskV) from by first | (subst_vars; rfl) | (unfold withoutS; simp only [*, if_false, or_self]; done) | (unfold withoutS; simp [*])])
  · try simp only [decide_eq_true_eq, decide_eq_false_iff_not] at hc1
    refine AMx.seq ?_
    refine AMx.region (ces := []) (ks := [2, 4, 5, 9]) (hs := [2, 4]) (cs := []) (s' := AS.lst 38 [(2, vp 2 0), (4, vp 4 0), (5, vc (i3 c)), (9, vc (bo (decide (c = 112))))] [(2, AObj.row (rwA a)), (4, AObj.row [.s (u8 0), .s (st []), .s (st []), .s (st []), .s (i6 0), .s (i6 0), .s (bo false), .s (SC.nilsl), .s (st []), .s (SC.nilsl), .s (st [])])]) (by kernel_rfl) ?_ ?_
    · exact trivial
    refine AMx.cond (b := decide (c = 112)) (by kernel_rfl) (fun hc2 => ?_) (fun hc2 => ?_)
    · try simp only [decide_eq_true_eq, decide_eq_false_iff_not] at hc2
      refine AMx.region (ces := []) (ks := [2, 4]) (hs := [2, 4]) (cs := []) (s' := AS.lst 38 [(2, vp 2 0), (4, vp 4 0)] [(2, AObj.row [.s (u8 a.op), .s (st a.token), .s (st []), .s (st a.other), .s (i6 a.n), .s (i6 a.cas), .s (bo a.flag), .s (AL.Fnv.slI a.ns), .s (st a.data), .s (Policy.slP a.rules), .s (st a.key)]), (4, AObj.row [.s (u8 0), .s (st []), .s (st []), .s (st []), .s (i6 0), .s (i6 0), .s (bo false), .s (SC.nilsl), .s (st []), .s (SC.nilsl), .s (st [])])]) (by kernel_rfl) ?_ ?_
      · exact trivial
      refine AMx.blk ?_
      refine AMx.seq ?_
      refine AMx.region (ces := []) (ks := [4]) (hs := [4]) (cs := []) (s' := AS.lst 38 [(4, vp 4 0)] [(4, AObj.row [.s (u8 a.op), .s (st a.token), .s (st []), .s (st a.other), .s (i6 a.n), .s (i6 a.cas), .s (bo a.flag), .s (AL.Fnv.slI a.ns), .s (st a.data), .s (Policy.slP a.rules), .s (st a.key)])]) (by kernel_rfl) ?_ ?_
      · exact trivial
      refine AMx.ret ?_
      exact RetP.mk (r := AV.t (TV.agg [.s (u8 a.op), .s (st a.token), .s (st []), .s (st a.other), .s (i6 a.n), .s (i6 a.cas), .s (bo a.flag), .s (AL.Fnv.slI a.ns), .s (st a.data), .s (Policy.slP a.rules), .s (st a.key)])) (by kernel_rfl) (by rw [show withoutS a c = (⟨a.op, a.token, [], a.other, a.n, a.cas, a.flag, a.ns, a.data, a.rules, a.key⟩ : AskV) from by first | (subst_vars; rfl) | (unfold withoutS; simp only [*, if_false, or_self]; done) | (unfold withoutS; simp [*])])
    · try simp only [decide_eq_true_eq, decide_eq_false_iff_not] at hc2
      refine AMx.seq ?_
      refine AMx.seq ?_
      refine AMx.region (ces := []) (ks := [2, 4, 5, 12]) (hs := [2, 4]) (cs := []) (s' := AS.lst 38 [(2, vp 2 0), (4, vp 4 0), (5, vc (i3 c)), (12, vc (bo (decide (c = 109))))] [(2, AObj.row (rwA a)), (4, AObj.row [.s (u8 0), .s (st []), .s (st []), .s (st []), .s (i6 0), .s (i6 0), .s (bo false), .s (SC.nilsl), .s (st []), .s (SC.nilsl), .s (st [])])]) (by kernel_rfl) ?_ ?_
      · exact trivial
      refine AMx.cond (b := decide (c = 109)) (by kernel_rfl) (fun hc3 => ?_) (fun hc3 => ?_)
      · try simp only [decide_eq_true_eq, decide_eq_false_iff_not] at hc3
        refine AMx.skip ?_
        refine AMx.cond (b := decide (c = 109)) (by kernel_rfl) (fun hc4 => ?_) (fun hc4 => ?_)
        · try simp only [decide_eq_true_eq, decide_eq_false_iff_not] at hc4
          refine AMx.region (ces := []) (ks := [2, 4]) (hs := [2, 4]) (cs := []) (s' := AS.lst 38 [(2, vp 2 0), (4, vp 4 0)] [(2, AObj.row [.s (u8 a.op), .s (st a.token), .s (st a.path), .s (st []), .s (i6 a.n), .s (i6 a.cas), .s (bo a.flag), .s (AL.Fnv.slI a.ns), .s (st a.data), .s (Policy.slP a.rules), .s (st a.key)]), (4, AObj.row [.s (u8 0), .s (st []), .s (st []), .s (st []), .s (i6 0), .s (i6 0), .s (bo false), .s (SC.nilsl), .s (st []), .s (SC.nilsl), .s (st [])])]) (by kernel_rfl) ?_ ?_
          · exact trivial
          refine AMx.blk ?_
          refine AMx.seq ?_
          refine AMx.region (ces := []) (ks := [4]) (hs := [4]) (cs := []) (s' := AS.lst 38 [(4, vp 4 0)] [(4, AObj.row [.s (u8 a.op), .s (st a.token), .s (st a.path), .s (st []), .s (i6 a.n), .s (i6 a.cas), .s (bo a.flag), .s (AL.Fnv.slI a.ns), .s (st a.data), .s (Policy.slP a.rules), .s (st a.key)])]) (by kernel_rfl) ?_ ?_
          · exact trivial
          refine AMx.ret ?_
          exact RetP.mk (r := AV.t (TV.agg [.s (u8 a.op), .s (st a.token), .s (st a.path), .s (st []), .s (i6 a.n), .s (i6 a.cas), .s (bo a.flag), .s (AL.Fnv.slI a.ns), .s (st a.data), .s (Policy.slP a.rules), .s (st a.key)])) (by kernel_rfl) (by rw [show withoutS a c = (⟨a.op, a.token, a.path, [], a.n, a.cas, a.flag, a.ns, a.data, a.rules, a.key⟩ : AskV) from by first | (subst_vars; rfl) | (unfold withoutS; simp only [*, if_false, or_self]; done) | (unfold withoutS; simp [*])])
        · try simp only [decide_eq_true_eq, decide_eq_false_iff_not] at hc4
          exfalso; first | exact hc3 hc4 | exact hc4 hc3 | (rw [hc4] at hc3; cases hc3) | simp_all
      · try simp only [decide_eq_true_eq, decide_eq_false_iff_not] at hc3
        refine AMx.region (ces := []) (ks := [2, 4, 5, 12]) (hs := [2, 4]) (cs := []) (s' := AS.lst 38 [(2, vp 2 0), (4, vp 4 0), (5, vc (i3 c)), (12, vc (bo (decide (c = 113))))] [(2, AObj.row (rwA a)), (4, AObj.row [.s (u8 0), .s (st []), .s (st []), .s (st []), .s (i6 0), .s (i6 0), .s (bo false), .s (SC.nilsl), .s (st []), .s (SC.nilsl), .s (st [])])]) (by kernel_rfl) ?_ ?_
        · exact trivial
        refine AMx.cond (b := decide (c = 113)) (by kernel_rfl) (fun hc5 => ?_) (fun hc5 => ?_)
        · try simp only [decide_eq_true_eq, decide_eq_false_iff_not] at hc5
          refine AMx.region (ces := []) (ks := [2, 4]) (hs := [2, 4]) (cs := []) (s' := AS.lst 38 [(2, vp 2 0), (4, vp 4 0)] [(2, AObj.row [.s (u8 a.op), .s (st a.token), .s (st a.path), .s (st []), .s (i6 a.n), .s (i6 a.cas), .s (bo a.flag), .s (AL.Fnv.slI a.ns), .s (st a.data), .s (Policy.slP a.rules), .s (st a.key)]), (4, AObj.row [.s (u8 0), .s (st []), .s (st []), .s (st []), .s (i6 0), .s (i6 0), .s (bo false), .s (SC.nilsl), .s (st []), .s (SC.nilsl), .s (st [])])]) (by kernel_rfl) ?_ ?_
          · exact trivial
          refine AMx.blk ?_
          refine AMx.seq ?_
          refine AMx.region (ces := []) (ks := [4]) (hs := [4]) (cs := []) (s' := AS.lst 38 [(4, vp 4 0)] [(4, AObj.row [.s (u8 a.op), .s (st a.token), .s (st a.path), .s (st []), .s (i6 a.n), .s (i6 a.cas), .s (bo a.flag), .s (AL.Fnv.slI a.ns), .s (st a.data), .s (Policy.slP a.rules), .s (st a.key)])]) (by kernel_rfl) ?_ ?_
          · exact trivial
          refine AMx.ret ?_
          exact RetP.mk (r := AV.t (TV.agg [.s (u8 a.op), .s (st a.token), .s (st a.path), .s (st []), .s (i6 a.n), .s (i6 a.cas), .s (bo a.flag), .s (AL.Fnv.slI a.ns), .s (st a.data), .s (Policy.slP a.rules), .s (st a.key)])) (by kernel_rfl) (by rw [show withoutS a c = (⟨a.op, a.token, a.path, [], a.n, a.cas, a.flag, a.ns, a.data, a.rules, a.key⟩ : AskV) from by first | (subst_vars; rfl) | (unfold withoutS; simp only [*, if_false, or_self]; done) | (unfold withoutS; simp [*])])
        · try simp only [decide_eq_true_eq, decide_eq_false_iff_not] at hc5
          refine AMx.seq ?_
          refine AMx.region (ces := []) (ks := [2, 4, 5, 16]) (hs := [2, 4]) (cs := []) (s' := AS.lst 38 [(2, vp 2 0), (4, vp 4 0), (5, vc (i3 c)), (16, vc (bo (decide (c = 110))))] [(2, AObj.row (rwA a)), (4, AObj.row [.s (u8 0), .s (st []), .s (st []), .s (st []), .s (i6 0), .s (i6 0), .s (bo false), .s (SC.nilsl), .s (st []), .s (SC.nilsl), .s (st [])])]) (by kernel_rfl) ?_ ?_
          · exact trivial
          refine AMx.cond (b := decide (c = 110)) (by kernel_rfl) (fun hc6 => ?_) (fun hc6 => ?_)
          · try simp only [decide_eq_true_eq, decide_eq_false_iff_not] at hc6
            refine AMx.region (ces := []) (ks := [2, 4]) (hs := [2, 4]) (cs := []) (s' := AS.lst 38 [(2, vp 2 0), (4, vp 4 0)] [(2, AObj.row [.s (u8 a.op), .s (st a.token), .s (st a.path), .s (st a.other), .s (i6 0), .s (i6 a.cas), .s (bo a.flag), .s (AL.Fnv.slI a.ns), .s (st a.data), .s (Policy.slP a.rules), .s (st a.key)]), (4, AObj.row [.s (u8 0), .s (st []), .s (st []), .s (st []), .s (i6 0), .s (i6 0), .s (bo false), .s (SC.nilsl), .s (st []), .s (SC.nilsl), .s (st [])])]) (by kernel_rfl) ?_ ?_
            · exact trivial
            refine AMx.blk ?_
            refine AMx.seq ?_
            refine AMx.region (ces := []) (ks := [4]) (hs := [4]) (cs := []) (s' := AS.lst 38 [(4, vp 4 0)] [(4, AObj.row [.s (u8 a.op), .s (st a.token), .s (st a.path), .s (st a.other), .s (i6 0), .s (i6 a.cas), .s (bo a.flag), .s (AL.Fnv.slI a.ns), .s (st a.data), .s (Policy.slP a.rules), .s (st a.key)])]) (by kernel_rfl) ?_ ?_
            · exact trivial
            refine AMx.ret ?_
            exact RetP.mk (r := AV.t (TV.agg [.s (u8 a.op), .s (st a.token), .s (st a.path), .s (st a.other), .s (i6 0), .s (i6 a.cas), .s (bo a.flag), .s (AL.Fnv.slI a.ns), .s (st a.data), .s (Policy.slP a.rules), .s (st a.key)])) (by kernel_rfl) (by rw [show withoutS a c = (⟨a.op, a.token, a.path, a.other, 0, a.cas, a.flag, a.ns, a.data, a.rules, a.key⟩ : AskV) from by first | (subst_vars; rfl) | (unfold withoutS; simp only [*, if_false, or_self]; done) | (unfold withoutS; simp [*])])
          · try simp only [decide_eq_true_eq, decide_eq_false_iff_not] at hc6
            refine AMx.seq ?_
            refine AMx.region (ces := []) (ks := [2, 4, 5, 19]) (hs := [2, 4]) (cs := []) (s' := AS.lst 38 [(2, vp 2 0), (4, vp 4 0), (5, vc (i3 c)), (19, vc (bo (decide (c = 99))))] [(2, AObj.row (rwA a)), (4, AObj.row [.s (u8 0), .s (st []), .s (st []), .s (st []), .s (i6 0), .s (i6 0), .s (bo false), .s (SC.nilsl), .s (st []), .s (SC.nilsl), .s (st [])])]) (by kernel_rfl) ?_ ?_
            · exact trivial
            refine AMx.cond (b := decide (c = 99)) (by kernel_rfl) (fun hc7 => ?_) (fun hc7 => ?_)
            · try simp only [decide_eq_true_eq, decide_eq_false_iff_not] at hc7
              refine AMx.region (ces := []) (ks := [2, 4]) (hs := [2, 4]) (cs := []) (s' := AS.lst 38 [(2, vp 2 0), (4, vp 4 0)] [(2, AObj.row [.s (u8 a.op), .s (st a.token), .s (st a.path), .s (st a.other), .s (i6 a.n), .s (i6 0), .s (bo a.flag), .s (AL.Fnv.slI a.ns), .s (st a.data), .s (Policy.slP a.rules), .s (st a.key)]), (4, AObj.row [.s (u8 0), .s (st []), .s (st []), .s (st []), .s (i6 0), .s (i6 0), .s (bo false), .s (SC.nilsl), .s (st []), .s (SC.nilsl), .s (st [])])]) (by kernel_rfl) ?_ ?_
              · exact trivial
              refine AMx.blk ?_
              refine AMx.seq ?_
              refine AMx.region (ces := []) (ks := [4]) (hs := [4]) (cs := []) (s' := AS.lst 38 [(4, vp 4 0)] [(4, AObj.row [.s (u8 a.op), .s (st a.token), .s (st a.path), .s (st a.other), .s (i6 a.n), .s (i6 0), .s (bo a.flag), .s (AL.Fnv.slI a.ns), .s (st a.data), .s (Policy.slP a.rules), .s (st a.key)])]) (by kernel_rfl) ?_ ?_
              · exact trivial
              refine AMx.ret ?_
              exact RetP.mk (r := AV.t (TV.agg [.s (u8 a.op), .s (st a.token), .s (st a.path), .s (st a.other), .s (i6 a.n), .s (i6 0), .s (bo a.flag), .s (AL.Fnv.slI a.ns), .s (st a.data), .s (Policy.slP a.rules), .s (st a.key)])) (by kernel_rfl) (by rw [show withoutS a c = (⟨a.op, a.token, a.path, a.other, a.n, 0, a.flag, a.ns, a.data, a.rules, a.key⟩ : AskV) from by first | (subst_vars; rfl) | (unfold withoutS; simp only [*, if_false, or_self]; done) | (unfold withoutS; simp [*])])
            · try simp only [decide_eq_true_eq, decide_eq_false_iff_not] at hc7
              refine AMx.seq ?_
              refine AMx.region (ces := []) (ks := [2, 4, 5, 22]) (hs := [2, 4]) (cs := []) (s' := AS.lst 38 [(2, vp 2 0), (4, vp 4 0), (5, vc (i3 c)), (22, vc (bo (decide (c = 102))))] [(2, AObj.row (rwA a)), (4, AObj.row [.s (u8 0), .s (st []), .s (st []), .s (st []), .s (i6 0), .s (i6 0), .s (bo false), .s (SC.nilsl), .s (st []), .s (SC.nilsl), .s (st [])])]) (by kernel_rfl) ?_ ?_
              · exact trivial
              refine AMx.cond (b := decide (c = 102)) (by kernel_rfl) (fun hc8 => ?_) (fun hc8 => ?_)
              · try simp only [decide_eq_true_eq, decide_eq_false_iff_not] at hc8
                refine AMx.region (ces := []) (ks := [2, 4]) (hs := [2, 4]) (cs := []) (s' := AS.lst 38 [(2, vp 2 0), (4, vp 4 0)] [(2, AObj.row [.s (u8 a.op), .s (st a.token), .s (st a.path), .s (st a.other), .s (i6 a.n), .s (i6 a.cas), .s (bo false), .s (AL.Fnv.slI a.ns), .s (st a.data), .s (Policy.slP a.rules), .s (st a.key)]), (4, AObj.row [.s (u8 0), .s (st []), .s (st []), .s (st []), .s (i6 0), .s (i6 0), .s (bo false), .s (SC.nilsl), .s (st []), .s (SC.nilsl), .s (st [])])]) (by kernel_rfl) ?_ ?_
                · exact trivial
                refine AMx.blk ?_
                refine AMx.seq ?_
                refine AMx.region (ces := []) (ks := [4]) (hs := [4]) (cs := []) (s' := AS.lst 38 [(4, vp 4 0)] [(4, AObj.row [.s (u8 a.op), .s (st a.token), .s (st a.path), .s (st a.other), .s (i6 a.n), .s (i6 a.cas), .s (bo false), .s (AL.Fnv.slI a.ns), .s (st a.data), .s (Policy.slP a.rules), .s (st a.key)])]) (by kernel_rfl) ?_ ?_
                · exact trivial
                refine AMx.ret ?_
                exact RetP.mk (r := AV.t (TV.agg [.s (u8 a.op), .s (st a.token), .s (st a.path), .s (st a.other), .s (i6 a.n), .s (i6 a.cas), .s (bo false), .s (AL.Fnv.slI a.ns), .s (st a.data), .s (Policy.slP a.rules), .s (st a.key)])) (by kernel_rfl) (by rw [show withoutS a c = (⟨a.op, a.token, a.path, a.other, a.n, a.cas, false, a.ns, a.data, a.rules, a.key⟩ : AskV) from by first | (subst_vars; rfl) | (unfold withoutS; simp only [*, if_false, or_self]; done) | (unfold withoutS; simp [*])])
              · try simp only [decide_eq_true_eq, decide_eq_false_iff_not] at hc8
                refine AMx.seq ?_
                refine AMx.region (ces := []) (ks := [2, 4, 5, 25]) (hs := [2, 4]) (cs := []) (s' := AS.lst 38 [(2, vp 2 0), (4, vp 4 0), (5, vc (i3 c)), (25, vc (bo (decide (c = 108))))] [(2, AObj.row (rwA a)), (4, AObj.row [.s (u8 0), .s (st []), .s (st []), .s (st []), .s (i6 0), .s (i6 0), .s (bo false), .s (SC.nilsl), .s (st []), .s (SC.nilsl), .s (st [])])]) (by kernel_rfl) ?_ ?_
                · exact trivial
                refine AMx.cond (b := decide (c = 108)) (by kernel_rfl) (fun hc9 => ?_) (fun hc9 => ?_)
                · try simp only [decide_eq_true_eq, decide_eq_false_iff_not] at hc9
                  refine AMx.region (ces := []) (ks := [2, 4]) (hs := [2, 4]) (cs := []) (s' := AS.lst 38 [(2, vp 2 0), (4, vp 4 0)] [(2, AObj.row [.s (u8 a.op), .s (st a.token), .s (st a.path), .s (st a.other), .s (i6 a.n), .s (i6 a.cas), .s (bo a.flag), .s (SC.nilsl), .s (st a.data), .s (Policy.slP a.rules), .s (st a.key)]), (4, AObj.row [.s (u8 0), .s (st []), .s (st []), .s (st []), .s (i6 0), .s (i6 0), .s (bo false), .s (SC.nilsl), .s (st []), .s (SC.nilsl), .s (st [])])]) (by kernel_rfl) ?_ ?_
                  · exact trivial
                  refine AMx.blk ?_
                  refine AMx.seq ?_
                  refine AMx.region (ces := []) (ks := [4]) (hs := [4]) (cs := []) (s' := AS.lst 38 [(4, vp 4 0)] [(4, AObj.row [.s (u8 a.op), .s (st a.token), .s (st a.path), .s (st a.other), .s (i6 a.n), .s (i6 a.cas), .s (bo a.flag), .s (SC.nilsl), .s (st a.data), .s (Policy.slP a.rules), .s (st a.key)])]) (by kernel_rfl) ?_ ?_
                  · exact trivial
                  refine AMx.ent (ent_row 4 (l := [.s (u8 a.op), .s (st a.token), .s (st a.path), .s (st a.other), .s (i6 a.n), .s (i6 a.cas), .s (bo a.flag), .s (SC.nilsl), .s (st a.data), .s (Policy.slP a.rules), .s (st a.key)]) (m := [.s (u8 a.op), .s (st a.token), .s (st a.path), .s (st a.other), .s (i6 a.n), .s (i6 a.cas), .s (bo a.flag), .s (AL.Fnv.slI []), .s (st a.data), .s (Policy.slP a.rules), .s (st a.key)]) (by kernel_rfl) ⟨AC.le_rfl, AC.le_rfl, AC.le_rfl, AC.le_rfl, AC.le_rfl, AC.le_rfl, AC.le_rfl, AC.le_nil, AC.le_rfl, AC.le_rfl, AC.le_rfl, trivial⟩) ?_
                  refine AMx.ret ?_
                  exact RetP.mk (r := AV.t (TV.agg [.s (u8 a.op), .s (st a.token), .s (st a.path), .s (st a.other), .s (i6 a.n), .s (i6 a.cas), .s (bo a.flag), .s (AL.Fnv.slI []), .s (st a.data), .s (Policy.slP a.rules), .s (st a.key)])) (by kernel_rfl) (by rw [show withoutS a c = (⟨a.op, a.token, a.path, a.other, a.n, a.cas, a.flag, [], a.data, a.rules, a.key⟩ : AskV) from by first | (subst_vars; rfl) | (unfold withoutS; simp only [*, if_false, or_self]; done) | (unfold withoutS; simp [*])])
                · try simp only [decide_eq_true_eq, decide_eq_false_iff_not] at hc9
                  refine AMx.seq ?_
                  refine AMx.region (ces := []) (ks := [2, 4, 5, 28]) (hs := [2, 4]) (cs := []) (s' := AS.lst 38 [(2, vp 2 0), (4, vp 4 0), (5, vc (i3 c)), (28, vc (bo (decide (c = 100))))] [(2, AObj.row (rwA a)), (4, AObj.row [.s (u8 0), .s (st []), .s (st []), .s (st []), .s (i6 0), .s (i6 0), .s (bo false), .s (SC.nilsl), .s (st []), .s (SC.nilsl), .s (st [])])]) (by kernel_rfl) ?_ ?_
                  · exact trivial
                  refine AMx.cond (b := decide (c = 100)) (by kernel_rfl) (fun hc10 => ?_) (fun hc10 => ?_)
                  · try simp only [decide_eq_true_eq, decide_eq_false_iff_not] at hc10
                    refine AMx.region (ces := []) (ks := [2, 4]) (hs := [2, 4]) (cs := []) (s' := AS.lst 38 [(2, vp 2 0), (4, vp 4 0)] [(2, AObj.row [.s (u8 a.op), .s (st a.token), .s (st a.path), .s (st a.other), .s (i6 a.n), .s (i6 a.cas), .s (bo a.flag), .s (AL.Fnv.slI a.ns), .s (st []), .s (Policy.slP a.rules), .s (st a.key)]), (4, AObj.row [.s (u8 0), .s (st []), .s (st []), .s (st []), .s (i6 0), .s (i6 0), .s (bo false), .s (SC.nilsl), .s (st []), .s (SC.nilsl), .s (st [])])]) (by kernel_rfl) ?_ ?_
                    · exact trivial
                    refine AMx.blk ?_
                    refine AMx.seq ?_
                    refine AMx.region (ces := []) (ks := [4]) (hs := [4]) (cs := []) (s' := AS.lst 38 [(4, vp 4 0)] [(4, AObj.row [.s (u8 a.op), .s (st a.token), .s (st a.path), .s (st a.other), .s (i6 a.n), .s (i6 a.cas), .s (bo a.flag), .s (AL.Fnv.slI a.ns), .s (st []), .s (Policy.slP a.rules), .s (st a.key)])]) (by kernel_rfl) ?_ ?_
                    · exact trivial
                    refine AMx.ret ?_
                    exact RetP.mk (r := AV.t (TV.agg [.s (u8 a.op), .s (st a.token), .s (st a.path), .s (st a.other), .s (i6 a.n), .s (i6 a.cas), .s (bo a.flag), .s (AL.Fnv.slI a.ns), .s (st []), .s (Policy.slP a.rules), .s (st a.key)])) (by kernel_rfl) (by rw [show withoutS a c = (⟨a.op, a.token, a.path, a.other, a.n, a.cas, a.flag, a.ns, [], a.rules, a.key⟩ : AskV) from by first | (subst_vars; rfl) | (unfold withoutS; simp only [*, if_false, or_self]; done) | (unfold withoutS; simp [*])])
                  · try simp only [decide_eq_true_eq, decide_eq_false_iff_not] at hc10
                    refine AMx.seq ?_
                    refine AMx.region (ces := []) (ks := [2, 4, 5, 31]) (hs := [2, 4]) (cs := []) (s' := AS.lst 38 [(2, vp 2 0), (4, vp 4 0), (5, vc (i3 c)), (31, vc (bo (decide (c = 114))))] [(2, AObj.row (rwA a)), (4, AObj.row [.s (u8 0), .s (st []), .s (st []), .s (st []), .s (i6 0), .s (i6 0), .s (bo false), .s (SC.nilsl), .s (st []), .s (SC.nilsl), .s (st [])])]) (by kernel_rfl) ?_ ?_
                    · exact trivial
                    refine AMx.cond (b := decide (c = 114)) (by kernel_rfl) (fun hc11 => ?_) (fun hc11 => ?_)
                    · try simp only [decide_eq_true_eq, decide_eq_false_iff_not] at hc11
                      refine AMx.region (ces := []) (ks := [2, 4]) (hs := [2, 4]) (cs := []) (s' := AS.lst 38 [(2, vp 2 0), (4, vp 4 0)] [(2, AObj.row [.s (u8 a.op), .s (st a.token), .s (st a.path), .s (st a.other), .s (i6 a.n), .s (i6 a.cas), .s (bo a.flag), .s (AL.Fnv.slI a.ns), .s (st a.data), .s (SC.nilsl), .s (st a.key)]), (4, AObj.row [.s (u8 0), .s (st []), .s (st []), .s (st []), .s (i6 0), .s (i6 0), .s (bo false), .s (SC.nilsl), .s (st []), .s (SC.nilsl), .s (st [])])]) (by kernel_rfl) ?_ ?_
                      · exact trivial
                      refine AMx.blk ?_
                      refine AMx.seq ?_
                      refine AMx.region (ces := []) (ks := [4]) (hs := [4]) (cs := []) (s' := AS.lst 38 [(4, vp 4 0)] [(4, AObj.row [.s (u8 a.op), .s (st a.token), .s (st a.path), .s (st a.other), .s (i6 a.n), .s (i6 a.cas), .s (bo a.flag), .s (AL.Fnv.slI a.ns), .s (st a.data), .s (SC.nilsl), .s (st a.key)])]) (by kernel_rfl) ?_ ?_
                      · exact trivial
                      refine AMx.ent (ent_row 4 (l := [.s (u8 a.op), .s (st a.token), .s (st a.path), .s (st a.other), .s (i6 a.n), .s (i6 a.cas), .s (bo a.flag), .s (AL.Fnv.slI a.ns), .s (st a.data), .s (SC.nilsl), .s (st a.key)]) (m := [.s (u8 a.op), .s (st a.token), .s (st a.path), .s (st a.other), .s (i6 a.n), .s (i6 a.cas), .s (bo a.flag), .s (AL.Fnv.slI a.ns), .s (st a.data), .s (Policy.slP []), .s (st a.key)]) (by kernel_rfl) ⟨AC.le_rfl, AC.le_rfl, AC.le_rfl, AC.le_rfl, AC.le_rfl, AC.le_rfl, AC.le_rfl, AC.le_rfl, AC.le_rfl, AC.le_nil, AC.le_rfl, trivial⟩) ?_
                      refine AMx.ret ?_
                      exact RetP.mk (r := AV.t (TV.agg [.s (u8 a.op), .s (st a.token), .s (st a.path), .s (st a.other), .s (i6 a.n), .s (i6 a.cas), .s (bo a.flag), .s (AL.Fnv.slI a.ns), .s (st a.data), .s (Policy.slP []), .s (st a.key)])) (by kernel_rfl) (by rw [show withoutS a c = (⟨a.op, a.token, a.path, a.other, a.n, a.cas, a.flag, a.ns, a.data, [], a.key⟩ : AskV) from by first | (subst_vars; rfl) | (unfold withoutS; simp only [*, if_false, or_self]; done) | (unfold withoutS; simp [*])])
                    · try simp only [decide_eq_true_eq, decide_eq_false_iff_not] at hc11
                      refine AMx.seq ?_
                      refine AMx.region (ces := []) (ks := [2, 4, 34]) (hs := [2, 4]) (cs := []) (s' := AS.lst 38 [(2, vp 2 0), (4, vp 4 0), (34, vc (bo (decide (c = 107))))] [(2, AObj.row (rwA a)), (4, AObj.row [.s (u8 0), .s (st []), .s (st []), .s (st []), .s (i6 0), .s (i6 0), .s (bo false), .s (SC.nilsl), .s (st []), .s (SC.nilsl), .s (st [])])]) (by kernel_rfl) ?_ ?_
                      · exact trivial
                      refine AMx.cond (b := decide (c = 107)) (by kernel_rfl) (fun hc12 => ?_) (fun hc12 => ?_)
                      · try simp only [decide_eq_true_eq, decide_eq_false_iff_not] at hc12
                        refine AMx.region (ces := []) (ks := [2, 4]) (hs := [2, 4]) (cs := []) (s' := AS.lst 38 [(2, vp 2 0), (4, vp 4 0)] [(2, AObj.row [.s (u8 a.op), .s (st a.token), .s (st a.path), .s (st a.other), .s (i6 a.n), .s (i6 a.cas), .s (bo a.flag), .s (AL.Fnv.slI a.ns), .s (st a.data), .s (Policy.slP a.rules), .s (st [])]), (4, AObj.row [.s (u8 0), .s (st []), .s (st []), .s (st []), .s (i6 0), .s (i6 0), .s (bo false), .s (SC.nilsl), .s (st []), .s (SC.nilsl), .s (st [])])]) (by kernel_rfl) ?_ ?_
                        · exact trivial
                        refine AMx.blk ?_
                        refine AMx.seq ?_
                        refine AMx.region (ces := []) (ks := [4]) (hs := [4]) (cs := []) (s' := AS.lst 38 [(4, vp 4 0)] [(4, AObj.row [.s (u8 a.op), .s (st a.token), .s (st a.path), .s (st a.other), .s (i6 a.n), .s (i6 a.cas), .s (bo a.flag), .s (AL.Fnv.slI a.ns), .s (st a.data), .s (Policy.slP a.rules), .s (st [])])]) (by kernel_rfl) ?_ ?_
                        · exact trivial
                        refine AMx.ret ?_
                        exact RetP.mk (r := AV.t (TV.agg [.s (u8 a.op), .s (st a.token), .s (st a.path), .s (st a.other), .s (i6 a.n), .s (i6 a.cas), .s (bo a.flag), .s (AL.Fnv.slI a.ns), .s (st a.data), .s (Policy.slP a.rules), .s (st [])])) (by kernel_rfl) (by rw [show withoutS a c = (⟨a.op, a.token, a.path, a.other, a.n, a.cas, a.flag, a.ns, a.data, a.rules, []⟩ : AskV) from by first | (subst_vars; rfl) | (unfold withoutS; simp only [*, if_false, or_self]; done) | (unfold withoutS; simp [*])])
                      · try simp only [decide_eq_true_eq, decide_eq_false_iff_not] at hc12
                        refine AMx.skip ?_
                        refine AMx.blk ?_
                        refine AMx.seq ?_
                        refine AMx.region (ces := []) (ks := [4]) (hs := [4]) (cs := []) (s' := AS.lst 38 [(4, vp 4 0)] [(4, AObj.row (rwA a))]) (by kernel_rfl) ?_ ?_
                        · exact trivial
                        refine AMx.ret ?_
                        exact RetP.mk (r := AV.t (TV.agg (rwA a))) (by kernel_rfl) (by rw [show withoutS a c = a from by first | (subst_vars; rfl) | (unfold withoutS; simp only [*, if_false, or_self]; done) | (unfold withoutS; simp [*])])

theorem f25_body : Tryd.f25.body = some (.seq (.region 0 (rg Tryd.f25 0) false) (.seq (.seq (.region 1 (rg Tryd.f25 1) false) (.cond (.tmp 10) (.seq (.region 2 (rg Tryd.f25 2) false) (.ret)) (.skip))) (.seq (.seq (.region 3 (rg Tryd.f25 3) false) (.block 0 (.loop (.seq (.region 4 (rg Tryd.f25 4) false) (.seq (.cond (.tmp 14) (.skip) (.exit 0)) (.seq (.block 1 (.seq (.region 5 (rg Tryd.f25 5) false) (.seq (.region 6 (rg Tryd.f25 6) true) (.cond (.tmp 24) (.seq (.region 7 (rg Tryd.f25 7) false) (.ret)) (.skip))))) (.region 8 (rg Tryd.f25 8) false))))))) (.seq (.region 9 (rg Tryd.f25 9) false) (.ret))))) := by kernel_rfl

set_option maxRecDepth 100000 in
set_option maxHeartbeats 8000000 in
theorem EqualI_c (a b : List Int) : Pure Tryd.prog 25 [tc (AL.Fnv.slI a), tc (AL.Fnv.slI b)] (vc (bo (decide (a = b)))) := by
  refine Pure.of_body Tryd.func25 f25_body (by kernel_rfl) Tryd.ntmps25 (by kernel_rfl) (by kernel_rfl) ?_
  refine AMx.sl 0 (l := a) rfl (fun hl => ?_)
  simp only [maxLen] at hl
  refine AMx.seq ?_
  refine AMx.region (ces := []) (ks := [0, 1]) (hs := []) (cs := []) (s' := AS.lst 26 [(0, vc (AL.Fnv.slI a)), (1, vc (AL.Fnv.slI b))] []) (by kernel_rfl) ?_ ?_
  · exact trivial
  refine AMx.seq ?_
  refine AMx.seq ?_
  refine AMx.region (ces := []) (ks := [0, 1, 10]) (hs := []) (cs := []) (s' := AS.lst 26 [(0, vc (AL.Fnv.slI a)), (1, vc (AL.Fnv.slI b)), (10, vc (bo (!decide ((List.length a : Int) = (List.length b : Int)))))] []) (by kernel_rfl) ?_ ?_
  · exact trivial
  refine AMx.cond (b := !decide ((List.length a : Int) = (List.length b : Int))) (by kernel_rfl) (fun hc1 => ?_) (fun hc1 => ?_)
  · try simp only [decide_eq_true_eq, decide_eq_false_iff_not, Bool.not_eq_true', Bool.not_eq_false'] at hc1
    refine AMx.seq ?_
    refine AMx.region (ces := []) (ks := [4]) (hs := []) (cs := []) (s' := AS.lst 26 [(4, vc (bo false))] []) (by kernel_rfl) ?_ ?_
    · exact trivial
    refine AMx.ret ?_
    exact RetP.mk (r := vc (bo false)) (by kernel_rfl) (by rw [decide_eq_false (fun h => by subst h; simp_all)])
  · try simp only [decide_eq_true_eq, decide_eq_false_iff_not, Bool.not_eq_true', Bool.not_eq_false'] at hc1
    refine AMx.skip ?_
    refine AMx.seq ?_
    refine AMx.seq ?_
    refine AMx.region (ces := []) (ks := [0, 1, 12, 13]) (hs := []) (cs := []) (s' := AS.lst 26 [(0, vc (AL.Fnv.slI a)), (1, vc (AL.Fnv.slI b)), (12, vc (i6 (List.length a : Int))), (13, vc (i6 0))] []) (by kernel_rfl) ?_ ?_
    · exact trivial
    refine AMx.block ?_
    refine AMx.ent (s' := AS.lst 26 [(0, vc (AL.Fnv.slI a)), (1, vc (AL.Fnv.slI b)), (12, vc (i6 (List.length a : Int))), (13, vc (i6 0))] []) (ent_proj [0, 1, 12, 13] []) ?_
    refine AMx.loop (fun mm ss => ∃ (i : Nat), (i ≤ a.length ∧ List.take i a = List.take i b) ∧ mm = a.length - i ∧ ss = AS.lst 26 [(0, vc (AL.Fnv.slI a)), (1, vc (AL.Fnv.slI b)), (12, vc (i6 (List.length a : Int))), (13, vc (i6 (i : Int)))] []) ⟨0, ?_, rfl, ?_⟩ ?_
    · exact ⟨by omega, rfl⟩
    · rfl
    rintro mm ss ⟨i, ⟨hI, hE⟩, rfl, rfl⟩
    refine AMx.seq ?_
    refine AMx.region (ces := []) (ks := [0, 1, 12, 13, 14]) (hs := []) (cs := []) (s' := AS.lst 26 [(0, vc (AL.Fnv.slI a)), (1, vc (AL.Fnv.slI b)), (12, vc (i6 (List.length a : Int))), (13, vc (i6 (i : Int))), (14, vc (bo (decide ((i : Int) < (List.length a : Int)))))] []) (by kernel_rfl) ?_ ?_
    · exact trivial
    refine AMx.seq ?_
    refine AMx.cond (b := decide ((i : Int) < (List.length a : Int))) (by kernel_rfl) (fun hc2 => ?_) (fun hc2 => ?_)
    · try simp only [decide_eq_true_eq, decide_eq_false_iff_not] at hc2
      refine AMx.skip ?_
      refine AMx.seq ?_
      refine AMx.block ?_
      refine AMx.seq ?_
      refine AMx.region (ces := []) (ks := [0, 1, 5, 12, 13]) (hs := []) (cs := []) (s' := AS.lst 26 [(0, vc (AL.Fnv.slI a)), (1, vc (AL.Fnv.slI b)), (5, vc (i6 (i : Int))), (12, vc (i6 (List.length a : Int))), (13, vc (i6 (i : Int)))] []) (by kernel_rfl) ?_ ?_
      · exact trivial
      refine AMx.seq ?_
      refine AMx.region_draw (ces := []) (ros := []) (ks := [0, 1, 12, 13, 24]) (hs := []) (cs := [(0 : Int) ≤ (i : Int), (i : Int) < List.length a, (0 : Int) ≤ (i : Int), (i : Int) < List.length b]) (s' := AS.lst 26 [(0, vc (AL.Fnv.slI a)), (1, vc (AL.Fnv.slI b)), (12, vc (i6 (List.length a : Int))), (13, vc (i6 (i : Int))), (24, vc (bo (!decide ((List.getD a i 0) = (List.getD b i 0)))))] []) mixed (by kernel_rfl) ?_ ?_
      · exact ⟨(show (0 : Int) ≤ (i : Int) from (by omega)), (show (i : Int) < List.length a from (by omega)), (show (0 : Int) ≤ (i : Int) from (by omega)), (show (i : Int) < List.length b from (by omega))⟩
      refine AMx.cond (b := !decide ((List.getD a i 0) = (List.getD b i 0))) (by kernel_rfl) (fun hc3 => ?_) (fun hc3 => ?_)
      · try simp only [decide_eq_true_eq, decide_eq_false_iff_not, Bool.not_eq_true', Bool.not_eq_false'] at hc3
        refine AMx.seq ?_
        refine AMx.region (ces := []) (ks := [4]) (hs := []) (cs := []) (s' := AS.lst 26 [(4, vc (bo false))] []) (by kernel_rfl) ?_ ?_
        · exact trivial
        refine AMx.ret ?_
        exact RetP.mk (r := vc (bo false)) (by kernel_rfl) (by rw [decide_eq_false (fun h => by subst h; simp_all)])
      · try simp only [decide_eq_true_eq, decide_eq_false_iff_not, Bool.not_eq_true', Bool.not_eq_false'] at hc3
        refine AMx.skip ?_
        refine AMx.blk ?_
        refine AMx.region (ces := []) (ks := [0, 1, 12, 13]) (hs := []) (cs := [InR .i64 ((i : Int) + 1)]) (s' := AS.lst 26 [(0, vc (AL.Fnv.slI a)), (1, vc (AL.Fnv.slI b)), (12, vc (i6 (List.length a : Int))), (13, vc (i6 ((i : Int) + 1)))] []) (by kernel_rfl) ?_ ?_
        · exact (show InR .i64 ((i : Int) + 1) from (inR64 (by omega) (by omega)))
        refine AMx.ent_inv (s' := AS.lst 26 [(0, vc (AL.Fnv.slI a)), (1, vc (AL.Fnv.slI b)), (12, vc (i6 (List.length a : Int))), (13, vc (i6 ((i : Int) + 1)))] []) (ent_proj [0, 1, 12, 13] []) ?_
        refine AMx.inv ⟨_, ?_, i + 1, ?_, rfl, ?_⟩
        rotate_left
        · exact ⟨by omega, Lib.same_step 0 a b i (by omega) (by omega) hE (by assumption)⟩
        · rfl
        · omega
    · try simp only [decide_eq_true_eq, decide_eq_false_iff_not] at hc2
      refine AMx.exit ?_
      refine AMx.code_exit ?_
      refine AMx.inv_exit ?_
      refine AMx.blk_exit ?_
      refine AMx.seq ?_
      refine AMx.region (ces := []) (ks := [4]) (hs := []) (cs := []) (s' := AS.lst 26 [(4, vc (bo true))] []) (by kernel_rfl) ?_ ?_
      · exact trivial
      refine AMx.ret ?_
      exact RetP.mk (r := vc (bo true)) (by kernel_rfl) (by rw [decide_eq_true (Lib.same_end a b i (by omega) (by omega) hE)])

theorem f15_body : Tryd.f15.body = some (.seq (.region 0 (rg Tryd.f15 0) false) (.seq (.seq (.region 1 (rg Tryd.f15 1) false) (.cond (.tmp 19) (.seq (.region 2 (rg Tryd.f15 2) false) (.ret)) (.skip))) (.seq (.region 3 (rg Tryd.f15 3) false) (.seq (.region 4 (rg Tryd.f15 4) false) (.ret))))) := by kernel_rfl

set_option maxRecDepth 100000 in
set_option maxHeartbeats 8000000 in
theorem Same_c (a b : AskV) : Pure Tryd.prog 15 [TV.agg (rwA a), TV.agg (rwA b)] (vc (bo (decide (a = b)))) := by
  refine Pure.of_body Tryd.func15 f15_body (by kernel_rfl) Tryd.ntmps15 (by kernel_rfl) (by kernel_rfl) ?_
  refine AMx.seq ?_
  refine AMx.region (ces := []) (ks := [2, 3]) (hs := [2, 3]) (cs := []) (s' := AS.lst 82 [(2, vp 2 0), (3, vp 3 0)] [(2, AObj.row (rwA a)), (3, AObj.row (rwA b))]) (by kernel_rfl) ?_ ?_
  · exact trivial
  refine AMx.seq ?_
  refine AMx.seq ?_
  refine AMx.region (ces := [(4, CE.call [] [] (vc (bo (decide (a.ns = b.ns)))) []), (11, CE.call [] [] (vc (bo (decide (a.rules = b.rules)))) [])]) (ks := [2, 3, 19]) (hs := [2, 3]) (cs := [Spec Tryd.prog 25 [tc (AL.Fnv.slI a.ns), tc (AL.Fnv.slI b.ns)] (ofH []) (vc (bo (decide (a.ns = b.ns)))) (ofH []), ((!(decide (a.ns = b.ns))) = false) → allP [], ((!(decide (a.ns = b.ns))) = false) → allP [(!(decide (a.ns = b.ns))) = false], ((!(decide (a.ns = b.ns))) = false) → allP [], ((!(decide (a.ns = b.ns))) = false) → allP [(!(decide (a.ns = b.ns))) = false], ((!(decide (a.ns = b.ns))) = false) → allP [(!(decide (a.ns = b.ns))) = false, (!(decide (a.ns = b.ns))) = false, Spec Tryd.prog 26 [tc (Policy.slP a.rules), tc (Policy.slP b.rules)] (ofH []) (vc (bo (decide (a.rules = b.rules)))) (ofH [])], ((!(decide (a.ns = b.ns))) = false) → allP [(!(decide (a.ns = b.ns))) = false], (!(decide (a.ns = b.ns))) = false → allP [(!(decide (a.ns = b.ns))) = false]]) (s' := AS.lst 82 [(2, vp 2 0), (3, vp 3 0), (19, vc (bo ((!(decide (a.ns = b.ns))) || (!(decide (a.rules = b.rules))))))] [(2, AObj.row (rwA a)), (3, AObj.row (rwA b))]) (by kernel_rfl) ?_ ?_
  · exact ⟨(EqualI_c a.ns b.ns), (fun _ => trivial), (fun hp => hp), (fun _ => trivial), (fun hp => hp), (fun hp => by have hq := hp; (try simp only [decide_eq_true_eq, decide_eq_false_iff_not, Bool.and_eq_true, Bool.or_eq_true, Bool.and_eq_false_iff, Bool.or_eq_false_iff, Bool.not_eq_true', Bool.not_eq_false', Bool.not_eq_true, Bool.not_eq_false] at hq); exact ⟨hp, hp, (Policy.Same_c a.rules b.rules)⟩), (fun hp => hp), (fun hp2 => (by first | exact hp2 | exact ⟨hp, hp2⟩))⟩
  refine AMx.cond (b := ((!(decide (a.ns = b.ns))) || (!(decide (a.rules = b.rules))))) (by kernel_rfl) (fun hc1 => ?_) (fun hc1 => ?_)
  · try simp only [decide_eq_true_eq, decide_eq_false_iff_not, Bool.or_eq_true, Bool.or_eq_false_iff, Bool.not_eq_true', Bool.not_eq_false'] at hc1
    refine AMx.seq ?_
    refine AMx.region (ces := []) (ks := [4]) (hs := []) (cs := []) (s' := AS.lst 82 [(4, vc (bo false))] []) (by kernel_rfl) ?_ ?_
    · exact trivial
    refine AMx.ret ?_
    exact RetP.mk (r := vc (bo false)) (by kernel_rfl) (by rw [decide_eq_false (fun e => by subst e; simp at hc1)])
  · try simp only [decide_eq_true_eq, decide_eq_false_iff_not, Bool.or_eq_true, Bool.or_eq_false_iff, Bool.not_eq_true', Bool.not_eq_false'] at hc1
    refine AMx.skip ?_
    refine AMx.seq ?_
    refine AMx.region (ces := []) (ks := [2, 3, 5]) (hs := [2, 3]) (cs := [((decide (a.op = b.op)) = true) → allP [], ((decide (a.op = b.op)) = true) → allP [(decide (a.op = b.op)) = true], ((decide (a.op = b.op)) = true) → allP [], ((decide (a.op = b.op)) = true) → allP [(decide (a.op = b.op)) = true], ((decide (a.op = b.op)) = true) → allP [(decide (a.op = b.op)) = true, (decide (a.op = b.op)) = true], (decide (a.op = b.op)) = true → allP [(decide (a.op = b.op)) = true], (((decide (a.op = b.op)) && (decide (a.token = b.token))) = true) → allP [], (((decide (a.op = b.op)) && (decide (a.token = b.token))) = true) → allP [((decide (a.op = b.op)) && (decide (a.token = b.token))) = true], (((decide (a.op = b.op)) && (decide (a.token = b.token))) = true) → allP [], (((decide (a.op = b.op)) && (decide (a.token = b.token))) = true) → allP [((decide (a.op = b.op)) && (decide (a.token = b.token))) = true], (((decide (a.op = b.op)) && (decide (a.token = b.token))) = true) → allP [((decide (a.op = b.op)) && (decide (a.token = b.token))) = true, ((decide (a.op = b.op)) && (decide (a.token = b.token))) = true], ((decide (a.op = b.op)) && (decide (a.token = b.token))) = true → allP [((decide (a.op = b.op)) && (decide (a.token = b.token))) = true], ((((decide (a.op = b.op)) && (decide (a.token = b.token))) && (decide (a.path = b.path))) = true) → allP [], ((((decide (a.op = b.op)) && (decide (a.token = b.token))) && (decide (a.path = b.path))) = true) → allP [(((decide (a.op = b.op)) && (decide (a.token = b.token))) && (decide (a.path = b.path))) = true], ((((decide (a.op = b.op)) && (decide (a.token = b.token))) && (decide (a.path = b.path))) = true) → allP [], ((((decide (a.op = b.op)) && (decide (a.token = b.token))) && (decide (a.path = b.path))) = true) → allP [(((decide (a.op = b.op)) && (decide (a.token = b.token))) && (decide (a.path = b.path))) = true], ((((decide (a.op = b.op)) && (decide (a.token = b.token))) && (decide (a.path = b.path))) = true) → allP [(((decide (a.op = b.op)) && (decide (a.token = b.token))) && (decide (a.path = b.path))) = true, (((decide (a.op = b.op)) && (decide (a.token = b.token))) && (decide (a.path = b.path))) = true], (((decide (a.op = b.op)) && (decide (a.token = b.token))) && (decide (a.path = b.path))) = true → allP [(((decide (a.op = b.op)) && (decide (a.token = b.token))) && (decide (a.path = b.path))) = true]]) (s' := AS.lst 82 [(2, vp 2 0), (3, vp 3 0), (5, vc (bo ((((decide (a.op = b.op)) && (decide (a.token = b.token))) && (decide (a.path = b.path))) && (decide (a.other = b.other)))))] [(2, AObj.row (rwA a)), (3, AObj.row (rwA b))]) (by kernel_rfl) ?_ ?_
    · exact ⟨(fun _ => trivial), (fun hp => hp), (fun _ => trivial), (fun hp => hp), (fun hp => ⟨hp, hp⟩), (fun hp2 => (by first | exact hp2 | exact ⟨hp, hp2⟩)), (fun _ => trivial), (fun hp => hp), (fun _ => trivial), (fun hp => hp), (fun hp => ⟨hp, hp⟩), (fun hp2 => (by first | exact hp2 | exact ⟨hp, hp2⟩)), (fun _ => trivial), (fun hp => hp), (fun _ => trivial), (fun hp => hp), (fun hp => ⟨hp, hp⟩), (fun hp2 => (by first | exact hp2 | exact ⟨hp, hp2⟩))⟩
    refine AMx.seq ?_
    refine AMx.region (ces := []) (ks := [4]) (hs := []) (cs := [(((((decide (a.op = b.op)) && (decide (a.token = b.token))) && (decide (a.path = b.path))) && (decide (a.other = b.other))) = true) → allP [], (((((decide (a.op = b.op)) && (decide (a.token = b.token))) && (decide (a.path = b.path))) && (decide (a.other = b.other))) = true) → allP [((((decide (a.op = b.op)) && (decide (a.token = b.token))) && (decide (a.path = b.path))) && (decide (a.other = b.other))) = true], (((((decide (a.op = b.op)) && (decide (a.token = b.token))) && (decide (a.path = b.path))) && (decide (a.other = b.other))) = true) → allP [], (((((decide (a.op = b.op)) && (decide (a.token = b.token))) && (decide (a.path = b.path))) && (decide (a.other = b.other))) = true) → allP [((((decide (a.op = b.op)) && (decide (a.token = b.token))) && (decide (a.path = b.path))) && (decide (a.other = b.other))) = true], (((((decide (a.op = b.op)) && (decide (a.token = b.token))) && (decide (a.path = b.path))) && (decide (a.other = b.other))) = true) → allP [((((decide (a.op = b.op)) && (decide (a.token = b.token))) && (decide (a.path = b.path))) && (decide (a.other = b.other))) = true, ((((decide (a.op = b.op)) && (decide (a.token = b.token))) && (decide (a.path = b.path))) && (decide (a.other = b.other))) = true], ((((decide (a.op = b.op)) && (decide (a.token = b.token))) && (decide (a.path = b.path))) && (decide (a.other = b.other))) = true → allP [((((decide (a.op = b.op)) && (decide (a.token = b.token))) && (decide (a.path = b.path))) && (decide (a.other = b.other))) = true], ((((((decide (a.op = b.op)) && (decide (a.token = b.token))) && (decide (a.path = b.path))) && (decide (a.other = b.other))) && (decide (a.n = b.n))) = true) → allP [], ((((((decide (a.op = b.op)) && (decide (a.token = b.token))) && (decide (a.path = b.path))) && (decide (a.other = b.other))) && (decide (a.n = b.n))) = true) → allP [(((((decide (a.op = b.op)) && (decide (a.token = b.token))) && (decide (a.path = b.path))) && (decide (a.other = b.other))) && (decide (a.n = b.n))) = true], ((((((decide (a.op = b.op)) && (decide (a.token = b.token))) && (decide (a.path = b.path))) && (decide (a.other = b.other))) && (decide (a.n = b.n))) = true) → allP [], ((((((decide (a.op = b.op)) && (decide (a.token = b.token))) && (decide (a.path = b.path))) && (decide (a.other = b.other))) && (decide (a.n = b.n))) = true) → allP [(((((decide (a.op = b.op)) && (decide (a.token = b.token))) && (decide (a.path = b.path))) && (decide (a.other = b.other))) && (decide (a.n = b.n))) = true], ((((((decide (a.op = b.op)) && (decide (a.token = b.token))) && (decide (a.path = b.path))) && (decide (a.other = b.other))) && (decide (a.n = b.n))) = true) → allP [(((((decide (a.op = b.op)) && (decide (a.token = b.token))) && (decide (a.path = b.path))) && (decide (a.other = b.other))) && (decide (a.n = b.n))) = true, (((((decide (a.op = b.op)) && (decide (a.token = b.token))) && (decide (a.path = b.path))) && (decide (a.other = b.other))) && (decide (a.n = b.n))) = true], (((((decide (a.op = b.op)) && (decide (a.token = b.token))) && (decide (a.path = b.path))) && (decide (a.other = b.other))) && (decide (a.n = b.n))) = true → allP [(((((decide (a.op = b.op)) && (decide (a.token = b.token))) && (decide (a.path = b.path))) && (decide (a.other = b.other))) && (decide (a.n = b.n))) = true], (((((((decide (a.op = b.op)) && (decide (a.token = b.token))) && (decide (a.path = b.path))) && (decide (a.other = b.other))) && (decide (a.n = b.n))) && (decide (a.cas = b.cas))) = true) → allP [], (((((((decide (a.op = b.op)) && (decide (a.token = b.token))) && (decide (a.path = b.path))) && (decide (a.other = b.other))) && (decide (a.n = b.n))) && (decide (a.cas = b.cas))) = true) → allP [((((((decide (a.op = b.op)) && (decide (a.token = b.token))) && (decide (a.path = b.path))) && (decide (a.other = b.other))) && (decide (a.n = b.n))) && (decide (a.cas = b.cas))) = true], (((((((decide (a.op = b.op)) && (decide (a.token = b.token))) && (decide (a.path = b.path))) && (decide (a.other = b.other))) && (decide (a.n = b.n))) && (decide (a.cas = b.cas))) = true) → allP [], (((((((decide (a.op = b.op)) && (decide (a.token = b.token))) && (decide (a.path = b.path))) && (decide (a.other = b.other))) && (decide (a.n = b.n))) && (decide (a.cas = b.cas))) = true) → allP [((((((decide (a.op = b.op)) && (decide (a.token = b.token))) && (decide (a.path = b.path))) && (decide (a.other = b.other))) && (decide (a.n = b.n))) && (decide (a.cas = b.cas))) = true], (((((((decide (a.op = b.op)) && (decide (a.token = b.token))) && (decide (a.path = b.path))) && (decide (a.other = b.other))) && (decide (a.n = b.n))) && (decide (a.cas = b.cas))) = true) → allP [((((((decide (a.op = b.op)) && (decide (a.token = b.token))) && (decide (a.path = b.path))) && (decide (a.other = b.other))) && (decide (a.n = b.n))) && (decide (a.cas = b.cas))) = true, ((((((decide (a.op = b.op)) && (decide (a.token = b.token))) && (decide (a.path = b.path))) && (decide (a.other = b.other))) && (decide (a.n = b.n))) && (decide (a.cas = b.cas))) = true], ((((((decide (a.op = b.op)) && (decide (a.token = b.token))) && (decide (a.path = b.path))) && (decide (a.other = b.other))) && (decide (a.n = b.n))) && (decide (a.cas = b.cas))) = true → allP [((((((decide (a.op = b.op)) && (decide (a.token = b.token))) && (decide (a.path = b.path))) && (decide (a.other = b.other))) && (decide (a.n = b.n))) && (decide (a.cas = b.cas))) = true], ((((((((decide (a.op = b.op)) && (decide (a.token = b.token))) && (decide (a.path = b.path))) && (decide (a.other = b.other))) && (decide (a.n = b.n))) && (decide (a.cas = b.cas))) && (a.flag == b.flag)) = true) → allP [], ((((((((decide (a.op = b.op)) && (decide (a.token = b.token))) && (decide (a.path = b.path))) && (decide (a.other = b.other))) && (decide (a.n = b.n))) && (decide (a.cas = b.cas))) && (a.flag == b.flag)) = true) → allP [(((((((decide (a.op = b.op)) && (decide (a.token = b.token))) && (decide (a.path = b.path))) && (decide (a.other = b.other))) && (decide (a.n = b.n))) && (decide (a.cas = b.cas))) && (a.flag == b.flag)) = true], ((((((((decide (a.op = b.op)) && (decide (a.token = b.token))) && (decide (a.path = b.path))) && (decide (a.other = b.other))) && (decide (a.n = b.n))) && (decide (a.cas = b.cas))) && (a.flag == b.flag)) = true) → allP [], ((((((((decide (a.op = b.op)) && (decide (a.token = b.token))) && (decide (a.path = b.path))) && (decide (a.other = b.other))) && (decide (a.n = b.n))) && (decide (a.cas = b.cas))) && (a.flag == b.flag)) = true) → allP [(((((((decide (a.op = b.op)) && (decide (a.token = b.token))) && (decide (a.path = b.path))) && (decide (a.other = b.other))) && (decide (a.n = b.n))) && (decide (a.cas = b.cas))) && (a.flag == b.flag)) = true], ((((((((decide (a.op = b.op)) && (decide (a.token = b.token))) && (decide (a.path = b.path))) && (decide (a.other = b.other))) && (decide (a.n = b.n))) && (decide (a.cas = b.cas))) && (a.flag == b.flag)) = true) → allP [(((((((decide (a.op = b.op)) && (decide (a.token = b.token))) && (decide (a.path = b.path))) && (decide (a.other = b.other))) && (decide (a.n = b.n))) && (decide (a.cas = b.cas))) && (a.flag == b.flag)) = true, (((((((decide (a.op = b.op)) && (decide (a.token = b.token))) && (decide (a.path = b.path))) && (decide (a.other = b.other))) && (decide (a.n = b.n))) && (decide (a.cas = b.cas))) && (a.flag == b.flag)) = true], (((((((decide (a.op = b.op)) && (decide (a.token = b.token))) && (decide (a.path = b.path))) && (decide (a.other = b.other))) && (decide (a.n = b.n))) && (decide (a.cas = b.cas))) && (a.flag == b.flag)) = true → allP [(((((((decide (a.op = b.op)) && (decide (a.token = b.token))) && (decide (a.path = b.path))) && (decide (a.other = b.other))) && (decide (a.n = b.n))) && (decide (a.cas = b.cas))) && (a.flag == b.flag)) = true], (((((((((decide (a.op = b.op)) && (decide (a.token = b.token))) && (decide (a.path = b.path))) && (decide (a.other = b.other))) && (decide (a.n = b.n))) && (decide (a.cas = b.cas))) && (a.flag == b.flag)) && (decide (a.data = b.data))) = true) → allP [], (((((((((decide (a.op = b.op)) && (decide (a.token = b.token))) && (decide (a.path = b.path))) && (decide (a.other = b.other))) && (decide (a.n = b.n))) && (decide (a.cas = b.cas))) && (a.flag == b.flag)) && (decide (a.data = b.data))) = true) → allP [((((((((decide (a.op = b.op)) && (decide (a.token = b.token))) && (decide (a.path = b.path))) && (decide (a.other = b.other))) && (decide (a.n = b.n))) && (decide (a.cas = b.cas))) && (a.flag == b.flag)) && (decide (a.data = b.data))) = true], (((((((((decide (a.op = b.op)) && (decide (a.token = b.token))) && (decide (a.path = b.path))) && (decide (a.other = b.other))) && (decide (a.n = b.n))) && (decide (a.cas = b.cas))) && (a.flag == b.flag)) && (decide (a.data = b.data))) = true) → allP [], (((((((((decide (a.op = b.op)) && (decide (a.token = b.token))) && (decide (a.path = b.path))) && (decide (a.other = b.other))) && (decide (a.n = b.n))) && (decide (a.cas = b.cas))) && (a.flag == b.flag)) && (decide (a.data = b.data))) = true) → allP [((((((((decide (a.op = b.op)) && (decide (a.token = b.token))) && (decide (a.path = b.path))) && (decide (a.other = b.other))) && (decide (a.n = b.n))) && (decide (a.cas = b.cas))) && (a.flag == b.flag)) && (decide (a.data = b.data))) = true], (((((((((decide (a.op = b.op)) && (decide (a.token = b.token))) && (decide (a.path = b.path))) && (decide (a.other = b.other))) && (decide (a.n = b.n))) && (decide (a.cas = b.cas))) && (a.flag == b.flag)) && (decide (a.data = b.data))) = true) → allP [((((((((decide (a.op = b.op)) && (decide (a.token = b.token))) && (decide (a.path = b.path))) && (decide (a.other = b.other))) && (decide (a.n = b.n))) && (decide (a.cas = b.cas))) && (a.flag == b.flag)) && (decide (a.data = b.data))) = true, ((((((((decide (a.op = b.op)) && (decide (a.token = b.token))) && (decide (a.path = b.path))) && (decide (a.other = b.other))) && (decide (a.n = b.n))) && (decide (a.cas = b.cas))) && (a.flag == b.flag)) && (decide (a.data = b.data))) = true], ((((((((decide (a.op = b.op)) && (decide (a.token = b.token))) && (decide (a.path = b.path))) && (decide (a.other = b.other))) && (decide (a.n = b.n))) && (decide (a.cas = b.cas))) && (a.flag == b.flag)) && (decide (a.data = b.data))) = true → allP [((((((((decide (a.op = b.op)) && (decide (a.token = b.token))) && (decide (a.path = b.path))) && (decide (a.other = b.other))) && (decide (a.n = b.n))) && (decide (a.cas = b.cas))) && (a.flag == b.flag)) && (decide (a.data = b.data))) = true]]) (s' := AS.lst 82 [(4, vc (bo (((((((((decide (a.op = b.op)) && (decide (a.token = b.token))) && (decide (a.path = b.path))) && (decide (a.other = b.other))) && (decide (a.n = b.n))) && (decide (a.cas = b.cas))) && (a.flag == b.flag)) && (decide (a.data = b.data))) && (decide (a.key = b.key)))))] []) (by kernel_rfl) ?_ ?_
    · exact ⟨(fun _ => trivial), (fun hp => hp), (fun _ => trivial), (fun hp => hp), (fun hp => ⟨hp, hp⟩), (fun hp2 => (by first | exact hp2 | exact ⟨hp, hp2⟩)), (fun _ => trivial), (fun hp => hp), (fun _ => trivial), (fun hp => hp), (fun hp => ⟨hp, hp⟩), (fun hp2 => (by first | exact hp2 | exact ⟨hp, hp2⟩)), (fun _ => trivial), (fun hp => hp), (fun _ => trivial), (fun hp => hp), (fun hp => ⟨hp, hp⟩), (fun hp2 => (by first | exact hp2 | exact ⟨hp, hp2⟩)), (fun _ => trivial), (fun hp => hp), (fun _ => trivial), (fun hp => hp), (fun hp => ⟨hp, hp⟩), (fun hp2 => (by first | exact hp2 | exact ⟨hp, hp2⟩)), (fun _ => trivial), (fun hp => hp), (fun _ => trivial), (fun hp => hp), (fun hp => ⟨hp, hp⟩), (fun hp2 => (by first | exact hp2 | exact ⟨hp, hp2⟩))⟩
    refine AMx.ret ?_
    exact RetP.mk (r := vc (bo (((((((((decide (a.op = b.op)) && (decide (a.token = b.token))) && (decide (a.path = b.path))) && (decide (a.other = b.other))) && (decide (a.n = b.n))) && (decide (a.cas = b.cas))) && (a.flag == b.flag)) && (decide (a.data = b.data))) && (decide (a.key = b.key))))) (by kernel_rfl) (by rw [same_eq (by simp_all)])

end AL.Ask
