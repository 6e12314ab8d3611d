/- policy: the contracts of its functions, by their walks. No condition. -/
import Derived.Test.YtkpgnlcjolmdlaaDoorPolicyB
import Derived.Test.YtkpgnlcjolmdlaaDoorPolicyW
namespace AL.Policy
open Go Go.Proofs AL AL.Rune
set_option linter.unusedVariables false
set_option linter.unusedSimpArgs false

theorem f19_body : Tryd.f19.body = some (.seq (.region 0 (rg Tryd.f19 0) false) (.seq (.seq (.region 1 (rg Tryd.f19 1) false) (.seq (.region 2 (rg Tryd.f19 2) false) (.cond (.tmp 11) (.seq (.region 3 (rg Tryd.f19 3) false) (.ret)) (.skip)))) (.seq (.region 4 (rg Tryd.f19 4) false) (.seq (.seq (.region 5 (rg Tryd.f19 5) false) (.block 0 (.loop (.seq (.region 6 (rg Tryd.f19 6) false) (.seq (.cond (.tmp 19) (.skip) (.exit 0)) (.seq (.block 1 (.seq (.region 7 (rg Tryd.f19 7) false) (.region 8 (rg Tryd.f19 8) true))) (.region 9 (rg Tryd.f19 9) false))))))) (.seq (.region 10 (rg Tryd.f19 10) false) (.ret)))))) := by kernel_rfl

set_option maxRecDepth 100000 in
set_option maxHeartbeats 8000000 in
theorem Text_c (l : List RuleV) : Pure Tryd.prog 19 [tc (slP l)] (AV.tup [tc (st ((textP l).1)), tc (i6 ((textP l).2))]) := by
  refine Pure.of_body Tryd.func19 f19_body (by kernel_rfl) Tryd.ntmps19 (by kernel_rfl) (by kernel_rfl) ?_
  refine AMx.sl 0 (l := l) rfl (fun hl => ?_)
  simp only [maxLen] at hl
  refine AMx.seq ?_
  refine AMx.region (ces := []) (ks := [0]) (hs := []) (cs := []) (s' := AS.lst 36 [(0, vc (slP l))] []) (by kernel_rfl) ?_ ?_
  · exact trivial
  refine AMx.seq ?_
  refine AMx.seq ?_
  refine AMx.region (ces := [(1, CE.call [] [] (vc (i6 (checkP l))) [])]) (ks := [0, 4]) (hs := []) (cs := [Spec Tryd.prog 11 [tc (slP l)] (ofH []) (vc (i6 (checkP l))) (ofH [])]) (s' := AS.lst 36 [(0, vc (slP l)), (4, vc (i6 (checkP l)))] []) (by kernel_rfl) ?_ ?_
  · exact (Check_c l)
  refine AMx.seq ?_
  refine AMx.region (ces := []) (ks := [0, 4, 11]) (hs := []) (cs := []) (s' := AS.lst 36 [(0, vc (slP l)), (4, vc (i6 (checkP l))), (11, vc (bo (!decide (checkP l = 0))))] []) (by kernel_rfl) ?_ ?_
  · exact trivial
  refine AMx.cond (b := !decide (checkP l = 0)) (by kernel_rfl) (fun hc1 => ?_) (fun hc1 => ?_)
  · try simp only [decide_eq_true_eq, decide_eq_false_iff_not, Bool.not_eq_true', Bool.not_eq_false'] at hc1
    refine AMx.seq ?_
    refine AMx.region (ces := []) (ks := [2, 3]) (hs := []) (cs := []) (s' := AS.lst 36 [(2, vc (st [])), (3, vc (i6 (checkP l)))] []) (by kernel_rfl) ?_ ?_
    · exact trivial
    refine AMx.ret ?_
    exact RetP.mk (r := AV.tup [tc (st []), tc (i6 (checkP l))]) (by kernel_rfl) (by rw [show textP l = ([], checkP l) from by first | rw [text_no (by assumption)] | (rw [text_ok (by assumption)]; rfl)])
  · try simp only [decide_eq_true_eq, decide_eq_false_iff_not, Bool.not_eq_true', Bool.not_eq_false'] at hc1
    refine AMx.skip ?_
    refine AMx.seq ?_
    refine AMx.region (ces := [(2, CE.obj (AObj.grow 9 1 Bytes [] AL.Fnv.rowS (List.replicate (List.length l) [])))]) (ks := [0, 5]) (hs := [15]) (cs := [0 ≤ (List.length l : Int), (List.length l : Int) ≤ (List.length l : Int), (16 : Int) * (List.length l : Int) ≤ 281474976710656, (List.length l : Int) ≤ 9223372036854775807, MakeC (List.length l) [.s (st [])] (AObj.grow 9 1 Bytes [] AL.Fnv.rowS (List.replicate (List.length l) []))]) (s' := AS.lst 36 [(0, vc (slP l)), (5, vo 15)] [(15, AObj.grow 9 1 Bytes [] AL.Fnv.rowS (List.replicate (List.length l) []))]) (by kernel_rfl) ?_ ?_
    · exact ⟨(show 0 ≤ (List.length l : Int) from (by first | omega | (have q1 := check_len (l := l) (by assumption); first | omega | ((try simp only [List.length_append, List.length_cons, List.length_nil, List.length_replicate, List.length_map, List.length_take, List.length_drop, pref_len, ruled_len]); omega)) | (have q4 := text_small (l := l) (by assumption); omega) | (have q1 := check_len (l := l) (by assumption); have q2 := ok_at (l := l) (k := k) (by assumption) (by omega); have q3 := layS_len (List.getD l k ([], 0)).2; (try simp only [List.length_append, List.length_cons, List.length_nil, List.length_replicate, List.length_map, List.length_take, List.length_drop, pref_len, ruled_len]); omega))), (show (List.length l : Int) ≤ (List.length l : Int) from (by first | omega | (have q1 := check_len (l := l) (by assumption); first | omega | ((try simp only [List.length_append, List.length_cons, List.length_nil, List.length_replicate, List.length_map, List.length_take, List.length_drop, pref_len, ruled_len]); omega)) | (have q4 := text_small (l := l) (by assumption); omega) | (have q1 := check_len (l := l) (by assumption); have q2 := ok_at (l := l) (k := k) (by assumption) (by omega); have q3 := layS_len (List.getD l k ([], 0)).2; (try simp only [List.length_append, List.length_cons, List.length_nil, List.length_replicate, List.length_map, List.length_take, List.length_drop, pref_len, ruled_len]); omega))), (show (16 : Int) * (List.length l : Int) ≤ 281474976710656 from (by first | omega | (have q1 := check_len (l := l) (by assumption); first | omega | ((try simp only [List.length_append, List.length_cons, List.length_nil, List.length_replicate, List.length_map, List.length_take, List.length_drop, pref_len, ruled_len]); omega)) | (have q4 := text_small (l := l) (by assumption); omega) | (have q1 := check_len (l := l) (by assumption); have q2 := ok_at (l := l) (k := k) (by assumption) (by omega); have q3 := layS_len (List.getD l k ([], 0)).2; (try simp only [List.length_append, List.length_cons, List.length_nil, List.length_replicate, List.length_map, List.length_take, List.length_drop, pref_len, ruled_len]); omega))), (show (List.length l : Int) ≤ 9223372036854775807 from (by first | omega | (have q1 := check_len (l := l) (by assumption); first | omega | ((try simp only [List.length_append, List.length_cons, List.length_nil, List.length_replicate, List.length_map, List.length_take, List.length_drop, pref_len, ruled_len]); omega)) | (have q4 := text_small (l := l) (by assumption); omega) | (have q1 := check_len (l := l) (by assumption); have q2 := ok_at (l := l) (k := k) (by assumption) (by omega); have q3 := layS_len (List.getD l k ([], 0)).2; (try simp only [List.length_append, List.length_cons, List.length_nil, List.length_replicate, List.length_map, List.length_take, List.length_drop, pref_len, ruled_len]); omega))), (⟨_, rfl, rfl⟩)⟩
    refine AMx.seq ?_
    refine AMx.seq ?_
    refine AMx.region (ces := []) (ks := [5, 16, 17, 18]) (hs := [15]) (cs := []) (s' := AS.lst 36 [(5, vo 15), (16, vc (slP l)), (17, vc (i6 (List.length l : Int))), (18, vc (i6 0))] [(15, AObj.grow 9 1 Bytes [] AL.Fnv.rowS (List.replicate (List.length l) []))]) (by kernel_rfl) ?_ ?_
    · exact trivial
    refine AMx.block ?_
    refine AMx.ent (s' := AS.lst 36 [(5, vo 15), (16, vc (slP l)), (17, vc (i6 (List.length l : Int))), (18, vc (i6 0))] [(15, AObj.grow 9 1 Bytes [] AL.Fnv.rowS (List.replicate (List.length l) []))]) (ent_proj [5, 16, 17, 18] [15]) ?_
    refine AMx.loop (fun mm ss => ∃ (k : Nat), (k ≤ l.length) ∧ mm = l.length - k ∧ ss = AS.lst 36 [(5, vo 15), (16, vc (slP l)), (17, vc (i6 (List.length l : Int))), (18, vc (i6 (k : Int)))] [(15, AObj.grow 9 1 Bytes [] AL.Fnv.rowS ((List.take k l).map pieceS ++ List.replicate (l.length - k) []))]) ⟨0, ?_, rfl, ?_⟩ ?_
    · omega
    · rfl
    rintro mm ss ⟨k, hI, rfl, rfl⟩
    refine AMx.seq ?_
    refine AMx.region (ces := []) (ks := [5, 16, 17, 18, 19]) (hs := [15]) (cs := []) (s' := AS.lst 36 [(5, vo 15), (16, vc (slP l)), (17, vc (i6 (List.length l : Int))), (18, vc (i6 (k : Int))), (19, vc (bo (decide ((k : Int) < (List.length l : Int)))))] [(15, AObj.grow 9 1 Bytes [] AL.Fnv.rowS ((List.take k l).map pieceS ++ List.replicate (l.length - k) []))]) (by kernel_rfl) ?_ ?_
    · exact trivial
    refine AMx.seq ?_
    refine AMx.cond (b := decide ((k : Int) < (List.length l : Int))) (by kernel_rfl) (fun hc2 => ?_) (fun hc2 => ?_)
    · try simp only [decide_eq_true_eq, decide_eq_false_iff_not] at hc2
      refine AMx.skip ?_
      refine AMx.seq ?_
      refine AMx.block ?_
      refine AMx.seq ?_
      refine AMx.region (ces := []) (ks := [5, 6, 7, 16, 17, 18]) (hs := [7, 15]) (cs := [(0 : Int) ≤ (k : Int), (k : Int) < List.length l]) (s' := AS.lst 36 [(5, vo 15), (6, vc (i6 (k : Int))), (7, vp 7 0), (16, vc (slP l)), (17, vc (i6 (List.length l : Int))), (18, vc (i6 (k : Int)))] [(7, AObj.row [.s (st ((List.getD l k ([], 0)).1)), .s (u8 ((List.getD l k ([], 0)).2))]), (15, AObj.grow 9 1 Bytes [] AL.Fnv.rowS ((List.take k l).map pieceS ++ List.replicate (l.length - k) []))]) (by kernel_rfl) ?_ ?_
      · exact ⟨(show (0 : Int) ≤ (k : Int) from (by first | omega | (have q1 := check_len (l := l) (by assumption); first | omega | ((try simp only [List.length_append, List.length_cons, List.length_nil, List.length_replicate, List.length_map, List.length_take, List.length_drop, pref_len, ruled_len]); omega)) | (have q4 := text_small (l := l) (by assumption); omega) | (have q1 := check_len (l := l) (by assumption); have q2 := ok_at (l := l) (k := k) (by assumption) (by omega); have q3 := layS_len (List.getD l k ([], 0)).2; (try simp only [List.length_append, List.length_cons, List.length_nil, List.length_replicate, List.length_map, List.length_take, List.length_drop, pref_len, ruled_len]); omega))), (show (k : Int) < List.length l from (by first | omega | (have q1 := check_len (l := l) (by assumption); first | omega | ((try simp only [List.length_append, List.length_cons, List.length_nil, List.length_replicate, List.length_map, List.length_take, List.length_drop, pref_len, ruled_len]); omega)) | (have q4 := text_small (l := l) (by assumption); omega) | (have q1 := check_len (l := l) (by assumption); have q2 := ok_at (l := l) (k := k) (by assumption) (by omega); have q3 := layS_len (List.getD l k ([], 0)).2; (try simp only [List.length_append, List.length_cons, List.length_nil, List.length_replicate, List.length_map, List.length_take, List.length_drop, pref_len, ruled_len]); omega)))⟩
      refine AMx.region_draw (ces := [(7, CE.call [] [] (vc (st (layS ((List.getD l k ([], 0)).2)))) []), (10, CE.obj (AObj.grow 9 1 Bytes [] AL.Fnv.rowS (List.set ((List.take k l).map pieceS ++ List.replicate (l.length - k) []) k ((((List.getD l k ([], 0)).1) ++ [58]) ++ (layS ((List.getD l k ([], 0)).2))))))]) (ros := [(3, [7]), (6, [7]), (9, [15]), (10, [15])]) (ks := [5, 16, 17, 18]) (hs := [15]) (cs := [List.length ((List.getD l k ([], 0)).1 : List UInt8) + List.length ([58] : List UInt8) ≤ maxLen, Spec Tryd.prog 32 [tc (u8 ((List.getD l k ([], 0)).2))] (ofH []) (vc (st (layS ((List.getD l k ([], 0)).2)))) (ofH []), List.length (((List.getD l k ([], 0)).1) ++ [58] : List UInt8) + List.length (layS ((List.getD l k ([], 0)).2) : List UInt8) ≤ maxLen, (0 : Int) ≤ (k : Int), (k : Int) < List.length ((List.take k l).map pieceS ++ List.replicate (l.length - k) [] : List Bytes), StoreC k 0 [.s (st ((((List.getD l k ([], 0)).1) ++ [58]) ++ (layS ((List.getD l k ([], 0)).2))))] (AObj.grow 9 1 Bytes [] AL.Fnv.rowS ((List.take k l).map pieceS ++ List.replicate (l.length - k) [])) (AObj.grow 9 1 Bytes [] AL.Fnv.rowS (List.set ((List.take k l).map pieceS ++ List.replicate (l.length - k) []) k ((((List.getD l k ([], 0)).1) ++ [58]) ++ (layS ((List.getD l k ([], 0)).2)))))]) (s' := AS.lst 36 [(5, vo 15), (16, vc (slP l)), (17, vc (i6 (List.length l : Int))), (18, vc (i6 (k : Int)))] [(15, AObj.grow 9 1 Bytes [] AL.Fnv.rowS (List.set ((List.take k l).map pieceS ++ List.replicate (l.length - k) []) k ((((List.getD l k ([], 0)).1) ++ [58]) ++ (layS ((List.getD l k ([], 0)).2)))))]) mixed (by kernel_rfl) ?_ ?_
      · exact ⟨(show List.length ((List.getD l k ([], 0)).1 : List UInt8) + List.length ([58] : List UInt8) ≤ maxLen from (by simp only [List.length_append, List.length_cons, List.length_nil, maxLen]; first | omega | (first | omega | (have q1 := check_len (l := l) (by assumption); first | omega | ((try simp only [List.length_append, List.length_cons, List.length_nil, List.length_replicate, List.length_map, List.length_take, List.length_drop, pref_len, ruled_len]); omega)) | (have q4 := text_small (l := l) (by assumption); omega) | (have q1 := check_len (l := l) (by assumption); have q2 := ok_at (l := l) (k := k) (by assumption) (by omega); have q3 := layS_len (List.getD l k ([], 0)).2; (try simp only [List.length_append, List.length_cons, List.length_nil, List.length_replicate, List.length_map, List.length_take, List.length_drop, pref_len, ruled_len]); omega)))), (lay_c ((List.getD l k ([], 0)).2)), (show List.length (((List.getD l k ([], 0)).1) ++ [58] : List UInt8) + List.length (layS ((List.getD l k ([], 0)).2) : List UInt8) ≤ maxLen from (by simp only [List.length_append, List.length_cons, List.length_nil, maxLen]; first | omega | (first | omega | (have q1 := check_len (l := l) (by assumption); first | omega | ((try simp only [List.length_append, List.length_cons, List.length_nil, List.length_replicate, List.length_map, List.length_take, List.length_drop, pref_len, ruled_len]); omega)) | (have q4 := text_small (l := l) (by assumption); omega) | (have q1 := check_len (l := l) (by assumption); have q2 := ok_at (l := l) (k := k) (by assumption) (by omega); have q3 := layS_len (List.getD l k ([], 0)).2; (try simp only [List.length_append, List.length_cons, List.length_nil, List.length_replicate, List.length_map, List.length_take, List.length_drop, pref_len, ruled_len]); omega)))), (show (0 : Int) ≤ (k : Int) from (by first | omega | (have q1 := check_len (l := l) (by assumption); first | omega | ((try simp only [List.length_append, List.length_cons, List.length_nil, List.length_replicate, List.length_map, List.length_take, List.length_drop, pref_len, ruled_len]); omega)) | (have q4 := text_small (l := l) (by assumption); omega) | (have q1 := check_len (l := l) (by assumption); have q2 := ok_at (l := l) (k := k) (by assumption) (by omega); have q3 := layS_len (List.getD l k ([], 0)).2; (try simp only [List.length_append, List.length_cons, List.length_nil, List.length_replicate, List.length_map, List.length_take, List.length_drop, pref_len, ruled_len]); omega))), (show (k : Int) < List.length ((List.take k l).map pieceS ++ List.replicate (l.length - k) [] : List Bytes) from (by first | omega | (have q1 := check_len (l := l) (by assumption); first | omega | ((try simp only [List.length_append, List.length_cons, List.length_nil, List.length_replicate, List.length_map, List.length_take, List.length_drop, pref_len, ruled_len]); omega)) | (have q4 := text_small (l := l) (by assumption); omega) | (have q1 := check_len (l := l) (by assumption); have q2 := ok_at (l := l) (k := k) (by assumption) (by omega); have q3 := layS_len (List.getD l k ([], 0)).2; (try simp only [List.length_append, List.length_cons, List.length_nil, List.length_replicate, List.length_map, List.length_take, List.length_drop, pref_len, ruled_len]); omega))), (⟨(((List.getD l k ([], 0)).1) ++ [58]) ++ (layS ((List.getD l k ([], 0)).2)), rfl, by first | omega | (have q1 := check_len (l := l) (by assumption); first | omega | ((try simp only [List.length_append, List.length_cons, List.length_nil, List.length_replicate, List.length_map, List.length_take, List.length_drop, pref_len, ruled_len]); omega)) | (have q4 := text_small (l := l) (by assumption); omega) | (have q1 := check_len (l := l) (by assumption); have q2 := ok_at (l := l) (k := k) (by assumption) (by omega); have q3 := layS_len (List.getD l k ([], 0)).2; (try simp only [List.length_append, List.length_cons, List.length_nil, List.length_replicate, List.length_map, List.length_take, List.length_drop, pref_len, ruled_len]); omega), rfl⟩)⟩
      refine AMx.blk ?_
      refine AMx.region (ces := []) (ks := [5, 16, 17, 18]) (hs := [15]) (cs := [InR .i64 ((k : Int) + 1)]) (s' := AS.lst 36 [(5, vo 15), (16, vc (slP l)), (17, vc (i6 (List.length l : Int))), (18, vc (i6 ((k : Int) + 1)))] [(15, AObj.grow 9 1 Bytes [] AL.Fnv.rowS (List.set ((List.take k l).map pieceS ++ List.replicate (l.length - k) []) k ((((List.getD l k ([], 0)).1) ++ [58]) ++ (layS ((List.getD l k ([], 0)).2)))))]) (by kernel_rfl) ?_ ?_
      · exact (show InR .i64 ((k : Int) + 1) from (inR64 (by first | omega | (have q1 := check_len (l := l) (by assumption); first | omega | ((try simp only [List.length_append, List.length_cons, List.length_nil, List.length_replicate, List.length_map, List.length_take, List.length_drop, pref_len, ruled_len]); omega)) | (have q4 := text_small (l := l) (by assumption); omega) | (have q1 := check_len (l := l) (by assumption); have q2 := ok_at (l := l) (k := k) (by assumption) (by omega); have q3 := layS_len (List.getD l k ([], 0)).2; (try simp only [List.length_append, List.length_cons, List.length_nil, List.length_replicate, List.length_map, List.length_take, List.length_drop, pref_len, ruled_len]); omega)) (by first | omega | (have q1 := check_len (l := l) (by assumption); first | omega | ((try simp only [List.length_append, List.length_cons, List.length_nil, List.length_replicate, List.length_map, List.length_take, List.length_drop, pref_len, ruled_len]); omega)) | (have q4 := text_small (l := l) (by assumption); omega) | (have q1 := check_len (l := l) (by assumption); have q2 := ok_at (l := l) (k := k) (by assumption) (by omega); have q3 := layS_len (List.getD l k ([], 0)).2; (try simp only [List.length_append, List.length_cons, List.length_nil, List.length_replicate, List.length_map, List.length_take, List.length_drop, pref_len, ruled_len]); omega))))
      refine AMx.ent_inv (s' := AS.lst 36 [(5, vo 15), (16, vc (slP l)), (17, vc (i6 (List.length l : Int))), (18, vc (i6 ((k : Int) + 1)))] [(15, AObj.grow 9 1 Bytes [] AL.Fnv.rowS (List.set ((List.take k l).map pieceS ++ List.replicate (l.length - k) []) k ((((List.getD l k ([], 0)).1) ++ [58]) ++ (layS ((List.getD l k ([], 0)).2)))))]) (ent_proj [5, 16, 17, 18] [15]) ?_
      refine AMx.inv ⟨_, ?_, k + 1, ?_, rfl, ?_⟩
      rotate_left
      · omega
      · rw [← piece_step l k (by omega)]; rfl
      · omega
    · try simp only [decide_eq_true_eq, decide_eq_false_iff_not] at hc2
      refine AMx.exit ?_
      refine AMx.code_exit ?_
      refine AMx.inv_exit ?_
      refine AMx.blk_exit ?_
      rw [show (List.take k l).map pieceS ++ List.replicate (l.length - k) [] = l.map pieceS from piece_end l k (by omega)]
      refine AMx.seq ?_
      refine AMx.region (ces := [(1, CE.call [15] [] (vc (st (AL.Sep.joinC 44 (l.map pieceS)))) [])]) (ks := [2, 3]) (hs := []) (cs := [Spec Tryd.prog 33 [tc (AL.Fnv.slS (l.map pieceS)), tc (st [44])] (ofH []) (vc (st (AL.Sep.joinC 44 (l.map pieceS)))) (ofH [])]) (s' := AS.lst 36 [(2, vc (st (AL.Sep.joinC 44 (l.map pieceS)))), (3, vc (i6 0))] []) (by kernel_rfl) ?_ ?_
      · exact (AL.Sep.Join_c 44 (l.map pieceS) (by first | omega | (have q1 := check_len (l := l) (by assumption); first | omega | ((try simp only [List.length_append, List.length_cons, List.length_nil, List.length_replicate, List.length_map, List.length_take, List.length_drop, pref_len, ruled_len]); omega)) | (have q4 := text_small (l := l) (by assumption); omega) | (have q1 := check_len (l := l) (by assumption); have q2 := ok_at (l := l) (k := k) (by assumption) (by omega); have q3 := layS_len (List.getD l k ([], 0)).2; (try simp only [List.length_append, List.length_cons, List.length_nil, List.length_replicate, List.length_map, List.length_take, List.length_drop, pref_len, ruled_len]); omega)))
      refine AMx.ret ?_
      exact RetP.mk (r := AV.tup [tc (st (AL.Sep.joinC 44 (l.map pieceS))), tc (i6 0)]) (by kernel_rfl) (by rw [show textP l = (AL.Sep.joinC 44 (l.map pieceS), 0) from by first | rw [text_no (by assumption)] | (rw [text_ok (by assumption)]; rfl)])

theorem f34_body : Tryd.f34.body = some (.seq (.region 0 (rg Tryd.f34 0) false) (.seq (.region 1 (rg Tryd.f34 1) false) (.seq (.region 2 (rg Tryd.f34 2) false) (.seq (.seq (.region 3 (rg Tryd.f34 3) false) (.block 0 (.loop (.seq (.seq (.region 4 (rg Tryd.f34 4) false) (.cond (.tmp 12) (.skip) (.exit 0))) (.seq (.block 1 (.seq (.seq (.region 6 (rg Tryd.f34 6) false) (.cond (.tmp 17) (.region 7 (rg Tryd.f34 7) false) (.skip))) (.region 8 (rg Tryd.f34 8) false))) (.region 5 (rg Tryd.f34 5) false)))))) (.seq (.region 9 (rg Tryd.f34 9) false) (.ret)))))) := by kernel_rfl

set_option maxRecDepth 100000 in
set_option maxHeartbeats 8000000 in
theorem one_c (x : RuleV) (hb : x.1.length ≤ 100000) : Pure Tryd.prog 34 [TV.agg [.s (st x.1), .s (u8 x.2)]] (vc (st (pieceS x))) := by
  refine Pure.of_body Tryd.func34 f34_body (by kernel_rfl) Tryd.ntmps34 (by kernel_rfl) (by kernel_rfl) ?_
  refine AMx.cell 0 1 rfl rfl (fun hr => ?_)
  rw [inR8_iff] at hr
  refine AMx.seq ?_
  refine AMx.region (ces := []) (ks := [1]) (hs := [1]) (cs := []) (s' := AS.lst 27 [(1, vp 1 0)] [(1, AObj.row [.s (st x.1), .s (u8 x.2)])]) (by kernel_rfl) ?_ ?_
  · exact trivial
  refine AMx.seq ?_
  refine AMx.region (ces := []) (ks := [1, 3]) (hs := [1]) (cs := [List.length x.1 + List.length ([58] : List UInt8) ≤ maxLen]) (s' := AS.lst 27 [(1, vp 1 0), (3, vc (st (x.1 ++ [58])))] [(1, AObj.row [.s (st x.1), .s (u8 x.2)])]) (by kernel_rfl) ?_ ?_
  · exact (show List.length x.1 + List.length ([58] : List UInt8) ≤ maxLen from (by simp only [List.length_append, List.length_cons, List.length_nil, maxLen]; first | omega | (first | omega | (have q3 := lay_len x.2 i; simp only [List.length_append, List.length_cons, List.length_nil, List.length_replicate, List.length_map, List.length_take, List.length_drop, pref_len, ruled_len]; omega))))
  refine AMx.seq ?_
  refine AMx.region (ces := []) (ks := [3, 4]) (hs := []) (cs := []) (s' := AS.lst 27 [(3, vc (st (x.1 ++ [58]))), (4, vc (u8 x.2))] []) (by kernel_rfl) ?_ ?_
  · exact trivial
  refine AMx.seq ?_
  refine AMx.seq ?_
  refine AMx.region (ces := []) (ks := [3, 4, 5]) (hs := []) (cs := []) (s' := AS.lst 27 [(3, vc (st (x.1 ++ [58]))), (4, vc (u8 x.2)), (5, vc (i6 0))] []) (by kernel_rfl) ?_ ?_
  · exact trivial
  refine AMx.block ?_
  refine AMx.ent (s' := AS.lst 27 [(3, vc (st (x.1 ++ [58]))), (4, vc (u8 x.2)), (5, vc (i6 0))] []) (ent_proj [3, 4, 5] []) ?_
  refine AMx.loop (fun mm ss => ∃ (i : Nat), (i ≤ 6) ∧ mm = 6 - i ∧ ss = AS.lst 27 [(3, vc (st ((x.1 ++ [58]) ++ layK x.2 i))), (4, vc (u8 (shrN x.2 i))), (5, vc (i6 (i : Int)))] []) ⟨0, ?_, rfl, ?_⟩ ?_
  · omega
  · rw [shr_0]; show _ = AS.lst _ _ _; rw [show layK x.2 0 = [] from rfl, List.append_nil]; rfl
  rintro mm ss ⟨i, hI, rfl, rfl⟩
  refine AMx.seq ?_
  refine AMx.seq ?_
  refine AMx.region (ces := []) (ks := [3, 4, 5, 12]) (hs := []) (cs := []) (s' := AS.lst 27 [(3, vc (st ((x.1 ++ [58]) ++ layK x.2 i))), (4, vc (u8 (shrN x.2 i))), (5, vc (i6 (i : Int))), (12, vc (bo (decide ((i : Int) < 6))))] []) (by kernel_rfl) ?_ ?_
  · exact trivial
  refine AMx.cond (b := decide ((i : Int) < 6)) (by kernel_rfl) (fun hc1 => ?_) (fun hc1 => ?_)
  · try simp only [decide_eq_true_eq, decide_eq_false_iff_not] at hc1
    refine AMx.skip ?_
    refine AMx.seq ?_
    refine AMx.block ?_
    refine AMx.seq ?_
    refine AMx.seq ?_
    refine AMx.region (ces := []) (ks := [3, 4, 5, 17]) (hs := []) (cs := [(2 : Int) ≠ 0]) (s' := AS.lst 27 [(3, vc (st ((x.1 ++ [58]) ++ layK x.2 i))), (4, vc (u8 (shrN x.2 i))), (5, vc (i6 (i : Int))), (17, vc (bo (decide (Int.tmod (shrN x.2 i) 2 = 1))))] []) (by kernel_rfl) ?_ ?_
    · exact (show (2 : Int) ≠ 0 from (by first | omega | (have q3 := lay_len x.2 i; simp only [List.length_append, List.length_cons, List.length_nil, List.length_replicate, List.length_map, List.length_take, List.length_drop, pref_len, ruled_len]; omega)))
    refine AMx.cond (b := decide (Int.tmod (shrN x.2 i) 2 = 1)) (by kernel_rfl) (fun hc2 => ?_) (fun hc2 => ?_)
    · try simp only [decide_eq_true_eq, decide_eq_false_iff_not] at hc2
      refine AMx.region (ces := []) (ks := [3, 4, 5]) (hs := []) (cs := [InR .i64 ((i : Int) + 1), 0 ≤ (i : Int) + 1, (i : Int) + 1 ≤ List.length ([114, 119, 100, 120, 108, 115] : List UInt8), 0 ≤ (i : Int), (i : Int) ≤ (i : Int) + 1, List.length ((x.1 ++ [58]) ++ layK x.2 i : List UInt8) + List.length (List.drop i (List.take (i + 1) [114, 119, 100, 120, 108, 115]) : List UInt8) ≤ maxLen]) (s' := AS.lst 27 [(3, vc (st (((x.1 ++ [58]) ++ layK x.2 i) ++ (List.drop i (List.take (i + 1) [114, 119, 100, 120, 108, 115]))))), (4, vc (u8 (shrN x.2 i))), (5, vc (i6 (i : Int)))] []) (by kernel_rfl) ?_ ?_
      · exact ⟨(show InR .i64 ((i : Int) + 1) from (inR64 (by first | omega | (have q3 := lay_len x.2 i; simp only [List.length_append, List.length_cons, List.length_nil, List.length_replicate, List.length_map, List.length_take, List.length_drop, pref_len, ruled_len]; omega)) (by first | omega | (have q3 := lay_len x.2 i; simp only [List.length_append, List.length_cons, List.length_nil, List.length_replicate, List.length_map, List.length_take, List.length_drop, pref_len, ruled_len]; omega)))), (show 0 ≤ (i : Int) + 1 from (by first | omega | (have q3 := lay_len x.2 i; simp only [List.length_append, List.length_cons, List.length_nil, List.length_replicate, List.length_map, List.length_take, List.length_drop, pref_len, ruled_len]; omega))), (show (i : Int) + 1 ≤ List.length ([114, 119, 100, 120, 108, 115] : List UInt8) from (by first | omega | (have q3 := lay_len x.2 i; simp only [List.length_append, List.length_cons, List.length_nil, List.length_replicate, List.length_map, List.length_take, List.length_drop, pref_len, ruled_len]; omega))), (show 0 ≤ (i : Int) from (by first | omega | (have q3 := lay_len x.2 i; simp only [List.length_append, List.length_cons, List.length_nil, List.length_replicate, List.length_map, List.length_take, List.length_drop, pref_len, ruled_len]; omega))), (show (i : Int) ≤ (i : Int) + 1 from (by first | omega | (have q3 := lay_len x.2 i; simp only [List.length_append, List.length_cons, List.length_nil, List.length_replicate, List.length_map, List.length_take, List.length_drop, pref_len, ruled_len]; omega))), (show List.length ((x.1 ++ [58]) ++ layK x.2 i : List UInt8) + List.length (List.drop i (List.take (i + 1) [114, 119, 100, 120, 108, 115]) : List UInt8) ≤ maxLen from (by simp only [List.length_append, List.length_cons, List.length_nil, maxLen]; first | omega | (first | omega | (have q3 := lay_len x.2 i; simp only [List.length_append, List.length_cons, List.length_nil, List.length_replicate, List.length_map, List.length_take, List.length_drop, pref_len, ruled_len]; omega))))⟩
      refine AMx.region (ces := []) (ks := [3, 4, 5]) (hs := []) (cs := [(2 : Int) ≠ 0]) (s' := AS.lst 27 [(3, vc (st (((x.1 ++ [58]) ++ layK x.2 i) ++ (List.drop i (List.take (i + 1) [114, 119, 100, 120, 108, 115]))))), (4, vc (u8 (IntKind.wrap .u8 (Int.tdiv (shrN x.2 i) 2)))), (5, vc (i6 (i : Int)))] []) (by kernel_rfl) ?_ ?_
      · exact (show (2 : Int) ≠ 0 from (by first | omega | (have q3 := lay_len x.2 i; simp only [List.length_append, List.length_cons, List.length_nil, List.length_replicate, List.length_map, List.length_take, List.length_drop, pref_len, ruled_len]; omega)))
      refine AMx.blk ?_
      refine AMx.region (ces := []) (ks := [3, 4, 5]) (hs := []) (cs := [InR .i64 ((i : Int) + 1)]) (s' := AS.lst 27 [(3, vc (st (((x.1 ++ [58]) ++ layK x.2 i) ++ (List.drop i (List.take (i + 1) [114, 119, 100, 120, 108, 115]))))), (4, vc (u8 (IntKind.wrap .u8 (Int.tdiv (shrN x.2 i) 2)))), (5, vc (i6 ((i : Int) + 1)))] []) (by kernel_rfl) ?_ ?_
      · exact (show InR .i64 ((i : Int) + 1) from (inR64 (by first | omega | (have q3 := lay_len x.2 i; simp only [List.length_append, List.length_cons, List.length_nil, List.length_replicate, List.length_map, List.length_take, List.length_drop, pref_len, ruled_len]; omega)) (by first | omega | (have q3 := lay_len x.2 i; simp only [List.length_append, List.length_cons, List.length_nil, List.length_replicate, List.length_map, List.length_take, List.length_drop, pref_len, ruled_len]; omega))))
      refine AMx.ent_inv (s' := AS.lst 27 [(3, vc (st (((x.1 ++ [58]) ++ layK x.2 i) ++ (List.drop i (List.take (i + 1) [114, 119, 100, 120, 108, 115]))))), (4, vc (u8 (IntKind.wrap .u8 (Int.tdiv (shrN x.2 i) 2)))), (5, vc (i6 ((i : Int) + 1)))] []) (ent_proj [3, 4, 5] []) ?_
      refine AMx.inv ⟨_, ?_, i + 1, ?_, rfl, ?_⟩
      rotate_left
      · omega
      · rw [lay_t ((shr_bit (by omega) (by omega) i).1 hc2), ← List.append_assoc, ← lay_one i (by omega), ← shr_step (n := x.2) (by omega) (by omega) i]; rfl
      · omega
    · try simp only [decide_eq_true_eq, decide_eq_false_iff_not] at hc2
      refine AMx.skip ?_
      refine AMx.region (ces := []) (ks := [3, 4, 5]) (hs := []) (cs := [(2 : Int) ≠ 0]) (s' := AS.lst 27 [(3, vc (st ((x.1 ++ [58]) ++ layK x.2 i))), (4, vc (u8 (IntKind.wrap .u8 (Int.tdiv (shrN x.2 i) 2)))), (5, vc (i6 (i : Int)))] []) (by kernel_rfl) ?_ ?_
      · exact (show (2 : Int) ≠ 0 from (by first | omega | (have q3 := lay_len x.2 i; simp only [List.length_append, List.length_cons, List.length_nil, List.length_replicate, List.length_map, List.length_take, List.length_drop, pref_len, ruled_len]; omega)))
      refine AMx.blk ?_
      refine AMx.region (ces := []) (ks := [3, 4, 5]) (hs := []) (cs := [InR .i64 ((i : Int) + 1)]) (s' := AS.lst 27 [(3, vc (st ((x.1 ++ [58]) ++ layK x.2 i))), (4, vc (u8 (IntKind.wrap .u8 (Int.tdiv (shrN x.2 i) 2)))), (5, vc (i6 ((i : Int) + 1)))] []) (by kernel_rfl) ?_ ?_
      · exact (show InR .i64 ((i : Int) + 1) from (inR64 (by first | omega | (have q3 := lay_len x.2 i; simp only [List.length_append, List.length_cons, List.length_nil, List.length_replicate, List.length_map, List.length_take, List.length_drop, pref_len, ruled_len]; omega)) (by first | omega | (have q3 := lay_len x.2 i; simp only [List.length_append, List.length_cons, List.length_nil, List.length_replicate, List.length_map, List.length_take, List.length_drop, pref_len, ruled_len]; omega))))
      refine AMx.ent_inv (s' := AS.lst 27 [(3, vc (st ((x.1 ++ [58]) ++ layK x.2 i))), (4, vc (u8 (IntKind.wrap .u8 (Int.tdiv (shrN x.2 i) 2)))), (5, vc (i6 ((i : Int) + 1)))] []) (ent_proj [3, 4, 5] []) ?_
      refine AMx.inv ⟨_, ?_, i + 1, ?_, rfl, ?_⟩
      rotate_left
      · omega
      · rw [lay_f (by cases q : bitN x.2 i with | false => rfl | true => exact absurd ((shr_bit (by omega) (by omega) i).2 q) hc2), ← shr_step (n := x.2) (by omega) (by omega) i]; rfl
      · omega
  · try simp only [decide_eq_true_eq, decide_eq_false_iff_not] at hc1
    refine AMx.exit ?_
    refine AMx.code_exit ?_
    refine AMx.inv_exit ?_
    refine AMx.blk_exit ?_
    refine AMx.seq ?_
    refine AMx.region (ces := []) (ks := [2]) (hs := []) (cs := []) (s' := AS.lst 27 [(2, vc (st ((x.1 ++ [58]) ++ layK x.2 i)))] []) (by kernel_rfl) ?_ ?_
    · exact trivial
    refine AMx.ret ?_
    exact RetP.mk (r := vc (st ((x.1 ++ [58]) ++ layK x.2 i))) (by kernel_rfl) (by rw [show i = 6 by omega, lay_6 (by omega)]; rfl)

theorem f20_body : Tryd.f20.body = some (.seq (.region 0 (rg Tryd.f20 0) false) (.seq (.region 1 (rg Tryd.f20 1) false) (.seq (.seq (.region 2 (rg Tryd.f20 2) false) (.cond (.tmp 10) (.seq (.region 3 (rg Tryd.f20 3) false) (.ret)) (.skip))) (.seq (.region 4 (rg Tryd.f20 4) false) (.seq (.seq (.region 5 (rg Tryd.f20 5) false) (.block 0 (.loop (.seq (.seq (.region 6 (rg Tryd.f20 6) false) (.cond (.tmp 15) (.skip) (.exit 0))) (.seq (.block 1 (.seq (.seq (.region 8 (rg Tryd.f20 8) false) (.cond (.tmp 19) (.region 9 (rg Tryd.f20 9) false) (.skip))) (.region 10 (rg Tryd.f20 10) false))) (.region 7 (rg Tryd.f20 7) false)))))) (.seq (.region 11 (rg Tryd.f20 11) false) (.ret))))))) := by kernel_rfl

set_option maxRecDepth 100000 in
set_option maxHeartbeats 8000000 in
theorem RText_c (l : List RuleV) : Pure Tryd.prog 20 [tc (slP l)] (AV.tup [tc (st ((textP l).1)), tc (i6 ((textP l).2))]) := by
  refine Pure.of_body Tryd.func20 f20_body (by kernel_rfl) Tryd.ntmps20 (by kernel_rfl) (by kernel_rfl) ?_
  refine AMx.sl 0 (l := l) rfl (fun hl => ?_)
  simp only [maxLen] at hl
  refine AMx.seq ?_
  refine AMx.region (ces := []) (ks := [0]) (hs := []) (cs := []) (s' := AS.lst 30 [(0, vc (slP l))] []) (by kernel_rfl) ?_ ?_
  · exact trivial
  refine AMx.seq ?_
  refine AMx.region (ces := [(1, CE.call [] [] (vc (i6 (checkP l))) [])]) (ks := [0, 4]) (hs := []) (cs := [Spec Tryd.prog 12 [tc (slP l)] (ofH []) (vc (i6 (checkP l))) (ofH [])]) (s' := AS.lst 30 [(0, vc (slP l)), (4, vc (i6 (checkP l)))] []) (by kernel_rfl) ?_ ?_
  · exact (RCheck_c l)
  refine AMx.seq ?_
  refine AMx.seq ?_
  refine AMx.region (ces := []) (ks := [0, 4, 10]) (hs := []) (cs := []) (s' := AS.lst 30 [(0, vc (slP l)), (4, vc (i6 (checkP l))), (10, vc (bo (!decide (checkP l = 0))))] []) (by kernel_rfl) ?_ ?_
  · exact trivial
  refine AMx.cond (b := !decide (checkP l = 0)) (by kernel_rfl) (fun hc1 => ?_) (fun hc1 => ?_)
  · try simp only [decide_eq_true_eq, decide_eq_false_iff_not, Bool.not_eq_true', Bool.not_eq_false'] at hc1
    refine AMx.seq ?_
    refine AMx.region (ces := []) (ks := [2, 3]) (hs := []) (cs := []) (s' := AS.lst 30 [(2, vc (st [])), (3, vc (i6 (checkP l)))] []) (by kernel_rfl) ?_ ?_
    · exact trivial
    refine AMx.ret ?_
    exact RetP.mk (r := AV.tup [tc (st []), tc (i6 (checkP l))]) (by kernel_rfl) (by rw [show textP l = ([], checkP l) from by first | rw [text_no (by assumption)] | rw [text_ok (by assumption)]])
  · try simp only [decide_eq_true_eq, decide_eq_false_iff_not, Bool.not_eq_true', Bool.not_eq_false'] at hc1
    refine AMx.skip ?_
    refine AMx.seq ?_
    refine AMx.region (ces := []) (ks := [0, 5]) (hs := []) (cs := []) (s' := AS.lst 30 [(0, vc (slP l)), (5, vc (st []))] []) (by kernel_rfl) ?_ ?_
    · exact trivial
    refine AMx.seq ?_
    refine AMx.seq ?_
    refine AMx.region (ces := []) (ks := [0, 5, 6]) (hs := []) (cs := []) (s' := AS.lst 30 [(0, vc (slP l)), (5, vc (st [])), (6, vc (i6 0))] []) (by kernel_rfl) ?_ ?_
    · exact trivial
    refine AMx.block ?_
    refine AMx.ent (s' := AS.lst 30 [(0, vc (slP l)), (5, vc (st [])), (6, vc (i6 0))] []) (ent_proj [0, 5, 6] []) ?_
    refine AMx.loop (fun mm ss => ∃ (i : Nat), (i ≤ l.length) ∧ mm = l.length - i ∧ ss = AS.lst 30 [(0, vc (slP l)), (5, vc (st (textOf (List.take i l)))), (6, vc (i6 (i : Int)))] []) ⟨0, ?_, rfl, ?_⟩ ?_
    · omega
    · rfl
    rintro mm ss ⟨i, hI, rfl, rfl⟩
    refine AMx.seq ?_
    refine AMx.seq ?_
    refine AMx.region (ces := []) (ks := [0, 5, 6, 15]) (hs := []) (cs := []) (s' := AS.lst 30 [(0, vc (slP l)), (5, vc (st (textOf (List.take i l)))), (6, vc (i6 (i : Int))), (15, vc (bo (decide ((i : Int) < (List.length l : Int)))))] []) (by kernel_rfl) ?_ ?_
    · exact trivial
    refine AMx.cond (b := decide ((i : Int) < (List.length l : Int))) (by kernel_rfl) (fun hc2 => ?_) (fun hc2 => ?_)
    · try simp only [decide_eq_true_eq, decide_eq_false_iff_not] at hc2
      refine AMx.skip ?_
      refine AMx.seq ?_
      refine AMx.block ?_
      refine AMx.seq ?_
      refine AMx.seq ?_
      refine AMx.region (ces := []) (ks := [0, 5, 6, 19]) (hs := []) (cs := []) (s' := AS.lst 30 [(0, vc (slP l)), (5, vc (st (textOf (List.take i l)))), (6, vc (i6 (i : Int))), (19, vc (bo (decide (0 < (i : Int)))))] []) (by kernel_rfl) ?_ ?_
      · exact trivial
      refine AMx.cond (b := decide (0 < (i : Int))) (by kernel_rfl) (fun hc3 => ?_) (fun hc3 => ?_)
      · try simp only [decide_eq_true_eq, decide_eq_false_iff_not] at hc3
        refine AMx.region (ces := []) (ks := [0, 5, 6]) (hs := []) (cs := [List.length (textOf (List.take i l) : List UInt8) + List.length ([44] : List UInt8) ≤ maxLen]) (s' := AS.lst 30 [(0, vc (slP l)), (5, vc (st ((textOf (List.take i l)) ++ [44]))), (6, vc (i6 (i : Int)))] []) (by kernel_rfl) ?_ ?_
        · exact (show List.length (textOf (List.take i l) : List UInt8) + List.length ([44] : List UInt8) ≤ maxLen from (by simp only [List.length_append, List.length_cons, List.length_nil, maxLen]; first | omega | (first | omega | (have q2 := ok_at (l := l) (k := i) (by assumption) (by omega); omega) | (have q1 := check_len (l := l) (by assumption); have q2 := ok_at (l := l) (k := i) (by assumption) (by omega); have q3 := piece_len (List.getD l i ([], 0)); have q4 := text_take (l := l) (by assumption) i; (try simp only [List.length_append, List.length_cons, List.length_nil, List.length_replicate, List.length_map, List.length_take, List.length_drop, pref_len, ruled_len]); omega))))
        refine AMx.region (ces := [(5, CE.call [] [] (vc (st (pieceS (List.getD l i ([], 0))))) [])]) (ks := [0, 5, 6]) (hs := []) (cs := [(0 : Int) ≤ (i : Int), (i : Int) < List.length l, Spec Tryd.prog 34 [TV.agg [.s (st ((List.getD l i ([], 0)).1)), .s (u8 ((List.getD l i ([], 0)).2))]] (ofH []) (vc (st (pieceS (List.getD l i ([], 0))))) (ofH []), List.length ((textOf (List.take i l)) ++ [44] : List UInt8) + List.length (pieceS (List.getD l i ([], 0)) : List UInt8) ≤ maxLen]) (s' := AS.lst 30 [(0, vc (slP l)), (5, vc (st (((textOf (List.take i l)) ++ [44]) ++ (pieceS (List.getD l i ([], 0)))))), (6, vc (i6 (i : Int)))] []) (by kernel_rfl) ?_ ?_
        · exact ⟨(show (0 : Int) ≤ (i : Int) from (by first | omega | (have q2 := ok_at (l := l) (k := i) (by assumption) (by omega); omega) | (have q1 := check_len (l := l) (by assumption); have q2 := ok_at (l := l) (k := i) (by assumption) (by omega); have q3 := piece_len (List.getD l i ([], 0)); have q4 := text_take (l := l) (by assumption) i; (try simp only [List.length_append, List.length_cons, List.length_nil, List.length_replicate, List.length_map, List.length_take, List.length_drop, pref_len, ruled_len]); omega))), (show (i : Int) < List.length l from (by first | omega | (have q2 := ok_at (l := l) (k := i) (by assumption) (by omega); omega) | (have q1 := check_len (l := l) (by assumption); have q2 := ok_at (l := l) (k := i) (by assumption) (by omega); have q3 := piece_len (List.getD l i ([], 0)); have q4 := text_take (l := l) (by assumption) i; (try simp only [List.length_append, List.length_cons, List.length_nil, List.length_replicate, List.length_map, List.length_take, List.length_drop, pref_len, ruled_len]); omega))), (one_c (List.getD l i ([], 0)) (by first | omega | (have q2 := ok_at (l := l) (k := i) (by assumption) (by omega); omega) | (have q1 := check_len (l := l) (by assumption); have q2 := ok_at (l := l) (k := i) (by assumption) (by omega); have q3 := piece_len (List.getD l i ([], 0)); have q4 := text_take (l := l) (by assumption) i; (try simp only [List.length_append, List.length_cons, List.length_nil, List.length_replicate, List.length_map, List.length_take, List.length_drop, pref_len, ruled_len]); omega))), (show List.length ((textOf (List.take i l)) ++ [44] : List UInt8) + List.length (pieceS (List.getD l i ([], 0)) : List UInt8) ≤ maxLen from (by simp only [List.length_append, List.length_cons, List.length_nil, maxLen]; first | omega | (first | omega | (have q2 := ok_at (l := l) (k := i) (by assumption) (by omega); omega) | (have q1 := check_len (l := l) (by assumption); have q2 := ok_at (l := l) (k := i) (by assumption) (by omega); have q3 := piece_len (List.getD l i ([], 0)); have q4 := text_take (l := l) (by assumption) i; (try simp only [List.length_append, List.length_cons, List.length_nil, List.length_replicate, List.length_map, List.length_take, List.length_drop, pref_len, ruled_len]); omega))))⟩
        refine AMx.blk ?_
        refine AMx.region (ces := []) (ks := [0, 5, 6]) (hs := []) (cs := [InR .i64 ((i : Int) + 1)]) (s' := AS.lst 30 [(0, vc (slP l)), (5, vc (st (((textOf (List.take i l)) ++ [44]) ++ (pieceS (List.getD l i ([], 0)))))), (6, vc (i6 ((i : Int) + 1)))] []) (by kernel_rfl) ?_ ?_
        · exact (show InR .i64 ((i : Int) + 1) from (inR64 (by first | omega | (have q2 := ok_at (l := l) (k := i) (by assumption) (by omega); omega) | (have q1 := check_len (l := l) (by assumption); have q2 := ok_at (l := l) (k := i) (by assumption) (by omega); have q3 := piece_len (List.getD l i ([], 0)); have q4 := text_take (l := l) (by assumption) i; (try simp only [List.length_append, List.length_cons, List.length_nil, List.length_replicate, List.length_map, List.length_take, List.length_drop, pref_len, ruled_len]); omega)) (by first | omega | (have q2 := ok_at (l := l) (k := i) (by assumption) (by omega); omega) | (have q1 := check_len (l := l) (by assumption); have q2 := ok_at (l := l) (k := i) (by assumption) (by omega); have q3 := piece_len (List.getD l i ([], 0)); have q4 := text_take (l := l) (by assumption) i; (try simp only [List.length_append, List.length_cons, List.length_nil, List.length_replicate, List.length_map, List.length_take, List.length_drop, pref_len, ruled_len]); omega))))
        refine AMx.ent_inv (s' := AS.lst 30 [(0, vc (slP l)), (5, vc (st (((textOf (List.take i l)) ++ [44]) ++ (pieceS (List.getD l i ([], 0)))))), (6, vc (i6 ((i : Int) + 1)))] []) (ent_proj [0, 5, 6] []) ?_
        refine AMx.inv ⟨_, ?_, i + 1, ?_, rfl, ?_⟩
        rotate_left
        · omega
        · rw [← text_step l i (by omega) (by omega)]; rfl
        · omega
      · try simp only [decide_eq_true_eq, decide_eq_false_iff_not] at hc3
        refine AMx.skip ?_
        refine AMx.region (ces := [(5, CE.call [] [] (vc (st (pieceS (List.getD l i ([], 0))))) [])]) (ks := [0, 5, 6]) (hs := []) (cs := [(0 : Int) ≤ (i : Int), (i : Int) < List.length l, Spec Tryd.prog 34 [TV.agg [.s (st ((List.getD l i ([], 0)).1)), .s (u8 ((List.getD l i ([], 0)).2))]] (ofH []) (vc (st (pieceS (List.getD l i ([], 0))))) (ofH []), List.length (textOf (List.take i l) : List UInt8) + List.length (pieceS (List.getD l i ([], 0)) : List UInt8) ≤ maxLen]) (s' := AS.lst 30 [(0, vc (slP l)), (5, vc (st ((textOf (List.take i l)) ++ (pieceS (List.getD l i ([], 0)))))), (6, vc (i6 (i : Int)))] []) (by kernel_rfl) ?_ ?_
        · exact ⟨(show (0 : Int) ≤ (i : Int) from (by first | omega | (have q2 := ok_at (l := l) (k := i) (by assumption) (by omega); omega) | (have q1 := check_len (l := l) (by assumption); have q2 := ok_at (l := l) (k := i) (by assumption) (by omega); have q3 := piece_len (List.getD l i ([], 0)); have q4 := text_take (l := l) (by assumption) i; (try simp only [List.length_append, List.length_cons, List.length_nil, List.length_replicate, List.length_map, List.length_take, List.length_drop, pref_len, ruled_len]); omega))), (show (i : Int) < List.length l from (by first | omega | (have q2 := ok_at (l := l) (k := i) (by assumption) (by omega); omega) | (have q1 := check_len (l := l) (by assumption); have q2 := ok_at (l := l) (k := i) (by assumption) (by omega); have q3 := piece_len (List.getD l i ([], 0)); have q4 := text_take (l := l) (by assumption) i; (try simp only [List.length_append, List.length_cons, List.length_nil, List.length_replicate, List.length_map, List.length_take, List.length_drop, pref_len, ruled_len]); omega))), (one_c (List.getD l i ([], 0)) (by first | omega | (have q2 := ok_at (l := l) (k := i) (by assumption) (by omega); omega) | (have q1 := check_len (l := l) (by assumption); have q2 := ok_at (l := l) (k := i) (by assumption) (by omega); have q3 := piece_len (List.getD l i ([], 0)); have q4 := text_take (l := l) (by assumption) i; (try simp only [List.length_append, List.length_cons, List.length_nil, List.length_replicate, List.length_map, List.length_take, List.length_drop, pref_len, ruled_len]); omega))), (show List.length (textOf (List.take i l) : List UInt8) + List.length (pieceS (List.getD l i ([], 0)) : List UInt8) ≤ maxLen from (by simp only [List.length_append, List.length_cons, List.length_nil, maxLen]; first | omega | (first | omega | (have q2 := ok_at (l := l) (k := i) (by assumption) (by omega); omega) | (have q1 := check_len (l := l) (by assumption); have q2 := ok_at (l := l) (k := i) (by assumption) (by omega); have q3 := piece_len (List.getD l i ([], 0)); have q4 := text_take (l := l) (by assumption) i; (try simp only [List.length_append, List.length_cons, List.length_nil, List.length_replicate, List.length_map, List.length_take, List.length_drop, pref_len, ruled_len]); omega))))⟩
        refine AMx.blk ?_
        refine AMx.region (ces := []) (ks := [0, 5, 6]) (hs := []) (cs := [InR .i64 ((i : Int) + 1)]) (s' := AS.lst 30 [(0, vc (slP l)), (5, vc (st ((textOf (List.take i l)) ++ (pieceS (List.getD l i ([], 0)))))), (6, vc (i6 ((i : Int) + 1)))] []) (by kernel_rfl) ?_ ?_
        · exact (show InR .i64 ((i : Int) + 1) from (inR64 (by first | omega | (have q2 := ok_at (l := l) (k := i) (by assumption) (by omega); omega) | (have q1 := check_len (l := l) (by assumption); have q2 := ok_at (l := l) (k := i) (by assumption) (by omega); have q3 := piece_len (List.getD l i ([], 0)); have q4 := text_take (l := l) (by assumption) i; (try simp only [List.length_append, List.length_cons, List.length_nil, List.length_replicate, List.length_map, List.length_take, List.length_drop, pref_len, ruled_len]); omega)) (by first | omega | (have q2 := ok_at (l := l) (k := i) (by assumption) (by omega); omega) | (have q1 := check_len (l := l) (by assumption); have q2 := ok_at (l := l) (k := i) (by assumption) (by omega); have q3 := piece_len (List.getD l i ([], 0)); have q4 := text_take (l := l) (by assumption) i; (try simp only [List.length_append, List.length_cons, List.length_nil, List.length_replicate, List.length_map, List.length_take, List.length_drop, pref_len, ruled_len]); omega))))
        refine AMx.ent_inv (s' := AS.lst 30 [(0, vc (slP l)), (5, vc (st ((textOf (List.take i l)) ++ (pieceS (List.getD l i ([], 0)))))), (6, vc (i6 ((i : Int) + 1)))] []) (ent_proj [0, 5, 6] []) ?_
        refine AMx.inv ⟨_, ?_, i + 1, ?_, rfl, ?_⟩
        rotate_left
        · omega
        · obtain rfl : i = 0 := (by omega); rw [← text_first l (by omega)]; rfl
        · omega
    · try simp only [decide_eq_true_eq, decide_eq_false_iff_not] at hc2
      refine AMx.exit ?_
      refine AMx.code_exit ?_
      refine AMx.inv_exit ?_
      refine AMx.blk_exit ?_
      rw [show List.take i l = l from List.take_of_length_le (by omega)]
      refine AMx.seq ?_
      refine AMx.region (ces := []) (ks := [2, 3]) (hs := []) (cs := []) (s' := AS.lst 30 [(2, vc (st (textOf l))), (3, vc (i6 0))] []) (by kernel_rfl) ?_ ?_
      · exact trivial
      refine AMx.ret ?_
      exact RetP.mk (r := AV.tup [tc (st (textOf l)), tc (i6 0)]) (by kernel_rfl) (by rw [show textP l = (textOf l, 0) from by first | rw [text_no (by assumption)] | rw [text_ok (by assumption)]])

end AL.Policy
