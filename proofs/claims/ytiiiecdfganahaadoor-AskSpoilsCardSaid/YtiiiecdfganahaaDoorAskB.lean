/- ask: the contracts of its functions, by their walks. No condition. -/
import Derived.Test.YtiiiecdfganahaaDoorAskA
namespace AL.Ask
open Go Go.Proofs AL
set_option linter.unusedVariables false
set_option linter.unusedSimpArgs false

theorem f17_body : Tryd.f17.body = some (.seq (.region 0 (rg Tryd.f17 0) false) (.seq (.block 0 (.seq (.region 1 (rg Tryd.f17 1) false) (.cond (.tmp 3) (.seq (.region 2 (rg Tryd.f17 2) false) (.ret)) (.seq (.region 3 (rg Tryd.f17 3) false) (.cond (.tmp 13) (.seq (.region 4 (rg Tryd.f17 4) false) (.ret)) (.skip)))))) (.seq (.region 5 (rg Tryd.f17 5) false) (.ret)))) := by kernel_rfl

set_option maxRecDepth 100000 in
set_option maxHeartbeats 8000000 in
theorem digit_c (b : UInt8) : Pure Tryd.prog 17 [tc (u8 (b.toNat : Int))] (vc (i6 (digV b))) := by
  refine Pure.of_body Tryd.func17 f17_body (by kernel_rfl) Tryd.ntmps17 (by kernel_rfl) (by kernel_rfl) ?_
  refine AMx.seq ?_
  refine AMx.region (ces := []) (ks := [0]) (hs := []) (cs := []) (s' := AS.lst 24 [(0, vc (u8 (b.toNat : Int)))] []) (by kernel_rfl) ?_ ?_
  · exact trivial
  refine AMx.seq ?_
  refine AMx.block ?_
  refine AMx.seq ?_
  refine AMx.region (ces := []) (ks := [0, 3]) (hs := []) (cs := [((decide (48 ≤ (b.toNat : Int))) = true) → allP [], ((decide (48 ≤ (b.toNat : Int))) = true) → allP [(decide (48 ≤ (b.toNat : Int))) = true], (decide (48 ≤ (b.toNat : Int))) = true → allP [(decide (48 ≤ (b.toNat : Int))) = true]]) (s' := AS.lst 24 [(0, vc (u8 (b.toNat : Int))), (3, vc (bo ((decide (48 ≤ (b.toNat : Int))) && (decide ((b.toNat : Int) ≤ 57)))))] []) (by kernel_rfl) ?_ ?_
  · exact ⟨(fun _ => trivial), (fun hp => hp), (fun hp2 => (by first | exact hp2 | exact ⟨hp, hp2⟩))⟩
  refine AMx.cond (b := ((decide (48 ≤ (b.toNat : Int))) && (decide ((b.toNat : Int) ≤ 57)))) (by kernel_rfl) (fun hc1 => ?_) (fun hc1 => ?_)
  · try simp only [decide_eq_true_eq, decide_eq_false_iff_not, Bool.and_eq_true, Bool.and_eq_false_iff] at hc1
    refine AMx.seq ?_
    refine AMx.region (ces := []) (ks := [2]) (hs := []) (cs := []) (s' := AS.lst 24 [(2, vc (i6 (IntKind.wrap .u8 ((b.toNat : Int) - 48))))] []) (by kernel_rfl) ?_ ?_
    · exact trivial
    rw [show IntKind.wrap .u8 ((b.toNat : Int) - 48) = (b.toNat : Int) - 48 from wrap_u8 (by omega) (by have := UInt8.toNat_lt b; omega)]
    refine AMx.ret ?_
    exact RetP.mk (r := vc (i6 ((b.toNat : Int) - 48))) (by kernel_rfl) (by rw [show digV b = (b.toNat : Int) - 48 from dig_1 (by omega)])
  · try simp only [decide_eq_true_eq, decide_eq_false_iff_not, Bool.and_eq_true, Bool.and_eq_false_iff] at hc1
    refine AMx.seq ?_
    refine AMx.region (ces := []) (ks := [0, 13]) (hs := []) (cs := [((decide (97 ≤ (b.toNat : Int))) = true) → allP [], ((decide (97 ≤ (b.toNat : Int))) = true) → allP [(decide (97 ≤ (b.toNat : Int))) = true], (decide (97 ≤ (b.toNat : Int))) = true → allP [(decide (97 ≤ (b.toNat : Int))) = true]]) (s' := AS.lst 24 [(0, vc (u8 (b.toNat : Int))), (13, vc (bo ((decide (97 ≤ (b.toNat : Int))) && (decide ((b.toNat : Int) ≤ 102)))))] []) (by kernel_rfl) ?_ ?_
    · exact ⟨(fun _ => trivial), (fun hp => hp), (fun hp2 => (by first | exact hp2 | exact ⟨hp, hp2⟩))⟩
    refine AMx.cond (b := ((decide (97 ≤ (b.toNat : Int))) && (decide ((b.toNat : Int) ≤ 102)))) (by kernel_rfl) (fun hc2 => ?_) (fun hc2 => ?_)
    · try simp only [decide_eq_true_eq, decide_eq_false_iff_not, Bool.and_eq_true, Bool.and_eq_false_iff] at hc2
      refine AMx.seq ?_
      refine AMx.region (ces := []) (ks := [2]) (hs := []) (cs := [InR .i64 ((IntKind.wrap .u8 ((b.toNat : Int) - 97)) + 10)]) (s' := AS.lst 24 [(2, vc (i6 ((IntKind.wrap .u8 ((b.toNat : Int) - 97)) + 10)))] []) (by kernel_rfl) ?_ ?_
      · exact (show InR .i64 ((IntKind.wrap .u8 ((b.toNat : Int) - 97)) + 10) from (inR64 (by first | omega | (have hb := UInt8.toNat_lt b; first | omega | (have hw := wrap_u8 (n := (b.toNat : Int) - 97) (by omega) (by omega); omega))) (by first | omega | (have hb := UInt8.toNat_lt b; first | omega | (have hw := wrap_u8 (n := (b.toNat : Int) - 97) (by omega) (by omega); omega)))))
      rw [show IntKind.wrap .u8 ((b.toNat : Int) - 97) = (b.toNat : Int) - 97 from wrap_u8 (by omega) (by have := UInt8.toNat_lt b; omega)]
      refine AMx.ret ?_
      exact RetP.mk (r := vc (i6 (((b.toNat : Int) - 97) + 10))) (by kernel_rfl) (by rw [show digV b = ((b.toNat : Int) - 97) + 10 from dig_2 (by omega)])
    · try simp only [decide_eq_true_eq, decide_eq_false_iff_not, Bool.and_eq_true, Bool.and_eq_false_iff] at hc2
      refine AMx.skip ?_
      refine AMx.blk ?_
      refine AMx.seq ?_
      refine AMx.region (ces := []) (ks := [2]) (hs := []) (cs := []) (s' := AS.lst 24 [(2, vc (i6 (-1)))] []) (by kernel_rfl) ?_ ?_
      · exact trivial
      refine AMx.ret ?_
      exact RetP.mk (r := vc (i6 (-1))) (by kernel_rfl) (by rw [show digV b = (-1) from dig_3 (by omega)])

theorem f9_body : Tryd.f9.body = some (.seq (.region 0 (rg Tryd.f9 0) false) (.seq (.region 1 (rg Tryd.f9 1) false) (.seq (.seq (.region 2 (rg Tryd.f9 2) false) (.block 0 (.loop (.seq (.region 3 (rg Tryd.f9 3) false) (.seq (.cond (.tmp 14) (.skip) (.exit 0)) (.seq (.block 1 (.seq (.region 4 (rg Tryd.f9 4) false) (.region 5 (rg Tryd.f9 5) true))) (.region 6 (rg Tryd.f9 6) false))))))) (.seq (.region 7 (rg Tryd.f9 7) false) (.ret))))) := by kernel_rfl

set_option maxRecDepth 100000 in
set_option maxHeartbeats 8000000 in
theorem Hex_c (s : Bytes) (hb : s.length ≤ 100000) : Pure Tryd.prog 9 [tc (st s)] (vc (st (hexS s))) := by
  refine Pure.of_body Tryd.func9 f9_body (by kernel_rfl) Tryd.ntmps9 (by kernel_rfl) (by kernel_rfl) ?_
  refine AMx.seq ?_
  refine AMx.region (ces := []) (ks := [0]) (hs := []) (cs := []) (s' := AS.lst 29 [(0, vc (st s))] []) (by kernel_rfl) ?_ ?_
  · exact trivial
  refine AMx.seq ?_
  refine AMx.region (ces := [(3, CE.obj (AObj.grow 5 1 UInt8 0 rowU8 (List.replicate 0 0)))]) (ks := [0, 3]) (hs := [9]) (cs := [InR .i64 (2 * (List.length s : Int)), 0 ≤ (0 : Int), (0 : Int) ≤ 2 * (List.length s : Int), (1 : Int) * (2 * (List.length s : Int)) ≤ 281474976710656, 2 * (List.length s : Int) ≤ 9223372036854775807, MakeC 0 [.s (u8 0)] (AObj.grow 5 1 UInt8 0 rowU8 (List.replicate 0 0))]) (s' := AS.lst 29 [(0, vc (st s)), (3, vo 9)] [(9, AObj.grow 5 1 UInt8 0 rowU8 (List.replicate 0 0))]) (by kernel_rfl) ?_ ?_
  · exact ⟨(show InR .i64 (2 * (List.length s : Int)) from (inR64 (by first | omega | (have hq := UInt8.toNat_lt (List.getD s k 0); have hr := hex_idx (List.getD s k 0).toNat hq; first | omega | ((try simp only [List.length_append, List.length_cons, List.length_nil, List.length_replicate, List.length_map, List.length_take, List.length_drop, hex_len]); omega))) (by first | omega | (have hq := UInt8.toNat_lt (List.getD s k 0); have hr := hex_idx (List.getD s k 0).toNat hq; first | omega | ((try simp only [List.length_append, List.length_cons, List.length_nil, List.length_replicate, List.length_map, List.length_take, List.length_drop, hex_len]); omega))))), (show 0 ≤ (0 : Int) from (by first | omega | (have hq := UInt8.toNat_lt (List.getD s k 0); have hr := hex_idx (List.getD s k 0).toNat hq; first | omega | ((try simp only [List.length_append, List.length_cons, List.length_nil, List.length_replicate, List.length_map, List.length_take, List.length_drop, hex_len]); omega)))), (show (0 : Int) ≤ 2 * (List.length s : Int) from (by first | omega | (have hq := UInt8.toNat_lt (List.getD s k 0); have hr := hex_idx (List.getD s k 0).toNat hq; first | omega | ((try simp only [List.length_append, List.length_cons, List.length_nil, List.length_replicate, List.length_map, List.length_take, List.length_drop, hex_len]); omega)))), (show (1 : Int) * (2 * (List.length s : Int)) ≤ 281474976710656 from (by first | omega | (have hq := UInt8.toNat_lt (List.getD s k 0); have hr := hex_idx (List.getD s k 0).toNat hq; first | omega | ((try simp only [List.length_append, List.length_cons, List.length_nil, List.length_replicate, List.length_map, List.length_take, List.length_drop, hex_len]); omega)))), (show 2 * (List.length s : Int) ≤ 9223372036854775807 from (by first | omega | (have hq := UInt8.toNat_lt (List.getD s k 0); have hr := hex_idx (List.getD s k 0).toNat hq; first | omega | ((try simp only [List.length_append, List.length_cons, List.length_nil, List.length_replicate, List.length_map, List.length_take, List.length_drop, hex_len]); omega)))), (⟨_, rfl, rfl⟩)⟩
  refine AMx.seq ?_
  refine AMx.seq ?_
  refine AMx.region (ces := []) (ks := [3, 11, 12, 13]) (hs := [9]) (cs := []) (s' := AS.lst 29 [(3, vo 9), (11, vc (SC.sl 1 UInt8 0 rowU8 s)), (12, vc (i6 (List.length s : Int))), (13, vc (i6 0))] [(9, AObj.grow 5 1 UInt8 0 rowU8 (List.replicate 0 0))]) (by kernel_rfl) ?_ ?_
  · exact trivial
  refine AMx.block ?_
  refine AMx.ent (s' := AS.lst 29 [(3, vo 9), (11, vc (SC.sl 1 UInt8 0 rowU8 s)), (12, vc (i6 (List.length s : Int))), (13, vc (i6 0))] [(9, AObj.grow 5 1 UInt8 0 rowU8 (List.replicate 0 0))]) (ent_proj [3, 11, 12, 13] [9]) ?_
  refine AMx.loop (fun mm ss => ∃ (k : Nat), (k ≤ s.length) ∧ mm = s.length - k ∧ ss = AS.lst 29 [(3, vo 9), (11, vc (SC.sl 1 UInt8 0 rowU8 s)), (12, vc (i6 (List.length s : Int))), (13, vc (i6 (k : Int)))] [(9, AObj.grow 5 1 UInt8 0 rowU8 (hexS (List.take k s)))]) ⟨0, ?_, rfl, ?_⟩ ?_
  · omega
  · rfl
  rintro mm ss ⟨k, hI, rfl, rfl⟩
  refine AMx.seq ?_
  refine AMx.region (ces := []) (ks := [3, 11, 12, 13, 14]) (hs := [9]) (cs := []) (s' := AS.lst 29 [(3, vo 9), (11, vc (SC.sl 1 UInt8 0 rowU8 s)), (12, vc (i6 (List.length s : Int))), (13, vc (i6 (k : Int))), (14, vc (bo (decide ((k : Int) < (List.length s : Int)))))] [(9, AObj.grow 5 1 UInt8 0 rowU8 (hexS (List.take k s)))]) (by kernel_rfl) ?_ ?_
  · exact trivial
  refine AMx.seq ?_
  refine AMx.cond (b := decide ((k : Int) < (List.length s : Int))) (by kernel_rfl) (fun hc1 => ?_) (fun hc1 => ?_)
  · try simp only [decide_eq_true_eq, decide_eq_false_iff_not] at hc1
    refine AMx.skip ?_
    refine AMx.seq ?_
    refine AMx.block ?_
    refine AMx.seq ?_
    refine AMx.region (ces := []) (ks := [3, 5, 11, 12, 13]) (hs := [9]) (cs := [(0 : Int) ≤ (k : Int), (k : Int) < List.length s]) (s' := AS.lst 29 [(3, vo 9), (5, vc (u8 ((List.getD s k 0).toNat : Int))), (11, vc (SC.sl 1 UInt8 0 rowU8 s)), (12, vc (i6 (List.length s : Int))), (13, vc (i6 (k : Int)))] [(9, AObj.grow 5 1 UInt8 0 rowU8 (hexS (List.take k s)))]) (by kernel_rfl) ?_ ?_
    · exact ⟨(show (0 : Int) ≤ (k : Int) from (by first | omega | (have hq := UInt8.toNat_lt (List.getD s k 0); have hr := hex_idx (List.getD s k 0).toNat hq; first | omega | ((try simp only [List.length_append, List.length_cons, List.length_nil, List.length_replicate, List.length_map, List.length_take, List.length_drop, hex_len]); omega)))), (show (k : Int) < List.length s from (by first | omega | (have hq := UInt8.toNat_lt (List.getD s k 0); have hr := hex_idx (List.getD s k 0).toNat hq; first | omega | ((try simp only [List.length_append, List.length_cons, List.length_nil, List.length_replicate, List.length_map, List.length_take, List.length_drop, hex_len]); omega))))⟩
    refine AMx.region_draw (ces := [(7, CE.obj (AObj.grow 5 1 UInt8 0 rowU8 (hexB (List.getD s k 0)))), (8, CE.obj (AObj.grow 5 1 UInt8 0 rowU8 ((hexS (List.take k s)) ++ (hexB (List.getD s k 0)))))]) (ros := [(8, [9, 24])]) (ks := [3, 11, 12, 13]) (hs := [25]) (cs := [(0 : Int) ≤ 4, (0 : Int) ≤ Int.fdiv ((List.getD s k 0).toNat : Int) (2 ^ (min (4 : Int).toNat (IntKind.bits .u8))), Int.fdiv ((List.getD s k 0).toNat : Int) (2 ^ (min (4 : Int).toNat (IntKind.bits .u8))) < List.length ([48, 49, 50, 51, 52, 53, 54, 55, 56, 57, 97, 98, 99, 100, 101, 102] : List UInt8), (0 : Int) ≤ IntKind.wrap .u8 ((BitVec.ofInt 8 ((List.getD s k 0).toNat : Int) &&& BitVec.ofInt 8 15).toNat), IntKind.wrap .u8 ((BitVec.ofInt 8 ((List.getD s k 0).toNat : Int) &&& BitVec.ofInt 8 15).toNat) < List.length ([48, 49, 50, 51, 52, 53, 54, 55, 56, 57, 97, 98, 99, 100, 101, 102] : List UInt8), flat 1 rowU8 (hexB (List.getD s k 0)) = [.s (u8 ((List.getD ([48, 49, 50, 51, 52, 53, 54, 55, 56, 57, 97, 98, 99, 100, 101, 102] : List UInt8) (Int.fdiv ((List.getD s k 0).toNat : Int) (2 ^ (min (4 : Int).toNat (IntKind.bits .u8)))).toNat 0).toNat : Int)), .s (u8 ((List.getD ([48, 49, 50, 51, 52, 53, 54, 55, 56, 57, 97, 98, 99, 100, 101, 102] : List UInt8) (IntKind.wrap .u8 ((BitVec.ofInt 8 ((List.getD s k 0).toNat : Int) &&& BitVec.ofInt 8 15).toNat)).toNat 0).toNat : Int))], List.length (hexB (List.getD s k 0) : List UInt8) = 2, AppC (flat 1 rowU8 (hexB (List.getD s k 0))) (List.length (hexB (List.getD s k 0) : List UInt8)) 1 (AObj.grow 5 1 UInt8 0 rowU8 (hexS (List.take k s))) (AObj.grow 5 1 UInt8 0 rowU8 ((hexS (List.take k s)) ++ (hexB (List.getD s k 0))))]) (s' := AS.lst 29 [(3, vo 25), (11, vc (SC.sl 1 UInt8 0 rowU8 s)), (12, vc (i6 (List.length s : Int))), (13, vc (i6 (k : Int)))] [(25, AObj.grow 5 1 UInt8 0 rowU8 ((hexS (List.take k s)) ++ (hexB (List.getD s k 0))))]) mixed (by kernel_rfl) ?_ ?_
    · exact ⟨(show (0 : Int) ≤ 4 from (by first | omega | (have hq := UInt8.toNat_lt (List.getD s k 0); have hr := hex_idx (List.getD s k 0).toNat hq; first | omega | ((try simp only [List.length_append, List.length_cons, List.length_nil, List.length_replicate, List.length_map, List.length_take, List.length_drop, hex_len]); omega)))), (show (0 : Int) ≤ Int.fdiv ((List.getD s k 0).toNat : Int) (2 ^ (min (4 : Int).toNat (IntKind.bits .u8))) from (by first | omega | (have hq := UInt8.toNat_lt (List.getD s k 0); have hr := hex_idx (List.getD s k 0).toNat hq; first | omega | ((try simp only [List.length_append, List.length_cons, List.length_nil, List.length_replicate, List.length_map, List.length_take, List.length_drop, hex_len]); omega)))), (show Int.fdiv ((List.getD s k 0).toNat : Int) (2 ^ (min (4 : Int).toNat (IntKind.bits .u8))) < List.length ([48, 49, 50, 51, 52, 53, 54, 55, 56, 57, 97, 98, 99, 100, 101, 102] : List UInt8) from (by first | omega | (have hq := UInt8.toNat_lt (List.getD s k 0); have hr := hex_idx (List.getD s k 0).toNat hq; first | omega | ((try simp only [List.length_append, List.length_cons, List.length_nil, List.length_replicate, List.length_map, List.length_take, List.length_drop, hex_len]); omega)))), (show (0 : Int) ≤ IntKind.wrap .u8 ((BitVec.ofInt 8 ((List.getD s k 0).toNat : Int) &&& BitVec.ofInt 8 15).toNat) from (by first | omega | (have hq := UInt8.toNat_lt (List.getD s k 0); have hr := hex_idx (List.getD s k 0).toNat hq; first | omega | ((try simp only [List.length_append, List.length_cons, List.length_nil, List.length_replicate, List.length_map, List.length_take, List.length_drop, hex_len]); omega)))), (show IntKind.wrap .u8 ((BitVec.ofInt 8 ((List.getD s k 0).toNat : Int) &&& BitVec.ofInt 8 15).toNat) < List.length ([48, 49, 50, 51, 52, 53, 54, 55, 56, 57, 97, 98, 99, 100, 101, 102] : List UInt8) from (by first | omega | (have hq := UInt8.toNat_lt (List.getD s k 0); have hr := hex_idx (List.getD s k 0).toNat hq; first | omega | ((try simp only [List.length_append, List.length_cons, List.length_nil, List.length_replicate, List.length_map, List.length_take, List.length_drop, hex_len]); omega)))), (hex_two (List.getD s k 0)), rfl, (⟨_, rfl, rfl, rfl, by simp only [hexB, List.length_append, List.length_cons, List.length_nil, List.length_replicate, List.length_map, List.length_take, List.length_drop, hex_len]; omega, by simp only [hexB, maxLen, List.length_append, List.length_cons, List.length_nil, List.length_replicate, List.length_map, List.length_take, List.length_drop, hex_len]; omega⟩)⟩
    refine AMx.blk ?_
    refine AMx.region (ces := []) (ks := [3, 11, 12, 13]) (hs := [25]) (cs := [InR .i64 ((k : Int) + 1)]) (s' := AS.lst 29 [(3, vo 25), (11, vc (SC.sl 1 UInt8 0 rowU8 s)), (12, vc (i6 (List.length s : Int))), (13, vc (i6 ((k : Int) + 1)))] [(25, AObj.grow 5 1 UInt8 0 rowU8 ((hexS (List.take k s)) ++ (hexB (List.getD s k 0))))]) (by kernel_rfl) ?_ ?_
    · exact (show InR .i64 ((k : Int) + 1) from (inR64 (by first | omega | (have hq := UInt8.toNat_lt (List.getD s k 0); have hr := hex_idx (List.getD s k 0).toNat hq; first | omega | ((try simp only [List.length_append, List.length_cons, List.length_nil, List.length_replicate, List.length_map, List.length_take, List.length_drop, hex_len]); omega))) (by first | omega | (have hq := UInt8.toNat_lt (List.getD s k 0); have hr := hex_idx (List.getD s k 0).toNat hq; first | omega | ((try simp only [List.length_append, List.length_cons, List.length_nil, List.length_replicate, List.length_map, List.length_take, List.length_drop, hex_len]); omega)))))
    refine AMx.ent_inv (s' := AS.lst 29 [(3, vo 9), (11, vc (SC.sl 1 UInt8 0 rowU8 s)), (12, vc (i6 (List.length s : Int))), (13, vc (i6 ((k : Int) + 1)))] [(9, AObj.grow 5 1 UInt8 0 rowU8 ((hexS (List.take k s)) ++ (hexB (List.getD s k 0))))]) (ent_swap 25 9 (by kernel_rfl) (by kernel_rfl)) ?_
    refine AMx.ent_inv (s' := AS.lst 29 [(3, vo 9), (11, vc (SC.sl 1 UInt8 0 rowU8 s)), (12, vc (i6 (List.length s : Int))), (13, vc (i6 ((k : Int) + 1)))] [(9, AObj.grow 5 1 UInt8 0 rowU8 ((hexS (List.take k s)) ++ (hexB (List.getD s k 0))))]) (ent_proj [3, 11, 12, 13] [9]) ?_
    refine AMx.inv ⟨_, ?_, k + 1, ?_, rfl, ?_⟩
    rotate_left
    · omega
    · rw [← hex_step s k (by omega)]; rfl
    · omega
  · try simp only [decide_eq_true_eq, decide_eq_false_iff_not] at hc1
    refine AMx.exit ?_
    refine AMx.code_exit ?_
    refine AMx.inv_exit ?_
    refine AMx.blk_exit ?_
    rw [show List.take k s = s from List.take_of_length_le (by omega)]
    refine AMx.seq ?_
    refine AMx.region (ces := [(1, CE.str (hexS s))]) (ks := [2]) (hs := []) (cs := [flat 1 rowU8 (hexS s) = flat 1 rowU8 (hexS s), List.length (hexS s : List UInt8) = List.length (hexS s : List UInt8), (List.length (hexS s : List UInt8) : Int) ≤ 140737488355328]) (s' := AS.lst 29 [(2, vc (st (hexS s)))] []) (by kernel_rfl) ?_ ?_
    · exact ⟨rfl, rfl, (show (List.length (hexS s : List UInt8) : Int) ≤ 140737488355328 from (by first | omega | (have hq := UInt8.toNat_lt (List.getD s k 0); have hr := hex_idx (List.getD s k 0).toNat hq; first | omega | ((try simp only [List.length_append, List.length_cons, List.length_nil, List.length_replicate, List.length_map, List.length_take, List.length_drop, hex_len]); omega))))⟩
    refine AMx.ret ?_
    exact RetP.mk (r := vc (st (hexS s))) (by kernel_rfl) rfl

theorem f10_body : Tryd.f10.body = some (.seq (.region 0 (rg Tryd.f10 0) false) (.seq (.region 1 (rg Tryd.f10 1) false) (.seq (.region 2 (rg Tryd.f10 2) false) (.seq (.seq (.region 3 (rg Tryd.f10 3) false) (.block 0 (.loop (.seq (.seq (.region 4 (rg Tryd.f10 4) false) (.cond (.tmp 9) (.skip) (.exit 0))) (.seq (.block 1 (.region 6 (rg Tryd.f10 6) true)) (.region 5 (rg Tryd.f10 5) false)))))) (.seq (.region 7 (rg Tryd.f10 7) false) (.ret)))))) := by kernel_rfl

set_option maxRecDepth 100000 in
set_option maxHeartbeats 8000000 in
theorem RHex_c (s : Bytes) (hb : s.length ≤ 100000) : Pure Tryd.prog 10 [tc (st s)] (vc (st (hexS s))) := by
  refine Pure.of_body Tryd.func10 f10_body (by kernel_rfl) Tryd.ntmps10 (by kernel_rfl) (by kernel_rfl) ?_
  refine AMx.seq ?_
  refine AMx.region (ces := []) (ks := [0]) (hs := []) (cs := []) (s' := AS.lst 29 [(0, vc (st s))] []) (by kernel_rfl) ?_ ?_
  · exact trivial
  refine AMx.seq ?_
  refine AMx.region (ces := []) (ks := [0, 3]) (hs := []) (cs := []) (s' := AS.lst 29 [(0, vc (st s)), (3, vc (st [48, 49, 50, 51, 52, 53, 54, 55, 56, 57, 97, 98, 99, 100, 101, 102]))] []) (by kernel_rfl) ?_ ?_
  · exact trivial
  refine AMx.seq ?_
  refine AMx.region (ces := []) (ks := [0, 3, 4]) (hs := []) (cs := []) (s' := AS.lst 29 [(0, vc (st s)), (3, vc (st [48, 49, 50, 51, 52, 53, 54, 55, 56, 57, 97, 98, 99, 100, 101, 102])), (4, vc (SC.nilsl))] []) (by kernel_rfl) ?_ ?_
  · exact trivial
  refine AMx.seq ?_
  refine AMx.seq ?_
  refine AMx.region (ces := []) (ks := [0, 3, 4, 5]) (hs := []) (cs := []) (s' := AS.lst 29 [(0, vc (st s)), (3, vc (st [48, 49, 50, 51, 52, 53, 54, 55, 56, 57, 97, 98, 99, 100, 101, 102])), (4, vc (SC.nilsl)), (5, vc (i6 0))] []) (by kernel_rfl) ?_ ?_
  · exact trivial
  refine AMx.block ?_
  refine AMx.ent (s' := AS.lst 29 [(0, vc (st s)), (3, vc (st [48, 49, 50, 51, 52, 53, 54, 55, 56, 57, 97, 98, 99, 100, 101, 102])), (4, vo 4), (5, vc (i6 0))] [(4, AObj.grow 5 1 UInt8 0 rowU8 [])]) (ent_adopt (t := 4) (d := 4) 5 1 UInt8 0 rowU8 (by kernel_rfl) (by kernel_rfl) (by kernel_rfl) (by kernel_rfl)) ?_
  refine AMx.ent (s' := AS.lst 29 [(0, vc (st s)), (3, vc (st [48, 49, 50, 51, 52, 53, 54, 55, 56, 57, 97, 98, 99, 100, 101, 102])), (4, vo 4), (5, vc (i6 0))] [(4, AObj.grow 5 1 UInt8 0 rowU8 [])]) (ent_proj [0, 3, 4, 5] [4]) ?_
  refine AMx.loop (fun mm ss => ∃ (i : Nat), (i ≤ s.length) ∧ mm = s.length - i ∧ ss = AS.lst 29 [(0, vc (st s)), (3, vc (st [48, 49, 50, 51, 52, 53, 54, 55, 56, 57, 97, 98, 99, 100, 101, 102])), (4, vo 4), (5, vc (i6 (i : Int)))] [(4, AObj.grow 5 1 UInt8 0 rowU8 (hexS (List.take i s)))]) ⟨0, ?_, rfl, ?_⟩ ?_
  · omega
  · rfl
  rintro mm ss ⟨i, hI, rfl, rfl⟩
  refine AMx.seq ?_
  refine AMx.seq ?_
  refine AMx.region (ces := []) (ks := [0, 3, 4, 5, 9]) (hs := [4]) (cs := []) (s' := AS.lst 29 [(0, vc (st s)), (3, vc (st [48, 49, 50, 51, 52, 53, 54, 55, 56, 57, 97, 98, 99, 100, 101, 102])), (4, vo 4), (5, vc (i6 (i : Int))), (9, vc (bo (decide ((i : Int) < (List.length s : Int)))))] [(4, AObj.grow 5 1 UInt8 0 rowU8 (hexS (List.take i s)))]) (by kernel_rfl) ?_ ?_
  · exact trivial
  refine AMx.cond (b := decide ((i : Int) < (List.length s : Int))) (by kernel_rfl) (fun hc1 => ?_) (fun hc1 => ?_)
  · try simp only [decide_eq_true_eq, decide_eq_false_iff_not] at hc1
    refine AMx.skip ?_
    refine AMx.seq ?_
    refine AMx.block ?_
    refine AMx.region_draw (ces := [(13, CE.obj (AObj.grow 5 1 UInt8 0 rowU8 (hexB (List.getD s i 0)))), (14, CE.obj (AObj.grow 5 1 UInt8 0 rowU8 ((hexS (List.take i s)) ++ (hexB (List.getD s i 0)))))]) (ros := [(14, [4, 25])]) (ks := [0, 3, 4, 5]) (hs := [26]) (cs := [(0 : Int) ≤ (i : Int), (i : Int) < List.length s, (16 : Int) ≠ 0, (0 : Int) ≤ IntKind.wrap .u8 (Int.tdiv ((List.getD s i 0).toNat : Int) 16), IntKind.wrap .u8 (Int.tdiv ((List.getD s i 0).toNat : Int) 16) < List.length ([48, 49, 50, 51, 52, 53, 54, 55, 56, 57, 97, 98, 99, 100, 101, 102] : List UInt8), (0 : Int) ≤ (i : Int), (i : Int) < List.length s, (16 : Int) ≠ 0, (0 : Int) ≤ Int.tmod ((List.getD s i 0).toNat : Int) 16, Int.tmod ((List.getD s i 0).toNat : Int) 16 < List.length ([48, 49, 50, 51, 52, 53, 54, 55, 56, 57, 97, 98, 99, 100, 101, 102] : List UInt8), flat 1 rowU8 (hexB (List.getD s i 0)) = [.s (u8 ((List.getD ([48, 49, 50, 51, 52, 53, 54, 55, 56, 57, 97, 98, 99, 100, 101, 102] : List UInt8) (IntKind.wrap .u8 (Int.tdiv ((List.getD s i 0).toNat : Int) 16)).toNat 0).toNat : Int)), .s (u8 ((List.getD ([48, 49, 50, 51, 52, 53, 54, 55, 56, 57, 97, 98, 99, 100, 101, 102] : List UInt8) (Int.tmod ((List.getD s i 0).toNat : Int) 16).toNat 0).toNat : Int))], List.length (hexB (List.getD s i 0) : List UInt8) = 2, AppC (flat 1 rowU8 (hexB (List.getD s i 0))) (List.length (hexB (List.getD s i 0) : List UInt8)) 1 (AObj.grow 5 1 UInt8 0 rowU8 (hexS (List.take i s))) (AObj.grow 5 1 UInt8 0 rowU8 ((hexS (List.take i s)) ++ (hexB (List.getD s i 0))))]) (s' := AS.lst 29 [(0, vc (st s)), (3, vc (st [48, 49, 50, 51, 52, 53, 54, 55, 56, 57, 97, 98, 99, 100, 101, 102])), (4, vo 26), (5, vc (i6 (i : Int)))] [(26, AObj.grow 5 1 UInt8 0 rowU8 ((hexS (List.take i s)) ++ (hexB (List.getD s i 0))))]) mixed (by kernel_rfl) ?_ ?_
    · exact ⟨(show (0 : Int) ≤ (i : Int) from (by first | omega | (have hq := UInt8.toNat_lt (List.getD s i 0); have hr := hex_idr (List.getD s i 0).toNat hq; first | omega | ((try simp only [List.length_append, List.length_cons, List.length_nil, List.length_replicate, List.length_map, List.length_take, List.length_drop, hex_len]); omega)))), (show (i : Int) < List.length s from (by first | omega | (have hq := UInt8.toNat_lt (List.getD s i 0); have hr := hex_idr (List.getD s i 0).toNat hq; first | omega | ((try simp only [List.length_append, List.length_cons, List.length_nil, List.length_replicate, List.length_map, List.length_take, List.length_drop, hex_len]); omega)))), (show (16 : Int) ≠ 0 from (by first | omega | (have hq := UInt8.toNat_lt (List.getD s i 0); have hr := hex_idr (List.getD s i 0).toNat hq; first | omega | ((try simp only [List.length_append, List.length_cons, List.length_nil, List.length_replicate, List.length_map, List.length_take, List.length_drop, hex_len]); omega)))), (show (0 : Int) ≤ IntKind.wrap .u8 (Int.tdiv ((List.getD s i 0).toNat : Int) 16) from (by first | omega | (have hq := UInt8.toNat_lt (List.getD s i 0); have hr := hex_idr (List.getD s i 0).toNat hq; first | omega | ((try simp only [List.length_append, List.length_cons, List.length_nil, List.length_replicate, List.length_map, List.length_take, List.length_drop, hex_len]); omega)))), (show IntKind.wrap .u8 (Int.tdiv ((List.getD s i 0).toNat : Int) 16) < List.length ([48, 49, 50, 51, 52, 53, 54, 55, 56, 57, 97, 98, 99, 100, 101, 102] : List UInt8) from (by first | omega | (have hq := UInt8.toNat_lt (List.getD s i 0); have hr := hex_idr (List.getD s i 0).toNat hq; first | omega | ((try simp only [List.length_append, List.length_cons, List.length_nil, List.length_replicate, List.length_map, List.length_take, List.length_drop, hex_len]); omega)))), (show (0 : Int) ≤ (i : Int) from (by first | omega | (have hq := UInt8.toNat_lt (List.getD s i 0); have hr := hex_idr (List.getD s i 0).toNat hq; first | omega | ((try simp only [List.length_append, List.length_cons, List.length_nil, List.length_replicate, List.length_map, List.length_take, List.length_drop, hex_len]); omega)))), (show (i : Int) < List.length s from (by first | omega | (have hq := UInt8.toNat_lt (List.getD s i 0); have hr := hex_idr (List.getD s i 0).toNat hq; first | omega | ((try simp only [List.length_append, List.length_cons, List.length_nil, List.length_replicate, List.length_map, List.length_take, List.length_drop, hex_len]); omega)))), (show (16 : Int) ≠ 0 from (by first | omega | (have hq := UInt8.toNat_lt (List.getD s i 0); have hr := hex_idr (List.getD s i 0).toNat hq; first | omega | ((try simp only [List.length_append, List.length_cons, List.length_nil, List.length_replicate, List.length_map, List.length_take, List.length_drop, hex_len]); omega)))), (show (0 : Int) ≤ Int.tmod ((List.getD s i 0).toNat : Int) 16 from (by first | omega | (have hq := UInt8.toNat_lt (List.getD s i 0); have hr := hex_idr (List.getD s i 0).toNat hq; first | omega | ((try simp only [List.length_append, List.length_cons, List.length_nil, List.length_replicate, List.length_map, List.length_take, List.length_drop, hex_len]); omega)))), (show Int.tmod ((List.getD s i 0).toNat : Int) 16 < List.length ([48, 49, 50, 51, 52, 53, 54, 55, 56, 57, 97, 98, 99, 100, 101, 102] : List UInt8) from (by first | omega | (have hq := UInt8.toNat_lt (List.getD s i 0); have hr := hex_idr (List.getD s i 0).toNat hq; first | omega | ((try simp only [List.length_append, List.length_cons, List.length_nil, List.length_replicate, List.length_map, List.length_take, List.length_drop, hex_len]); omega)))), (hex_twr (List.getD s i 0)), rfl, (⟨_, rfl, rfl, rfl, by simp only [hexB, List.length_append, List.length_cons, List.length_nil, List.length_replicate, List.length_map, List.length_take, List.length_drop, hex_len]; omega, by simp only [hexB, maxLen, List.length_append, List.length_cons, List.length_nil, List.length_replicate, List.length_map, List.length_take, List.length_drop, hex_len]; omega⟩)⟩
    refine AMx.blk ?_
    refine AMx.region (ces := []) (ks := [0, 3, 4, 5]) (hs := [26]) (cs := [InR .i64 ((i : Int) + 1)]) (s' := AS.lst 29 [(0, vc (st s)), (3, vc (st [48, 49, 50, 51, 52, 53, 54, 55, 56, 57, 97, 98, 99, 100, 101, 102])), (4, vo 26), (5, vc (i6 ((i : Int) + 1)))] [(26, AObj.grow 5 1 UInt8 0 rowU8 ((hexS (List.take i s)) ++ (hexB (List.getD s i 0))))]) (by kernel_rfl) ?_ ?_
    · exact (show InR .i64 ((i : Int) + 1) from (inR64 (by first | omega | (have hq := UInt8.toNat_lt (List.getD s i 0); have hr := hex_idr (List.getD s i 0).toNat hq; first | omega | ((try simp only [List.length_append, List.length_cons, List.length_nil, List.length_replicate, List.length_map, List.length_take, List.length_drop, hex_len]); omega))) (by first | omega | (have hq := UInt8.toNat_lt (List.getD s i 0); have hr := hex_idr (List.getD s i 0).toNat hq; first | omega | ((try simp only [List.length_append, List.length_cons, List.length_nil, List.length_replicate, List.length_map, List.length_take, List.length_drop, hex_len]); omega)))))
    refine AMx.ent_inv (s' := AS.lst 29 [(0, vc (st s)), (3, vc (st [48, 49, 50, 51, 52, 53, 54, 55, 56, 57, 97, 98, 99, 100, 101, 102])), (4, vo 4), (5, vc (i6 ((i : Int) + 1)))] [(4, AObj.grow 5 1 UInt8 0 rowU8 ((hexS (List.take i s)) ++ (hexB (List.getD s i 0))))]) (ent_swap 26 4 (by kernel_rfl) (by kernel_rfl)) ?_
    refine AMx.ent_inv (s' := AS.lst 29 [(0, vc (st s)), (3, vc (st [48, 49, 50, 51, 52, 53, 54, 55, 56, 57, 97, 98, 99, 100, 101, 102])), (4, vo 4), (5, vc (i6 ((i : Int) + 1)))] [(4, AObj.grow 5 1 UInt8 0 rowU8 ((hexS (List.take i s)) ++ (hexB (List.getD s i 0))))]) (ent_proj [0, 3, 4, 5] [4]) ?_
    refine AMx.inv ⟨_, ?_, i + 1, ?_, rfl, ?_⟩
    rotate_left
    · omega
    · rw [← hex_step s i (by omega)]; rfl
    · omega
  · try simp only [decide_eq_true_eq, decide_eq_false_iff_not] at hc1
    refine AMx.exit ?_
    refine AMx.code_exit ?_
    refine AMx.inv_exit ?_
    refine AMx.blk_exit ?_
    rw [show List.take i s = s from List.take_of_length_le (by omega)]
    refine AMx.seq ?_
    refine AMx.region (ces := [(1, CE.str (hexS s))]) (ks := [2]) (hs := []) (cs := [flat 1 rowU8 (hexS s) = flat 1 rowU8 (hexS s), List.length (hexS s : List UInt8) = List.length (hexS s : List UInt8), (List.length (hexS s : List UInt8) : Int) ≤ 140737488355328]) (s' := AS.lst 29 [(2, vc (st (hexS s)))] []) (by kernel_rfl) ?_ ?_
    · exact ⟨rfl, rfl, (show (List.length (hexS s : List UInt8) : Int) ≤ 140737488355328 from (by first | omega | (have hq := UInt8.toNat_lt (List.getD s i 0); have hr := hex_idr (List.getD s i 0).toNat hq; first | omega | ((try simp only [List.length_append, List.length_cons, List.length_nil, List.length_replicate, List.length_map, List.length_take, List.length_drop, hex_len]); omega))))⟩
    refine AMx.ret ?_
    exact RetP.mk (r := vc (st (hexS s))) (by kernel_rfl) rfl

theorem f7_body : Tryd.f7.body = some (.seq (.region 0 (rg Tryd.f7 0) false) (.seq (.seq (.region 1 (rg Tryd.f7 1) false) (.cond (.tmp 11) (.seq (.region 2 (rg Tryd.f7 2) false) (.ret)) (.skip))) (.seq (.region 3 (rg Tryd.f7 3) false) (.seq (.seq (.region 4 (rg Tryd.f7 4) false) (.block 0 (.loop (.seq (.seq (.region 5 (rg Tryd.f7 5) false) (.cond (.tmp 19) (.skip) (.exit 0))) (.seq (.block 1 (.seq (.region 7 (rg Tryd.f7 7) true) (.seq (.seq (.region 8 (rg Tryd.f7 8) false) (.cond (.tmp 36) (.seq (.region 9 (rg Tryd.f7 9) false) (.ret)) (.skip))) (.region 10 (rg Tryd.f7 10) false)))) (.region 6 (rg Tryd.f7 6) false)))))) (.seq (.region 11 (rg Tryd.f7 11) false) (.ret)))))) := by kernel_rfl

set_option maxRecDepth 100000 in
set_option maxHeartbeats 8000000 in
theorem Unhex_c (s : Bytes) (hb : s.length ≤ 100000) : Pure Tryd.prog 7 [tc (st s)] (AV.tup [tc (st ((unhexS s).1)), tc (bo ((unhexS s).2))]) := by
  refine Pure.of_body Tryd.func7 f7_body (by kernel_rfl) Tryd.ntmps7 (by kernel_rfl) (by kernel_rfl) ?_
  have h2 := tmod_2 s.length
  have h3 := tdiv_2 s.length
  refine AMx.seq ?_
  refine AMx.region (ces := []) (ks := [0]) (hs := []) (cs := []) (s' := AS.lst 47 [(0, vc (st s))] []) (by kernel_rfl) ?_ ?_
  · exact trivial
  refine AMx.seq ?_
  refine AMx.seq ?_
  refine AMx.region (ces := []) (ks := [0, 11]) (hs := []) (cs := [(2 : Int) ≠ 0]) (s' := AS.lst 47 [(0, vc (st s)), (11, vc (bo (!decide (Int.tmod (List.length s : Int) 2 = 0))))] []) (by kernel_rfl) ?_ ?_
  · exact (show (2 : Int) ≠ 0 from (by first | omega | (have hd1 := dig_rng (List.getD s (2 * k) 0); have hd2 := dig_rng (List.getD s (2 * k + 1) 0); first | omega | (have hp : (2 : Int) ^ (min (4 : Int).toNat (IntKind.bits .i64)) = 16 := rfl; rw [hp]; omega) | (have hl := un_len (List.take (2 * k) s); simp only [List.length_take] at hl; (try simp only [List.length_append, List.length_cons, List.length_nil, List.length_replicate, List.length_map, List.length_take, List.length_drop, hex_len]); omega))))
  refine AMx.cond (b := !decide (Int.tmod (List.length s : Int) 2 = 0)) (by kernel_rfl) (fun hc1 => ?_) (fun hc1 => ?_)
  · try simp only [decide_eq_true_eq, decide_eq_false_iff_not, Bool.not_eq_true', Bool.not_eq_false'] at hc1
    refine AMx.seq ?_
    refine AMx.region (ces := []) (ks := [2, 3]) (hs := []) (cs := []) (s' := AS.lst 47 [(2, vc (st [])), (3, vc (bo false))] []) (by kernel_rfl) ?_ ?_
    · exact trivial
    refine AMx.ret ?_
    exact RetP.mk (r := AV.tup [tc (st []), tc (bo false)]) (by kernel_rfl) (by rw [show unhexS s = ([], false) from by first | rw [unhex_odd (by omega)] | (rcases hc3 with q | q <;> first | rw [unhex_bad (k := 2 * k) (by omega) q] | rw [unhex_bad (k := 2 * k + 1) (by omega) q])])
  · try simp only [decide_eq_true_eq, decide_eq_false_iff_not, Bool.not_eq_true', Bool.not_eq_false'] at hc1
    refine AMx.skip ?_
    refine AMx.seq ?_
    refine AMx.region (ces := [(3, CE.obj (AObj.grow 5 1 UInt8 0 rowU8 (List.replicate 0 0)))]) (ks := [0, 4]) (hs := [15]) (cs := [(2 : Int) ≠ 0, InR .i64 (Int.tdiv (List.length s : Int) 2), 0 ≤ (0 : Int), (0 : Int) ≤ Int.tdiv (List.length s : Int) 2, (1 : Int) * (Int.tdiv (List.length s : Int) 2) ≤ 281474976710656, Int.tdiv (List.length s : Int) 2 ≤ 9223372036854775807, MakeC 0 [.s (u8 0)] (AObj.grow 5 1 UInt8 0 rowU8 (List.replicate 0 0))]) (s' := AS.lst 47 [(0, vc (st s)), (4, vo 15)] [(15, AObj.grow 5 1 UInt8 0 rowU8 (List.replicate 0 0))]) (by kernel_rfl) ?_ ?_
    · exact ⟨(show (2 : Int) ≠ 0 from (by first | omega | (have hd1 := dig_rng (List.getD s (2 * k) 0); have hd2 := dig_rng (List.getD s (2 * k + 1) 0); first | omega | (have hp : (2 : Int) ^ (min (4 : Int).toNat (IntKind.bits .i64)) = 16 := rfl; rw [hp]; omega) | (have hl := un_len (List.take (2 * k) s); simp only [List.length_take] at hl; (try simp only [List.length_append, List.length_cons, List.length_nil, List.length_replicate, List.length_map, List.length_take, List.length_drop, hex_len]); omega)))), (show InR .i64 (Int.tdiv (List.length s : Int) 2) from (inR64 (by first | omega | (have hd1 := dig_rng (List.getD s (2 * k) 0); have hd2 := dig_rng (List.getD s (2 * k + 1) 0); first | omega | (have hp : (2 : Int) ^ (min (4 : Int).toNat (IntKind.bits .i64)) = 16 := rfl; rw [hp]; omega) | (have hl := un_len (List.take (2 * k) s); simp only [List.length_take] at hl; (try simp only [List.length_append, List.length_cons, List.length_nil, List.length_replicate, List.length_map, List.length_take, List.length_drop, hex_len]); omega))) (by first | omega | (have hd1 := dig_rng (List.getD s (2 * k) 0); have hd2 := dig_rng (List.getD s (2 * k + 1) 0); first | omega | (have hp : (2 : Int) ^ (min (4 : Int).toNat (IntKind.bits .i64)) = 16 := rfl; rw [hp]; omega) | (have hl := un_len (List.take (2 * k) s); simp only [List.length_take] at hl; (try simp only [List.length_append, List.length_cons, List.length_nil, List.length_replicate, List.length_map, List.length_take, List.length_drop, hex_len]); omega))))), (show 0 ≤ (0 : Int) from (by first | omega | (have hd1 := dig_rng (List.getD s (2 * k) 0); have hd2 := dig_rng (List.getD s (2 * k + 1) 0); first | omega | (have hp : (2 : Int) ^ (min (4 : Int).toNat (IntKind.bits .i64)) = 16 := rfl; rw [hp]; omega) | (have hl := un_len (List.take (2 * k) s); simp only [List.length_take] at hl; (try simp only [List.length_append, List.length_cons, List.length_nil, List.length_replicate, List.length_map, List.length_take, List.length_drop, hex_len]); omega)))), (show (0 : Int) ≤ Int.tdiv (List.length s : Int) 2 from (by first | omega | (have hd1 := dig_rng (List.getD s (2 * k) 0); have hd2 := dig_rng (List.getD s (2 * k + 1) 0); first | omega | (have hp : (2 : Int) ^ (min (4 : Int).toNat (IntKind.bits .i64)) = 16 := rfl; rw [hp]; omega) | (have hl := un_len (List.take (2 * k) s); simp only [List.length_take] at hl; (try simp only [List.length_append, List.length_cons, List.length_nil, List.length_replicate, List.length_map, List.length_take, List.length_drop, hex_len]); omega)))), (show (1 : Int) * (Int.tdiv (List.length s : Int) 2) ≤ 281474976710656 from (by first | omega | (have hd1 := dig_rng (List.getD s (2 * k) 0); have hd2 := dig_rng (List.getD s (2 * k + 1) 0); first | omega | (have hp : (2 : Int) ^ (min (4 : Int).toNat (IntKind.bits .i64)) = 16 := rfl; rw [hp]; omega) | (have hl := un_len (List.take (2 * k) s); simp only [List.length_take] at hl; (try simp only [List.length_append, List.length_cons, List.length_nil, List.length_replicate, List.length_map, List.length_take, List.length_drop, hex_len]); omega)))), (show Int.tdiv (List.length s : Int) 2 ≤ 9223372036854775807 from (by first | omega | (have hd1 := dig_rng (List.getD s (2 * k) 0); have hd2 := dig_rng (List.getD s (2 * k + 1) 0); first | omega | (have hp : (2 : Int) ^ (min (4 : Int).toNat (IntKind.bits .i64)) = 16 := rfl; rw [hp]; omega) | (have hl := un_len (List.take (2 * k) s); simp only [List.length_take] at hl; (try simp only [List.length_append, List.length_cons, List.length_nil, List.length_replicate, List.length_map, List.length_take, List.length_drop, hex_len]); omega)))), (⟨_, rfl, rfl⟩)⟩
    refine AMx.seq ?_
    refine AMx.seq ?_
    refine AMx.region (ces := []) (ks := [0, 4, 5]) (hs := [15]) (cs := []) (s' := AS.lst 47 [(0, vc (st s)), (4, vo 15), (5, vc (i6 0))] [(15, AObj.grow 5 1 UInt8 0 rowU8 (List.replicate 0 0))]) (by kernel_rfl) ?_ ?_
    · exact trivial
    refine AMx.block ?_
    refine AMx.ent (s' := AS.lst 47 [(0, vc (st s)), (4, vo 15), (5, vc (i6 0))] [(15, AObj.grow 5 1 UInt8 0 rowU8 (List.replicate 0 0))]) (ent_proj [0, 4, 5] [15]) ?_
    refine AMx.loop (fun mm ss => ∃ (k : Nat), (2 * k ≤ s.length ∧ HexTo s k) ∧ mm = s.length - 2 * k ∧ ss = AS.lst 47 [(0, vc (st s)), (4, vo 15), (5, vc (i6 ((2 * k : Nat) : Int)))] [(15, AObj.grow 5 1 UInt8 0 rowU8 (unpairs (List.take (2 * k) s)))]) ⟨0, ?_, rfl, ?_⟩ ?_
    · exact ⟨Nat.zero_le _, rfl⟩
    · rfl
    rintro mm ss ⟨k, ⟨hI, hN⟩, rfl, rfl⟩
    refine AMx.seq ?_
    refine AMx.seq ?_
    refine AMx.region (ces := []) (ks := [0, 4, 5, 19]) (hs := [15]) (cs := []) (s' := AS.lst 47 [(0, vc (st s)), (4, vo 15), (5, vc (i6 ((2 * k : Nat) : Int))), (19, vc (bo (decide (((2 * k : Nat) : Int) < (List.length s : Int)))))] [(15, AObj.grow 5 1 UInt8 0 rowU8 (unpairs (List.take (2 * k) s)))]) (by kernel_rfl) ?_ ?_
    · exact trivial
    refine AMx.cond (b := decide (((2 * k : Nat) : Int) < (List.length s : Int))) (by kernel_rfl) (fun hc2 => ?_) (fun hc2 => ?_)
    · try simp only [decide_eq_true_eq, decide_eq_false_iff_not] at hc2
      refine AMx.skip ?_
      refine AMx.seq ?_
      refine AMx.block ?_
      refine AMx.seq ?_
      refine AMx.region_draw (ces := [(3, CE.call [] [] (vc (i6 (digV (List.getD s (2 * k) 0)))) []), (8, CE.call [] [] (vc (i6 (digV (List.getD s ((2 * k) + 1) 0)))) [])]) (ros := []) (ks := [0, 4, 5, 6, 7]) (hs := [15]) (cs := [(0 : Int) ≤ ((2 * k : Nat) : Int), ((2 * k : Nat) : Int) < List.length s, Spec Tryd.prog 17 [tc (u8 ((List.getD s (2 * k) 0).toNat : Int))] (ofH []) (vc (i6 (digV (List.getD s (2 * k) 0)))) (ofH []), InR .i64 (((2 * k : Nat) : Int) + 1), (0 : Int) ≤ ((2 * k : Nat) : Int) + 1, ((2 * k : Nat) : Int) + 1 < List.length s, Spec Tryd.prog 17 [tc (u8 ((List.getD s ((2 * k) + 1) 0).toNat : Int))] (ofH []) (vc (i6 (digV (List.getD s ((2 * k) + 1) 0)))) (ofH [])]) (s' := AS.lst 47 [(0, vc (st s)), (4, vo 15), (5, vc (i6 ((2 * k : Nat) : Int))), (6, vc (i6 (digV (List.getD s (2 * k) 0)))), (7, vc (i6 (digV (List.getD s ((2 * k) + 1) 0))))] [(15, AObj.grow 5 1 UInt8 0 rowU8 (unpairs (List.take (2 * k) s)))]) mixed (by kernel_rfl) ?_ ?_
      · exact ⟨(show (0 : Int) ≤ ((2 * k : Nat) : Int) from (by first | omega | (have hd1 := dig_rng (List.getD s (2 * k) 0); have hd2 := dig_rng (List.getD s (2 * k + 1) 0); first | omega | (have hp : (2 : Int) ^ (min (4 : Int).toNat (IntKind.bits .i64)) = 16 := rfl; rw [hp]; omega) | (have hl := un_len (List.take (2 * k) s); simp only [List.length_take] at hl; (try simp only [List.length_append, List.length_cons, List.length_nil, List.length_replicate, List.length_map, List.length_take, List.length_drop, hex_len]); omega)))), (show ((2 * k : Nat) : Int) < List.length s from (by first | omega | (have hd1 := dig_rng (List.getD s (2 * k) 0); have hd2 := dig_rng (List.getD s (2 * k + 1) 0); first | omega | (have hp : (2 : Int) ^ (min (4 : Int).toNat (IntKind.bits .i64)) = 16 := rfl; rw [hp]; omega) | (have hl := un_len (List.take (2 * k) s); simp only [List.length_take] at hl; (try simp only [List.length_append, List.length_cons, List.length_nil, List.length_replicate, List.length_map, List.length_take, List.length_drop, hex_len]); omega)))), (digit_c (List.getD s (2 * k) 0)), (show InR .i64 (((2 * k : Nat) : Int) + 1) from (inR64 (by first | omega | (have hd1 := dig_rng (List.getD s (2 * k) 0); have hd2 := dig_rng (List.getD s (2 * k + 1) 0); first | omega | (have hp : (2 : Int) ^ (min (4 : Int).toNat (IntKind.bits .i64)) = 16 := rfl; rw [hp]; omega) | (have hl := un_len (List.take (2 * k) s); simp only [List.length_take] at hl; (try simp only [List.length_append, List.length_cons, List.length_nil, List.length_replicate, List.length_map, List.length_take, List.length_drop, hex_len]); omega))) (by first | omega | (have hd1 := dig_rng (List.getD s (2 * k) 0); have hd2 := dig_rng (List.getD s (2 * k + 1) 0); first | omega | (have hp : (2 : Int) ^ (min (4 : Int).toNat (IntKind.bits .i64)) = 16 := rfl; rw [hp]; omega) | (have hl := un_len (List.take (2 * k) s); simp only [List.length_take] at hl; (try simp only [List.length_append, List.length_cons, List.length_nil, List.length_replicate, List.length_map, List.length_take, List.length_drop, hex_len]); omega))))), (show (0 : Int) ≤ ((2 * k : Nat) : Int) + 1 from (by first | omega | (have hd1 := dig_rng (List.getD s (2 * k) 0); have hd2 := dig_rng (List.getD s (2 * k + 1) 0); first | omega | (have hp : (2 : Int) ^ (min (4 : Int).toNat (IntKind.bits .i64)) = 16 := rfl; rw [hp]; omega) | (have hl := un_len (List.take (2 * k) s); simp only [List.length_take] at hl; (try simp only [List.length_append, List.length_cons, List.length_nil, List.length_replicate, List.length_map, List.length_take, List.length_drop, hex_len]); omega)))), (show ((2 * k : Nat) : Int) + 1 < List.length s from (by first | omega | (have hd1 := dig_rng (List.getD s (2 * k) 0); have hd2 := dig_rng (List.getD s (2 * k + 1) 0); first | omega | (have hp : (2 : Int) ^ (min (4 : Int).toNat (IntKind.bits .i64)) = 16 := rfl; rw [hp]; omega) | (have hl := un_len (List.take (2 * k) s); simp only [List.length_take] at hl; (try simp only [List.length_append, List.length_cons, List.length_nil, List.length_replicate, List.length_map, List.length_take, List.length_drop, hex_len]); omega)))), (digit_c (List.getD s ((2 * k) + 1) 0))⟩
      refine AMx.seq ?_
      refine AMx.seq ?_
      refine AMx.region (ces := []) (ks := [0, 4, 5, 6, 7, 36]) (hs := [15]) (cs := [((decide (digV (List.getD s (2 * k) 0) < 0)) = false) → allP [], ((decide (digV (List.getD s (2 * k) 0) < 0)) = false) → allP [(decide (digV (List.getD s (2 * k) 0) < 0)) = false], (decide (digV (List.getD s (2 * k) 0) < 0)) = false → allP [(decide (digV (List.getD s (2 * k) 0) < 0)) = false]]) (s' := AS.lst 47 [(0, vc (st s)), (4, vo 15), (5, vc (i6 ((2 * k : Nat) : Int))), (6, vc (i6 (digV (List.getD s (2 * k) 0)))), (7, vc (i6 (digV (List.getD s ((2 * k) + 1) 0)))), (36, vc (bo ((decide (digV (List.getD s (2 * k) 0) < 0)) || (decide (digV (List.getD s ((2 * k) + 1) 0) < 0)))))] [(15, AObj.grow 5 1 UInt8 0 rowU8 (unpairs (List.take (2 * k) s)))]) (by kernel_rfl) ?_ ?_
      · exact ⟨(fun _ => trivial), (fun hp => hp), (fun hp2 => (by first | exact hp2 | exact ⟨hp, hp2⟩))⟩
      refine AMx.cond (b := ((decide (digV (List.getD s (2 * k) 0) < 0)) || (decide (digV (List.getD s ((2 * k) + 1) 0) < 0)))) (by kernel_rfl) (fun hc3 => ?_) (fun hc3 => ?_)
      · try simp only [decide_eq_true_eq, decide_eq_false_iff_not, Bool.or_eq_true, Bool.or_eq_false_iff] at hc3
        refine AMx.seq ?_
        refine AMx.region (ces := []) (ks := [2, 3]) (hs := []) (cs := []) (s' := AS.lst 47 [(2, vc (st [])), (3, vc (bo false))] []) (by kernel_rfl) ?_ ?_
        · exact trivial
        refine AMx.ret ?_
        exact RetP.mk (r := AV.tup [tc (st []), tc (bo false)]) (by kernel_rfl) (by rw [show unhexS s = ([], false) from by first | rw [unhex_odd (by omega)] | (rcases hc3 with q | q <;> first | rw [unhex_bad (k := 2 * k) (by omega) q] | rw [unhex_bad (k := 2 * k + 1) (by omega) q])])
      · try simp only [decide_eq_true_eq, decide_eq_false_iff_not, Bool.or_eq_true, Bool.or_eq_false_iff] at hc3
        refine AMx.skip ?_
        refine AMx.region (ces := [(6, CE.obj (AObj.grow 5 1 UInt8 0 rowU8 [pairB (List.getD s (2 * k) 0) (List.getD s (2 * k + 1) 0)])), (7, CE.obj (AObj.grow 5 1 UInt8 0 rowU8 ((unpairs (List.take (2 * k) s)) ++ [pairB (List.getD s (2 * k) 0) (List.getD s (2 * k + 1) 0)])))]) (ks := [0, 4, 5]) (hs := [44]) (cs := [(0 : Int) ≤ 4, InR .i64 ((digV (List.getD s (2 * k) 0)) * 2 ^ (min (4 : Int).toNat (IntKind.bits .i64))), flat 1 rowU8 [pairB (List.getD s (2 * k) 0) (List.getD s (2 * k + 1) 0)] = [.s (u8 (IntKind.wrap .u8 (IntKind.wrap .i64 ((BitVec.ofInt 64 ((digV (List.getD s (2 * k) 0)) * 2 ^ (min (4 : Int).toNat (IntKind.bits .i64))) ||| BitVec.ofInt 64 (digV (List.getD s ((2 * k) + 1) 0))).toNat))))], List.length ([pairB (List.getD s (2 * k) 0) (List.getD s (2 * k + 1) 0)] : List UInt8) = 1, AppC (flat 1 rowU8 [pairB (List.getD s (2 * k) 0) (List.getD s (2 * k + 1) 0)]) (List.length ([pairB (List.getD s (2 * k) 0) (List.getD s (2 * k + 1) 0)] : List UInt8)) 1 (AObj.grow 5 1 UInt8 0 rowU8 (unpairs (List.take (2 * k) s))) (AObj.grow 5 1 UInt8 0 rowU8 ((unpairs (List.take (2 * k) s)) ++ [pairB (List.getD s (2 * k) 0) (List.getD s (2 * k + 1) 0)]))]) (s' := AS.lst 47 [(0, vc (st s)), (4, vo 44), (5, vc (i6 ((2 * k : Nat) : Int)))] [(44, AObj.grow 5 1 UInt8 0 rowU8 ((unpairs (List.take (2 * k) s)) ++ [pairB (List.getD s (2 * k) 0) (List.getD s (2 * k + 1) 0)]))]) (by kernel_rfl) ?_ ?_
        · exact ⟨(show (0 : Int) ≤ 4 from (by first | omega | (have hd1 := dig_rng (List.getD s (2 * k) 0); have hd2 := dig_rng (List.getD s (2 * k + 1) 0); first | omega | (have hp : (2 : Int) ^ (min (4 : Int).toNat (IntKind.bits .i64)) = 16 := rfl; rw [hp]; omega) | (have hl := un_len (List.take (2 * k) s); simp only [List.length_take] at hl; (try simp only [List.length_append, List.length_cons, List.length_nil, List.length_replicate, List.length_map, List.length_take, List.length_drop, hex_len]); omega)))), (show InR .i64 ((digV (List.getD s (2 * k) 0)) * 2 ^ (min (4 : Int).toNat (IntKind.bits .i64))) from (inR64 (by first | omega | (have hd1 := dig_rng (List.getD s (2 * k) 0); have hd2 := dig_rng (List.getD s (2 * k + 1) 0); first | omega | (have hp : (2 : Int) ^ (min (4 : Int).toNat (IntKind.bits .i64)) = 16 := rfl; rw [hp]; omega) | (have hl := un_len (List.take (2 * k) s); simp only [List.length_take] at hl; (try simp only [List.length_append, List.length_cons, List.length_nil, List.length_replicate, List.length_map, List.length_take, List.length_drop, hex_len]); omega))) (by first | omega | (have hd1 := dig_rng (List.getD s (2 * k) 0); have hd2 := dig_rng (List.getD s (2 * k + 1) 0); first | omega | (have hp : (2 : Int) ^ (min (4 : Int).toNat (IntKind.bits .i64)) = 16 := rfl; rw [hp]; omega) | (have hl := un_len (List.take (2 * k) s); simp only [List.length_take] at hl; (try simp only [List.length_append, List.length_cons, List.length_nil, List.length_replicate, List.length_map, List.length_take, List.length_drop, hex_len]); omega))))), (one_pair (by omega) (by omega)), rfl, (⟨_, rfl, rfl, rfl, by have hl := un_len (List.take (2 * k) s); simp only [List.length_append, List.length_cons, List.length_nil, List.length_replicate, List.length_map, List.length_take, List.length_drop, hex_len] at *; omega, by have hl := un_len (List.take (2 * k) s); simp only [maxLen, List.length_append, List.length_cons, List.length_nil, List.length_replicate, List.length_map, List.length_take, List.length_drop, hex_len] at *; omega⟩)⟩
        refine AMx.blk ?_
        refine AMx.region (ces := []) (ks := [0, 4, 5]) (hs := [44]) (cs := [InR .i64 (((2 * k : Nat) : Int) + 2)]) (s' := AS.lst 47 [(0, vc (st s)), (4, vo 44), (5, vc (i6 (((2 * k : Nat) : Int) + 2)))] [(44, AObj.grow 5 1 UInt8 0 rowU8 ((unpairs (List.take (2 * k) s)) ++ [pairB (List.getD s (2 * k) 0) (List.getD s (2 * k + 1) 0)]))]) (by kernel_rfl) ?_ ?_
        · exact (show InR .i64 (((2 * k : Nat) : Int) + 2) from (inR64 (by first | omega | (have hd1 := dig_rng (List.getD s (2 * k) 0); have hd2 := dig_rng (List.getD s (2 * k + 1) 0); first | omega | (have hp : (2 : Int) ^ (min (4 : Int).toNat (IntKind.bits .i64)) = 16 := rfl; rw [hp]; omega) | (have hl := un_len (List.take (2 * k) s); simp only [List.length_take] at hl; (try simp only [List.length_append, List.length_cons, List.length_nil, List.length_replicate, List.length_map, List.length_take, List.length_drop, hex_len]); omega))) (by first | omega | (have hd1 := dig_rng (List.getD s (2 * k) 0); have hd2 := dig_rng (List.getD s (2 * k + 1) 0); first | omega | (have hp : (2 : Int) ^ (min (4 : Int).toNat (IntKind.bits .i64)) = 16 := rfl; rw [hp]; omega) | (have hl := un_len (List.take (2 * k) s); simp only [List.length_take] at hl; (try simp only [List.length_append, List.length_cons, List.length_nil, List.length_replicate, List.length_map, List.length_take, List.length_drop, hex_len]); omega)))))
        refine AMx.ent_inv (s' := AS.lst 47 [(0, vc (st s)), (4, vo 15), (5, vc (i6 (((2 * k : Nat) : Int) + 2)))] [(15, AObj.grow 5 1 UInt8 0 rowU8 ((unpairs (List.take (2 * k) s)) ++ [pairB (List.getD s (2 * k) 0) (List.getD s (2 * k + 1) 0)]))]) (ent_swap 44 15 (by kernel_rfl) (by kernel_rfl)) ?_
        refine AMx.ent_inv (s' := AS.lst 47 [(0, vc (st s)), (4, vo 15), (5, vc (i6 (((2 * k : Nat) : Int) + 2)))] [(15, AObj.grow 5 1 UInt8 0 rowU8 ((unpairs (List.take (2 * k) s)) ++ [pairB (List.getD s (2 * k) 0) (List.getD s (2 * k + 1) 0)]))]) (ent_proj [0, 4, 5] [15]) ?_
        refine AMx.inv ⟨_, ?_, k + 1, ?_, rfl, ?_⟩
        rotate_left
        · exact ⟨by omega, hexto_step (by omega) hN (by omega) (by omega)⟩
        · rw [← un_step k s (by omega)]; rfl
        · omega
    · try simp only [decide_eq_true_eq, decide_eq_false_iff_not] at hc2
      refine AMx.exit ?_
      refine AMx.code_exit ?_
      refine AMx.inv_exit ?_
      refine AMx.blk_exit ?_
      refine AMx.seq ?_
      refine AMx.region (ces := [(1, CE.str (unpairs (List.take (2 * k) s)))]) (ks := [2, 3]) (hs := []) (cs := [flat 1 rowU8 (unpairs (List.take (2 * k) s)) = flat 1 rowU8 (unpairs (List.take (2 * k) s)), List.length (unpairs (List.take (2 * k) s) : List UInt8) = List.length (unpairs (List.take (2 * k) s) : List UInt8), (List.length (unpairs (List.take (2 * k) s) : List UInt8) : Int) ≤ 140737488355328]) (s' := AS.lst 47 [(2, vc (st (unpairs (List.take (2 * k) s)))), (3, vc (bo true))] []) (by kernel_rfl) ?_ ?_
      · exact ⟨rfl, rfl, (show (List.length (unpairs (List.take (2 * k) s) : List UInt8) : Int) ≤ 140737488355328 from (by first | omega | (have hd1 := dig_rng (List.getD s (2 * k) 0); have hd2 := dig_rng (List.getD s (2 * k + 1) 0); first | omega | (have hp : (2 : Int) ^ (min (4 : Int).toNat (IntKind.bits .i64)) = 16 := rfl; rw [hp]; omega) | (have hl := un_len (List.take (2 * k) s); simp only [List.length_take] at hl; (try simp only [List.length_append, List.length_cons, List.length_nil, List.length_replicate, List.length_map, List.length_take, List.length_drop, hex_len]); omega))))⟩
      refine AMx.ret ?_
      exact RetP.mk (r := AV.tup [tc (st (unpairs (List.take (2 * k) s))), tc (bo true)]) (by kernel_rfl) (by rw [show unhexS s = (unpairs (List.take (2 * k) s), true) from by rw [unhex_end (k := k) (by omega) hN]])

theorem f33_body : Tryd.f33.body = some (.seq (.region 0 (rg Tryd.f33 0) false) (.seq (.region 1 (rg Tryd.f33 1) false) (.seq (.seq (.region 2 (rg Tryd.f33 2) false) (.block 0 (.loop (.seq (.region 3 (rg Tryd.f33 3) false) (.seq (.cond (.tmp 10) (.skip) (.exit 0)) (.seq (.block 1 (.seq (.region 4 (rg Tryd.f33 4) false) (.region 5 (rg Tryd.f33 5) false))) (.region 6 (rg Tryd.f33 6) false))))))) (.seq (.region 7 (rg Tryd.f33 7) false) (.ret))))) := by kernel_rfl

set_option maxRecDepth 100000 in
set_option maxHeartbeats 8000000 in
theorem numbers_c (s : Bytes) (hb : s.length ≤ 100000) : Pure Tryd.prog 33 [tc (st s)] (vc (AL.Fnv.slI (numbersS s))) := by
  refine Pure.of_body Tryd.func33 f33_body (by kernel_rfl) Tryd.ntmps33 (by kernel_rfl) (by kernel_rfl) ?_
  have hsl := Policy.split_le 44 s
  refine AMx.seq ?_
  refine AMx.region (ces := []) (ks := [0]) (hs := []) (cs := []) (s' := AS.lst 20 [(0, vc (st s))] []) (by kernel_rfl) ?_ ?_
  · exact trivial
  refine AMx.seq ?_
  refine AMx.region (ces := []) (ks := [0, 3]) (hs := []) (cs := []) (s' := AS.lst 20 [(0, vc (st s)), (3, vc (SC.nilsl))] []) (by kernel_rfl) ?_ ?_
  · exact trivial
  refine AMx.seq ?_
  refine AMx.seq ?_
  refine AMx.region (ces := [(1, CE.call [] [] (vc (AL.Fnv.slS (AL.Sep.splitC 44 s))) [])]) (ks := [3, 7, 8, 9]) (hs := []) (cs := [Spec Tryd.prog 21 [tc (st s), tc (st [44])] (ofH []) (vc (AL.Fnv.slS (AL.Sep.splitC 44 s))) (ofH [])]) (s' := AS.lst 20 [(3, vc (SC.nilsl)), (7, vc (AL.Fnv.slS (AL.Sep.splitC 44 s))), (8, vc (i6 (List.length (AL.Sep.splitC 44 s : List Bytes) : Int))), (9, vc (i6 0))] []) (by kernel_rfl) ?_ ?_
  · exact (AL.Sep.Split_c 44 s (by first | omega | (simp only [List.length_append, List.length_cons, List.length_nil, List.length_replicate, List.length_map, List.length_take, List.length_drop, hex_len]; omega)))
  refine AMx.block ?_
  refine AMx.ent (s' := AS.lst 20 [(3, vo 3), (7, vc (AL.Fnv.slS (AL.Sep.splitC 44 s))), (8, vc (i6 (List.length (AL.Sep.splitC 44 s : List Bytes) : Int))), (9, vc (i6 0))] [(3, AObj.grow 3 1 Int 0 AL.Fnv.rowI [])]) (ent_adopt (t := 3) (d := 3) 3 1 Int 0 AL.Fnv.rowI (by kernel_rfl) (by kernel_rfl) (by kernel_rfl) (by kernel_rfl)) ?_
  refine AMx.ent (s' := AS.lst 20 [(3, vo 3), (7, vc (AL.Fnv.slS (AL.Sep.splitC 44 s))), (8, vc (i6 (List.length (AL.Sep.splitC 44 s : List Bytes) : Int))), (9, vc (i6 0))] [(3, AObj.grow 3 1 Int 0 AL.Fnv.rowI [])]) (ent_proj [3, 7, 8, 9] [3]) ?_
  refine AMx.loop (fun mm ss => ∃ (k : Nat), (k ≤ (AL.Sep.splitC 44 s).length) ∧ mm = (AL.Sep.splitC 44 s).length - k ∧ ss = AS.lst 20 [(3, vo 3), (7, vc (AL.Fnv.slS (AL.Sep.splitC 44 s))), (8, vc (i6 (List.length (AL.Sep.splitC 44 s : List Bytes) : Int))), (9, vc (i6 (k : Int)))] [(3, AObj.grow 3 1 Int 0 AL.Fnv.rowI ((List.take k (AL.Sep.splitC 44 s)).map scanN))]) ⟨0, ?_, rfl, ?_⟩ ?_
  · omega
  · rfl
  rintro mm ss ⟨k, hI, rfl, rfl⟩
  refine AMx.seq ?_
  refine AMx.region (ces := []) (ks := [3, 7, 8, 9, 10]) (hs := [3]) (cs := []) (s' := AS.lst 20 [(3, vo 3), (7, vc (AL.Fnv.slS (AL.Sep.splitC 44 s))), (8, vc (i6 (List.length (AL.Sep.splitC 44 s : List Bytes) : Int))), (9, vc (i6 (k : Int))), (10, vc (bo (decide ((k : Int) < (List.length (AL.Sep.splitC 44 s : List Bytes) : Int)))))] [(3, AObj.grow 3 1 Int 0 AL.Fnv.rowI ((List.take k (AL.Sep.splitC 44 s)).map scanN))]) (by kernel_rfl) ?_ ?_
  · exact trivial
  refine AMx.seq ?_
  refine AMx.cond (b := decide ((k : Int) < (List.length (AL.Sep.splitC 44 s : List Bytes) : Int))) (by kernel_rfl) (fun hc1 => ?_) (fun hc1 => ?_)
  · try simp only [decide_eq_true_eq, decide_eq_false_iff_not] at hc1
    refine AMx.skip ?_
    refine AMx.seq ?_
    refine AMx.block ?_
    refine AMx.seq ?_
    refine AMx.region (ces := []) (ks := [3, 5, 7, 8, 9]) (hs := [3]) (cs := [(0 : Int) ≤ (k : Int), (k : Int) < List.length (AL.Sep.splitC 44 s : List Bytes)]) (s' := AS.lst 20 [(3, vo 3), (5, vc (st (List.getD (AL.Sep.splitC 44 s) k []))), (7, vc (AL.Fnv.slS (AL.Sep.splitC 44 s))), (8, vc (i6 (List.length (AL.Sep.splitC 44 s : List Bytes) : Int))), (9, vc (i6 (k : Int)))] [(3, AObj.grow 3 1 Int 0 AL.Fnv.rowI ((List.take k (AL.Sep.splitC 44 s)).map scanN))]) (by kernel_rfl) ?_ ?_
    · exact ⟨(show (0 : Int) ≤ (k : Int) from (by first | omega | (simp only [List.length_append, List.length_cons, List.length_nil, List.length_replicate, List.length_map, List.length_take, List.length_drop, hex_len]; omega))), (show (k : Int) < List.length (AL.Sep.splitC 44 s : List Bytes) from (by first | omega | (simp only [List.length_append, List.length_cons, List.length_nil, List.length_replicate, List.length_map, List.length_take, List.length_drop, hex_len]; omega)))⟩
    refine AMx.region (ces := [(2, CE.call [] [] (vc (i6 (scanN (List.getD (AL.Sep.splitC 44 s) k [])))) []), (3, CE.obj (AObj.grow 3 1 Int 0 AL.Fnv.rowI [scanN (List.getD (AL.Sep.splitC 44 s) k [])])), (4, CE.obj (AObj.grow 3 1 Int 0 AL.Fnv.rowI (((List.take k (AL.Sep.splitC 44 s)).map scanN) ++ [scanN (List.getD (AL.Sep.splitC 44 s) k [])])))]) (ks := [3, 7, 8, 9]) (hs := [17]) (cs := [Spec Tryd.prog 31 [tc (st (List.getD (AL.Sep.splitC 44 s) k []))] (ofH []) (vc (i6 (scanN (List.getD (AL.Sep.splitC 44 s) k [])))) (ofH []), flat 1 AL.Fnv.rowI [scanN (List.getD (AL.Sep.splitC 44 s) k [])] = [.s (i6 (scanN (List.getD (AL.Sep.splitC 44 s) k [])))], List.length ([scanN (List.getD (AL.Sep.splitC 44 s) k [])] : List Int) = 1, AppC (flat 1 AL.Fnv.rowI [scanN (List.getD (AL.Sep.splitC 44 s) k [])]) (List.length ([scanN (List.getD (AL.Sep.splitC 44 s) k [])] : List Int)) 8 (AObj.grow 3 1 Int 0 AL.Fnv.rowI ((List.take k (AL.Sep.splitC 44 s)).map scanN)) (AObj.grow 3 1 Int 0 AL.Fnv.rowI (((List.take k (AL.Sep.splitC 44 s)).map scanN) ++ [scanN (List.getD (AL.Sep.splitC 44 s) k [])]))]) (s' := AS.lst 20 [(3, vo 17), (7, vc (AL.Fnv.slS (AL.Sep.splitC 44 s))), (8, vc (i6 (List.length (AL.Sep.splitC 44 s : List Bytes) : Int))), (9, vc (i6 (k : Int)))] [(17, AObj.grow 3 1 Int 0 AL.Fnv.rowI (((List.take k (AL.Sep.splitC 44 s)).map scanN) ++ [scanN (List.getD (AL.Sep.splitC 44 s) k [])]))]) (by kernel_rfl) ?_ ?_
    · exact ⟨(numberOf_c (List.getD (AL.Sep.splitC 44 s) k [])), rfl, rfl, (⟨_, rfl, rfl, rfl, by simp only [List.length_append, List.length_cons, List.length_nil, List.length_replicate, List.length_map, List.length_take, List.length_drop, hex_len]; omega, by simp only [maxLen, List.length_append, List.length_cons, List.length_nil, List.length_replicate, List.length_map, List.length_take, List.length_drop, hex_len]; omega⟩)⟩
    refine AMx.blk ?_
    refine AMx.region (ces := []) (ks := [3, 7, 8, 9]) (hs := [17]) (cs := [InR .i64 ((k : Int) + 1)]) (s' := AS.lst 20 [(3, vo 17), (7, vc (AL.Fnv.slS (AL.Sep.splitC 44 s))), (8, vc (i6 (List.length (AL.Sep.splitC 44 s : List Bytes) : Int))), (9, vc (i6 ((k : Int) + 1)))] [(17, AObj.grow 3 1 Int 0 AL.Fnv.rowI (((List.take k (AL.Sep.splitC 44 s)).map scanN) ++ [scanN (List.getD (AL.Sep.splitC 44 s) k [])]))]) (by kernel_rfl) ?_ ?_
    · exact (show InR .i64 ((k : Int) + 1) from (inR64 (by first | omega | (simp only [List.length_append, List.length_cons, List.length_nil, List.length_replicate, List.length_map, List.length_take, List.length_drop, hex_len]; omega)) (by first | omega | (simp only [List.length_append, List.length_cons, List.length_nil, List.length_replicate, List.length_map, List.length_take, List.length_drop, hex_len]; omega))))
    refine AMx.ent_inv (s' := AS.lst 20 [(3, vo 3), (7, vc (AL.Fnv.slS (AL.Sep.splitC 44 s))), (8, vc (i6 (List.length (AL.Sep.splitC 44 s : List Bytes) : Int))), (9, vc (i6 ((k : Int) + 1)))] [(3, AObj.grow 3 1 Int 0 AL.Fnv.rowI (((List.take k (AL.Sep.splitC 44 s)).map scanN) ++ [scanN (List.getD (AL.Sep.splitC 44 s) k [])]))]) (ent_swap 17 3 (by kernel_rfl) (by kernel_rfl)) ?_
    refine AMx.ent_inv (s' := AS.lst 20 [(3, vo 3), (7, vc (AL.Fnv.slS (AL.Sep.splitC 44 s))), (8, vc (i6 (List.length (AL.Sep.splitC 44 s : List Bytes) : Int))), (9, vc (i6 ((k : Int) + 1)))] [(3, AObj.grow 3 1 Int 0 AL.Fnv.rowI (((List.take k (AL.Sep.splitC 44 s)).map scanN) ++ [scanN (List.getD (AL.Sep.splitC 44 s) k [])]))]) (ent_proj [3, 7, 8, 9] [3]) ?_
    refine AMx.inv ⟨_, ?_, k + 1, ?_, rfl, ?_⟩
    rotate_left
    · omega
    · rw [← scans_step (AL.Sep.splitC 44 s) k (by omega)]; rfl
    · omega
  · try simp only [decide_eq_true_eq, decide_eq_false_iff_not] at hc1
    refine AMx.exit ?_
    refine AMx.code_exit ?_
    refine AMx.inv_exit ?_
    refine AMx.blk_exit ?_
    rw [show List.take k (AL.Sep.splitC 44 s) = AL.Sep.splitC 44 s from List.take_of_length_le (by omega)]
    refine AMx.seq ?_
    refine AMx.region (ces := []) (ks := [2]) (hs := [3]) (cs := []) (s' := AS.lst 20 [(2, vo 3)] [(3, AObj.grow 3 1 Int 0 AL.Fnv.rowI ((AL.Sep.splitC 44 s).map scanN))]) (by kernel_rfl) ?_ ?_
    · exact trivial
    refine AMx.ent (s' := AS.lst 20 [(2, vc (AL.Fnv.slI ((AL.Sep.splitC 44 s).map scanN)))] []) (ent_freeze (id := 3) (T := 3) (by kernel_rfl)) ?_
    refine AMx.ret ?_
    exact RetP.mk (r := vc (AL.Fnv.slI ((AL.Sep.splitC 44 s).map scanN))) (by kernel_rfl) rfl

end AL.Ask
