/- The proof library and the contracts that the law reaches: joined by a program. No condition. -/
import Derived.Test.YtkhmigadepihdaaDoorRPa
namespace AL.Reply
open Go Go.Proofs AL
set_option linter.unusedVariables false
set_option linter.unusedSimpArgs false
end AL.Reply
namespace AL.Ask
open Go Go.Proofs AL
set_option linter.unusedVariables false
set_option linter.unusedSimpArgs false
theorem f84_body : Tryd.f84.body = some (.seq (.region 0 (rg Tryd.f84 0) false) (.seq (.block 0 (.seq (.region 1 (rg Tryd.f84 1) false) (.cond (.tmp 3) (.seq (.region 2 (rg Tryd.f84 2) false) (.ret)) (.seq (.region 3 (rg Tryd.f84 3) false) (.cond (.tmp 13) (.seq (.region 4 (rg Tryd.f84 4) false) (.ret)) (.skip)))))) (.seq (.region 5 (rg Tryd.f84 5) false) (.ret)))) := by kernel_rfl
set_option maxRecDepth 100000 in
set_option maxHeartbeats 8000000 in
theorem digit_c (b : UInt8) : Pure Tryd.prog 84 [tc (u8 (b.toNat : Int))] (vc (i6 (digV b))) := by
 refine Pure.of_body Tryd.func84 f84_body (by kernel_rfl) Tryd.ntmps84 (by kernel_rfl) (by kernel_rfl) ?_
 refine gS [] [] 24 [(0, vc (u8 (b.toNat : Int)))] [] trivial ?_
 refine gQ ?_
 refine AMx.block ?_
 refine gS [] [((decide (48 ≤ (b.toNat : Int))) = true) → allP [], ((decide (48 ≤ (b.toNat : Int))) = true) → allP [(decide (48 ≤ (b.toNat : Int))) = true], (decide (48 ≤ (b.toNat : Int))) = true → allP [(decide (48 ≤ (b.toNat : Int))) = true]] 24 [(0, vc (u8 (b.toNat : Int))), (3, vc (bo ((decide (48 ≤ (b.toNat : Int))) && (decide ((b.toNat : Int) ≤ 57)))))] [] ⟨(fun _ => trivial), (fun hp => hp), (fun hp2 => (by first | exact hp2 | exact ⟨hp, hp2⟩))⟩ ?_
 refine gB (((decide (48 ≤ (b.toNat : Int))) && (decide ((b.toNat : Int) ≤ 57)))) (fun hc1 => ?_) fun hc1 => ?_
 ·
  try simp only [xT, xF, xA, xB] at hc1
  refine gS [] [] 24 [(2, vc (i6 (IntKind.wrap .u8 ((b.toNat : Int) - 48))))] [] trivial ?_
  rw [show IntKind.wrap .u8 ((b.toNat : Int) - 48) = (b.toNat : Int) - 48 from wrap_u8 (by omega) (by have := UInt8.toNat_lt b; omega)]
  exact gT (vc (i6 ((b.toNat : Int) - 48))) (by rw [show digV b = (b.toNat : Int) - 48 from dig_1 (by omega)])
 ·
  try simp only [xT, xF, xA, xB] at hc1
  refine gS [] [((decide (97 ≤ (b.toNat : Int))) = true) → allP [], ((decide (97 ≤ (b.toNat : Int))) = true) → allP [(decide (97 ≤ (b.toNat : Int))) = true], (decide (97 ≤ (b.toNat : Int))) = true → allP [(decide (97 ≤ (b.toNat : Int))) = true]] 24 [(0, vc (u8 (b.toNat : Int))), (13, vc (bo ((decide (97 ≤ (b.toNat : Int))) && (decide ((b.toNat : Int) ≤ 102)))))] [] ⟨(fun _ => trivial), (fun hp => hp), (fun hp2 => (by first | exact hp2 | exact ⟨hp, hp2⟩))⟩ ?_
  refine gB (((decide (97 ≤ (b.toNat : Int))) && (decide ((b.toNat : Int) ≤ 102)))) (fun hc2 => ?_) fun hc2 => ?_
  ·
   try simp only [xT, xF, xA, xB] at hc2
   refine gS [] [InR .i64 ((IntKind.wrap .u8 ((b.toNat : Int) - 97)) + 10)] 24 [(2, vc (i6 ((IntKind.wrap .u8 ((b.toNat : Int) - 97)) + 10)))] [] (show InR .i64 ((IntKind.wrap .u8 ((b.toNat : Int) - 97)) + 10) from (inR64 (by first | omega | (have hb := UInt8.toNat_lt b; first | omega | (have hw := wrap_u8 (n := (b.toNat : Int) - 97) (by omega) (by omega); omega))) (by first | omega | (have hb := UInt8.toNat_lt b; first | omega | (have hw := wrap_u8 (n := (b.toNat : Int) - 97) (by omega) (by omega); omega))))) ?_
   rw [show IntKind.wrap .u8 ((b.toNat : Int) - 97) = (b.toNat : Int) - 97 from wrap_u8 (by omega) (by have := UInt8.toNat_lt b; omega)]
   exact gT (vc (i6 (((b.toNat : Int) - 97) + 10))) (by rw [show digV b = ((b.toNat : Int) - 97) + 10 from dig_2 (by omega)])
  ·
   try simp only [xT, xF, xA, xB] at hc2
   refine AMx.skip ?_
   refine AMx.blk ?_
   refine gS [] [] 24 [(2, vc (i6 (-1)))] [] trivial ?_
   exact gT (vc (i6 (-1))) (by rw [show digV b = (-1) from dig_3 (by omega)])
theorem f52_body : Tryd.f52.body = some (.seq (.region 0 (rg Tryd.f52 0) false) (.seq (.region 1 (rg Tryd.f52 1) false) (.seq (.seq (.region 2 (rg Tryd.f52 2) false) (.block 0 (.loop (.seq (.region 3 (rg Tryd.f52 3) false) (.seq (.cond (.tmp 14) (.skip) (.exit 0)) (.seq (.block 1 (.seq (.region 4 (rg Tryd.f52 4) false) (.region 5 (rg Tryd.f52 5) true))) (.region 6 (rg Tryd.f52 6) false))))))) (.seq (.region 7 (rg Tryd.f52 7) false) (.ret))))) := by kernel_rfl
set_option maxRecDepth 100000 in
set_option maxHeartbeats 8000000 in
theorem Hex_c (s : Bytes) (hb : s.length ≤ 100000) : Pure Tryd.prog 52 [tc (st s)] (vc (st (hexS s))) := by
 refine Pure.of_body Tryd.func52 f52_body (by kernel_rfl) Tryd.ntmps52 (by kernel_rfl) (by kernel_rfl) ?_
 refine gS [] [] 29 [(0, vc (st s))] [] trivial ?_
 refine gS [(3, CE.obj (AObj.grow 5 1 UInt8 0 rowU8 (List.replicate 0 0)))] [InR .i64 (2 * (List.length s : Int)), 0 ≤ (0 : Int), (0 : Int) ≤ 2 * (List.length s : Int), (1 : Int) * (2 * (List.length s : Int)) ≤ 281474976710656, 2 * (List.length s : Int) ≤ 9223372036854775807, MakeC 0 [.s (u8 0)] (AObj.grow 5 1 UInt8 0 rowU8 (List.replicate 0 0))] 29 [(0, vc (st s)), (3, vo 9)] [(9, AObj.grow 5 1 UInt8 0 rowU8 (List.replicate 0 0))] ⟨(show InR .i64 (2 * (List.length s : Int)) from (inR64 (by first | omega | (have hq := UInt8.toNat_lt (List.getD s k 0); have hr := hex_idx (List.getD s k 0).toNat hq; first | omega | ((try simp only [List.length_append, List.length_cons, List.length_nil, List.length_replicate, List.length_map, List.length_take, List.length_drop, hex_len]); omega))) (by first | omega | (have hq := UInt8.toNat_lt (List.getD s k 0); have hr := hex_idx (List.getD s k 0).toNat hq; first | omega | ((try simp only [List.length_append, List.length_cons, List.length_nil, List.length_replicate, List.length_map, List.length_take, List.length_drop, hex_len]); omega))))), (show 0 ≤ (0 : Int) from (by first | omega | (have hq := UInt8.toNat_lt (List.getD s k 0); have hr := hex_idx (List.getD s k 0).toNat hq; first | omega | ((try simp only [List.length_append, List.length_cons, List.length_nil, List.length_replicate, List.length_map, List.length_take, List.length_drop, hex_len]); omega)))), (show (0 : Int) ≤ 2 * (List.length s : Int) from (by first | omega | (have hq := UInt8.toNat_lt (List.getD s k 0); have hr := hex_idx (List.getD s k 0).toNat hq; first | omega | ((try simp only [List.length_append, List.length_cons, List.length_nil, List.length_replicate, List.length_map, List.length_take, List.length_drop, hex_len]); omega)))), (show (1 : Int) * (2 * (List.length s : Int)) ≤ 281474976710656 from (by first | omega | (have hq := UInt8.toNat_lt (List.getD s k 0); have hr := hex_idx (List.getD s k 0).toNat hq; first | omega | ((try simp only [List.length_append, List.length_cons, List.length_nil, List.length_replicate, List.length_map, List.length_take, List.length_drop, hex_len]); omega)))), (show 2 * (List.length s : Int) ≤ 9223372036854775807 from (by first | omega | (have hq := UInt8.toNat_lt (List.getD s k 0); have hr := hex_idx (List.getD s k 0).toNat hq; first | omega | ((try simp only [List.length_append, List.length_cons, List.length_nil, List.length_replicate, List.length_map, List.length_take, List.length_drop, hex_len]); omega)))), (⟨_, rfl, rfl⟩)⟩ ?_
 refine gQ ?_
 refine gS [] [] 29 [(3, vo 9), (11, vc (SC.sl 1 UInt8 0 rowU8 s)), (12, vc (i6 (List.length s : Int))), (13, vc (i6 0))] [(9, AObj.grow 5 1 UInt8 0 rowU8 (List.replicate 0 0))] trivial ?_
 refine AMx.block ?_
 refine AMx.ent (s' := AS.lst 29 [(3, vo 9), (11, vc (SC.sl 1 UInt8 0 rowU8 s)), (12, vc (i6 (List.length s : Int))), (13, vc (i6 0))] [(9, AObj.grow 5 1 UInt8 0 rowU8 (List.replicate 0 0))]) (ent_proj [3, 11, 12, 13] [9]) ?_
 refine AMx.loop (fun mm ss => ∃ (k : Nat), (k ≤ s.length) ∧ mm = s.length - k ∧ ss = AS.lst 29 [(3, vo 9), (11, vc (SC.sl 1 UInt8 0 rowU8 s)), (12, vc (i6 (List.length s : Int))), (13, vc (i6 (k : Int)))] [(9, AObj.grow 5 1 UInt8 0 rowU8 (hexS (List.take k s)))]) ⟨0, ?_, rfl, ?_⟩ ?_
 · omega
 · rfl
 rintro mm ss ⟨k, hI, rfl, rfl⟩
 refine gS [] [] 29 [(3, vo 9), (11, vc (SC.sl 1 UInt8 0 rowU8 s)), (12, vc (i6 (List.length s : Int))), (13, vc (i6 (k : Int))), (14, vc (bo (decide ((k : Int) < (List.length s : Int)))))] [(9, AObj.grow 5 1 UInt8 0 rowU8 (hexS (List.take k s)))] trivial ?_
 refine gQ ?_
 refine gC ((k : Int) < (List.length s : Int)) (fun hc1 => ?_) fun hc1 => ?_
 ·
  refine AMx.skip ?_
  refine gQ ?_
  refine AMx.block ?_
  refine gS [] [(0 : Int) ≤ (k : Int), (k : Int) < List.length s] 29 [(3, vo 9), (5, vc (u8 ((List.getD s k 0).toNat : Int))), (11, vc (SC.sl 1 UInt8 0 rowU8 s)), (12, vc (i6 (List.length s : Int))), (13, vc (i6 (k : Int)))] [(9, AObj.grow 5 1 UInt8 0 rowU8 (hexS (List.take k s)))] ⟨(show (0 : Int) ≤ (k : Int) from (by first | omega | (have hq := UInt8.toNat_lt (List.getD s k 0); have hr := hex_idx (List.getD s k 0).toNat hq; first | omega | ((try simp only [List.length_append, List.length_cons, List.length_nil, List.length_replicate, List.length_map, List.length_take, List.length_drop, hex_len]); omega)))), (show (k : Int) < List.length s from (by first | omega | (have hq := UInt8.toNat_lt (List.getD s k 0); have hr := hex_idx (List.getD s k 0).toNat hq; first | omega | ((try simp only [List.length_append, List.length_cons, List.length_nil, List.length_replicate, List.length_map, List.length_take, List.length_drop, hex_len]); omega))))⟩ ?_
  refine gX [(7, CE.obj (AObj.grow 5 1 UInt8 0 rowU8 (hexB (List.getD s k 0)))), (8, CE.obj (AObj.grow 5 1 UInt8 0 rowU8 ((hexS (List.take k s)) ++ (hexB (List.getD s k 0)))))] [(8, [9, 24])] [(0 : Int) ≤ 4, (0 : Int) ≤ Int.fdiv ((List.getD s k 0).toNat : Int) (2 ^ (min (4 : Int).toNat (IntKind.bits .u8))), Int.fdiv ((List.getD s k 0).toNat : Int) (2 ^ (min (4 : Int).toNat (IntKind.bits .u8))) < List.length ([48, 49, 50, 51, 52, 53, 54, 55, 56, 57, 97, 98, 99, 100, 101, 102] : List UInt8), (0 : Int) ≤ IntKind.wrap .u8 ((BitVec.ofInt 8 ((List.getD s k 0).toNat : Int) &&& BitVec.ofInt 8 15).toNat), IntKind.wrap .u8 ((BitVec.ofInt 8 ((List.getD s k 0).toNat : Int) &&& BitVec.ofInt 8 15).toNat) < List.length ([48, 49, 50, 51, 52, 53, 54, 55, 56, 57, 97, 98, 99, 100, 101, 102] : List UInt8), flat 1 rowU8 (hexB (List.getD s k 0)) = [.s (u8 ((List.getD ([48, 49, 50, 51, 52, 53, 54, 55, 56, 57, 97, 98, 99, 100, 101, 102] : List UInt8) (Int.fdiv ((List.getD s k 0).toNat : Int) (2 ^ (min (4 : Int).toNat (IntKind.bits .u8)))).toNat 0).toNat : Int)), .s (u8 ((List.getD ([48, 49, 50, 51, 52, 53, 54, 55, 56, 57, 97, 98, 99, 100, 101, 102] : List UInt8) (IntKind.wrap .u8 ((BitVec.ofInt 8 ((List.getD s k 0).toNat : Int) &&& BitVec.ofInt 8 15).toNat)).toNat 0).toNat : Int))], List.length (hexB (List.getD s k 0) : List UInt8) = 2, AppC (flat 1 rowU8 (hexB (List.getD s k 0))) (List.length (hexB (List.getD s k 0) : List UInt8)) 1 (AObj.grow 5 1 UInt8 0 rowU8 (hexS (List.take k s))) (AObj.grow 5 1 UInt8 0 rowU8 ((hexS (List.take k s)) ++ (hexB (List.getD s k 0))))] 29 [(3, vo 25), (11, vc (SC.sl 1 UInt8 0 rowU8 s)), (12, vc (i6 (List.length s : Int))), (13, vc (i6 (k : Int)))] [(25, AObj.grow 5 1 UInt8 0 rowU8 ((hexS (List.take k s)) ++ (hexB (List.getD s k 0))))] mixed ⟨(show (0 : Int) ≤ 4 from (by first | omega | (have hq := UInt8.toNat_lt (List.getD s k 0); have hr := hex_idx (List.getD s k 0).toNat hq; first | omega | ((try simp only [List.length_append, List.length_cons, List.length_nil, List.length_replicate, List.length_map, List.length_take, List.length_drop, hex_len]); omega)))), (show (0 : Int) ≤ Int.fdiv ((List.getD s k 0).toNat : Int) (2 ^ (min (4 : Int).toNat (IntKind.bits .u8))) from (by first | omega | (have hq := UInt8.toNat_lt (List.getD s k 0); have hr := hex_idx (List.getD s k 0).toNat hq; first | omega | ((try simp only [List.length_append, List.length_cons, List.length_nil, List.length_replicate, List.length_map, List.length_take, List.length_drop, hex_len]); omega)))), (show Int.fdiv ((List.getD s k 0).toNat : Int) (2 ^ (min (4 : Int).toNat (IntKind.bits .u8))) < List.length ([48, 49, 50, 51, 52, 53, 54, 55, 56, 57, 97, 98, 99, 100, 101, 102] : List UInt8) from (by first | omega | (have hq := UInt8.toNat_lt (List.getD s k 0); have hr := hex_idx (List.getD s k 0).toNat hq; first | omega | ((try simp only [List.length_append, List.length_cons, List.length_nil, List.length_replicate, List.length_map, List.length_take, List.length_drop, hex_len]); omega)))), (show (0 : Int) ≤ IntKind.wrap .u8 ((BitVec.ofInt 8 ((List.getD s k 0).toNat : Int) &&& BitVec.ofInt 8 15).toNat) from (by first | omega | (have hq := UInt8.toNat_lt (List.getD s k 0); have hr := hex_idx (List.getD s k 0).toNat hq; first | omega | ((try simp only [List.length_append, List.length_cons, List.length_nil, List.length_replicate, List.length_map, List.length_take, List.length_drop, hex_len]); omega)))), (show IntKind.wrap .u8 ((BitVec.ofInt 8 ((List.getD s k 0).toNat : Int) &&& BitVec.ofInt 8 15).toNat) < List.length ([48, 49, 50, 51, 52, 53, 54, 55, 56, 57, 97, 98, 99, 100, 101, 102] : List UInt8) from (by first | omega | (have hq := UInt8.toNat_lt (List.getD s k 0); have hr := hex_idx (List.getD s k 0).toNat hq; first | omega | ((try simp only [List.length_append, List.length_cons, List.length_nil, List.length_replicate, List.length_map, List.length_take, List.length_drop, hex_len]); omega)))), (hex_two (List.getD s k 0)), rfl, (⟨_, rfl, rfl, rfl, by simp only [hexB, List.length_append, List.length_cons, List.length_nil, List.length_replicate, List.length_map, List.length_take, List.length_drop, hex_len]; omega, by simp only [hexB, maxLen, List.length_append, List.length_cons, List.length_nil, List.length_replicate, List.length_map, List.length_take, List.length_drop, hex_len]; omega⟩)⟩ ?_
  refine AMx.blk ?_
  refine gR [] [InR .i64 ((k : Int) + 1)] 29 [(3, vo 25), (11, vc (SC.sl 1 UInt8 0 rowU8 s)), (12, vc (i6 (List.length s : Int))), (13, vc (i6 ((k : Int) + 1)))] [(25, AObj.grow 5 1 UInt8 0 rowU8 ((hexS (List.take k s)) ++ (hexB (List.getD s k 0))))] (show InR .i64 ((k : Int) + 1) from (inR64 (by first | omega | (have hq := UInt8.toNat_lt (List.getD s k 0); have hr := hex_idx (List.getD s k 0).toNat hq; first | omega | ((try simp only [List.length_append, List.length_cons, List.length_nil, List.length_replicate, List.length_map, List.length_take, List.length_drop, hex_len]); omega))) (by first | omega | (have hq := UInt8.toNat_lt (List.getD s k 0); have hr := hex_idx (List.getD s k 0).toNat hq; first | omega | ((try simp only [List.length_append, List.length_cons, List.length_nil, List.length_replicate, List.length_map, List.length_take, List.length_drop, hex_len]); omega))))) ?_
  refine AMx.ent_inv (s' := AS.lst 29 [(3, vo 9), (11, vc (SC.sl 1 UInt8 0 rowU8 s)), (12, vc (i6 (List.length s : Int))), (13, vc (i6 ((k : Int) + 1)))] [(9, AObj.grow 5 1 UInt8 0 rowU8 ((hexS (List.take k s)) ++ (hexB (List.getD s k 0))))]) (ent_swap 25 9 (by kernel_rfl) (by kernel_rfl)) ?_
  refine AMx.ent_inv (s' := AS.lst 29 [(3, vo 9), (11, vc (SC.sl 1 UInt8 0 rowU8 s)), (12, vc (i6 (List.length s : Int))), (13, vc (i6 ((k : Int) + 1)))] [(9, AObj.grow 5 1 UInt8 0 rowU8 ((hexS (List.take k s)) ++ (hexB (List.getD s k 0))))]) (ent_proj [3, 11, 12, 13] [9]) ?_
  refine AMx.inv ⟨_, ?_, k + 1, ?_, rfl, ?_⟩
  rotate_left
  · omega
  · rw [← hex_step s k (by omega)]; rfl
  · omega
 ·
  refine AMx.exit ?_
  refine AMx.code_exit ?_
  refine AMx.inv_exit ?_
  refine AMx.blk_exit ?_
  rw [show List.take k s = s from List.take_of_length_le (by omega)]
  refine gS [(1, CE.str (hexS s))] [flat 1 rowU8 (hexS s) = flat 1 rowU8 (hexS s), List.length (hexS s : List UInt8) = List.length (hexS s : List UInt8), (List.length (hexS s : List UInt8) : Int) ≤ 140737488355328] 29 [(2, vc (st (hexS s)))] [] ⟨rfl, rfl, (show (List.length (hexS s : List UInt8) : Int) ≤ 140737488355328 from (by first | omega | (have hq := UInt8.toNat_lt (List.getD s k 0); have hr := hex_idx (List.getD s k 0).toNat hq; first | omega | ((try simp only [List.length_append, List.length_cons, List.length_nil, List.length_replicate, List.length_map, List.length_take, List.length_drop, hex_len]); omega))))⟩ ?_
  exact gT (vc (st (hexS s))) rfl
theorem f24_body : Tryd.f24.body = some (.seq (.region 0 (rg Tryd.f24 0) false) (.seq (.region 1 (rg Tryd.f24 1) false) (.seq (.region 2 (rg Tryd.f24 2) false) (.seq (.seq (.region 3 (rg Tryd.f24 3) false) (.block 0 (.loop (.seq (.seq (.region 4 (rg Tryd.f24 4) false) (.cond (.tmp 9) (.skip) (.exit 0))) (.seq (.block 1 (.region 6 (rg Tryd.f24 6) true)) (.region 5 (rg Tryd.f24 5) false)))))) (.seq (.region 7 (rg Tryd.f24 7) false) (.ret)))))) := by kernel_rfl
set_option maxRecDepth 100000 in
set_option maxHeartbeats 8000000 in
theorem RHex_c (s : Bytes) (hb : s.length ≤ 100000) : Pure Tryd.prog 24 [tc (st s)] (vc (st (hexS s))) := by
 refine Pure.of_body Tryd.func24 f24_body (by kernel_rfl) Tryd.ntmps24 (by kernel_rfl) (by kernel_rfl) ?_
 refine gS [] [] 29 [(0, vc (st s))] [] trivial ?_
 refine gS [] [] 29 [(0, vc (st s)), (3, vc (st [48, 49, 50, 51, 52, 53, 54, 55, 56, 57, 97, 98, 99, 100, 101, 102]))] [] trivial ?_
 refine gS [] [] 29 [(0, vc (st s)), (3, vc (st [48, 49, 50, 51, 52, 53, 54, 55, 56, 57, 97, 98, 99, 100, 101, 102])), (4, vc (SC.nilsl))] [] trivial ?_
 refine gQ ?_
 refine gS [] [] 29 [(0, vc (st s)), (3, vc (st [48, 49, 50, 51, 52, 53, 54, 55, 56, 57, 97, 98, 99, 100, 101, 102])), (4, vc (SC.nilsl)), (5, vc (i6 0))] [] trivial ?_
 refine AMx.block ?_
 refine AMx.ent (s' := AS.lst 29 [(0, vc (st s)), (3, vc (st [48, 49, 50, 51, 52, 53, 54, 55, 56, 57, 97, 98, 99, 100, 101, 102])), (4, vo 4), (5, vc (i6 0))] [(4, AObj.grow 5 1 UInt8 0 rowU8 [])]) (ent_adopt (t := 4) (d := 4) 5 1 UInt8 0 rowU8 (by kernel_rfl) (by kernel_rfl) (by kernel_rfl) (by kernel_rfl)) ?_
 refine AMx.ent (s' := AS.lst 29 [(0, vc (st s)), (3, vc (st [48, 49, 50, 51, 52, 53, 54, 55, 56, 57, 97, 98, 99, 100, 101, 102])), (4, vo 4), (5, vc (i6 0))] [(4, AObj.grow 5 1 UInt8 0 rowU8 [])]) (ent_proj [0, 3, 4, 5] [4]) ?_
 refine AMx.loop (fun mm ss => ∃ (i : Nat), (i ≤ s.length) ∧ mm = s.length - i ∧ ss = AS.lst 29 [(0, vc (st s)), (3, vc (st [48, 49, 50, 51, 52, 53, 54, 55, 56, 57, 97, 98, 99, 100, 101, 102])), (4, vo 4), (5, vc (i6 (i : Int)))] [(4, AObj.grow 5 1 UInt8 0 rowU8 (hexS (List.take i s)))]) ⟨0, ?_, rfl, ?_⟩ ?_
 · omega
 · rfl
 rintro mm ss ⟨i, hI, rfl, rfl⟩
 refine gQ ?_
 refine gS [] [] 29 [(0, vc (st s)), (3, vc (st [48, 49, 50, 51, 52, 53, 54, 55, 56, 57, 97, 98, 99, 100, 101, 102])), (4, vo 4), (5, vc (i6 (i : Int))), (9, vc (bo (decide ((i : Int) < (List.length s : Int)))))] [(4, AObj.grow 5 1 UInt8 0 rowU8 (hexS (List.take i s)))] trivial ?_
 refine gC ((i : Int) < (List.length s : Int)) (fun hc1 => ?_) fun hc1 => ?_
 ·
  refine AMx.skip ?_
  refine gQ ?_
  refine AMx.block ?_
  refine gX [(13, CE.obj (AObj.grow 5 1 UInt8 0 rowU8 (hexB (List.getD s i 0)))), (14, CE.obj (AObj.grow 5 1 UInt8 0 rowU8 ((hexS (List.take i s)) ++ (hexB (List.getD s i 0)))))] [(14, [4, 25])] [(0 : Int) ≤ (i : Int), (i : Int) < List.length s, (16 : Int) ≠ 0, (0 : Int) ≤ IntKind.wrap .u8 (Int.tdiv ((List.getD s i 0).toNat : Int) 16), IntKind.wrap .u8 (Int.tdiv ((List.getD s i 0).toNat : Int) 16) < List.length ([48, 49, 50, 51, 52, 53, 54, 55, 56, 57, 97, 98, 99, 100, 101, 102] : List UInt8), (0 : Int) ≤ (i : Int), (i : Int) < List.length s, (16 : Int) ≠ 0, (0 : Int) ≤ Int.tmod ((List.getD s i 0).toNat : Int) 16, Int.tmod ((List.getD s i 0).toNat : Int) 16 < List.length ([48, 49, 50, 51, 52, 53, 54, 55, 56, 57, 97, 98, 99, 100, 101, 102] : List UInt8), flat 1 rowU8 (hexB (List.getD s i 0)) = [.s (u8 ((List.getD ([48, 49, 50, 51, 52, 53, 54, 55, 56, 57, 97, 98, 99, 100, 101, 102] : List UInt8) (IntKind.wrap .u8 (Int.tdiv ((List.getD s i 0).toNat : Int) 16)).toNat 0).toNat : Int)), .s (u8 ((List.getD ([48, 49, 50, 51, 52, 53, 54, 55, 56, 57, 97, 98, 99, 100, 101, 102] : List UInt8) (Int.tmod ((List.getD s i 0).toNat : Int) 16).toNat 0).toNat : Int))], List.length (hexB (List.getD s i 0) : List UInt8) = 2, AppC (flat 1 rowU8 (hexB (List.getD s i 0))) (List.length (hexB (List.getD s i 0) : List UInt8)) 1 (AObj.grow 5 1 UInt8 0 rowU8 (hexS (List.take i s))) (AObj.grow 5 1 UInt8 0 rowU8 ((hexS (List.take i s)) ++ (hexB (List.getD s i 0))))] 29 [(0, vc (st s)), (3, vc (st [48, 49, 50, 51, 52, 53, 54, 55, 56, 57, 97, 98, 99, 100, 101, 102])), (4, vo 26), (5, vc (i6 (i : Int)))] [(26, AObj.grow 5 1 UInt8 0 rowU8 ((hexS (List.take i s)) ++ (hexB (List.getD s i 0))))] mixed ⟨(show (0 : Int) ≤ (i : Int) from (by first | omega | (have hq := UInt8.toNat_lt (List.getD s i 0); have hr := hex_idr (List.getD s i 0).toNat hq; first | omega | ((try simp only [List.length_append, List.length_cons, List.length_nil, List.length_replicate, List.length_map, List.length_take, List.length_drop, hex_len]); omega)))), (show (i : Int) < List.length s from (by first | omega | (have hq := UInt8.toNat_lt (List.getD s i 0); have hr := hex_idr (List.getD s i 0).toNat hq; first | omega | ((try simp only [List.length_append, List.length_cons, List.length_nil, List.length_replicate, List.length_map, List.length_take, List.length_drop, hex_len]); omega)))), (show (16 : Int) ≠ 0 from (by first | omega | (have hq := UInt8.toNat_lt (List.getD s i 0); have hr := hex_idr (List.getD s i 0).toNat hq; first | omega | ((try simp only [List.length_append, List.length_cons, List.length_nil, List.length_replicate, List.length_map, List.length_take, List.length_drop, hex_len]); omega)))), (show (0 : Int) ≤ IntKind.wrap .u8 (Int.tdiv ((List.getD s i 0).toNat : Int) 16) from (by first | omega | (have hq := UInt8.toNat_lt (List.getD s i 0); have hr := hex_idr (List.getD s i 0).toNat hq; first | omega | ((try simp only [List.length_append, List.length_cons, List.length_nil, List.length_replicate, List.length_map, List.length_take, List.length_drop, hex_len]); omega)))), (show IntKind.wrap .u8 (Int.tdiv ((List.getD s i 0).toNat : Int) 16) < List.length ([48, 49, 50, 51, 52, 53, 54, 55, 56, 57, 97, 98, 99, 100, 101, 102] : List UInt8) from (by first | omega | (have hq := UInt8.toNat_lt (List.getD s i 0); have hr := hex_idr (List.getD s i 0).toNat hq; first | omega | ((try simp only [List.length_append, List.length_cons, List.length_nil, List.length_replicate, List.length_map, List.length_take, List.length_drop, hex_len]); omega)))), (show (0 : Int) ≤ (i : Int) from (by first | omega | (have hq := UInt8.toNat_lt (List.getD s i 0); have hr := hex_idr (List.getD s i 0).toNat hq; first | omega | ((try simp only [List.length_append, List.length_cons, List.length_nil, List.length_replicate, List.length_map, List.length_take, List.length_drop, hex_len]); omega)))), (show (i : Int) < List.length s from (by first | omega | (have hq := UInt8.toNat_lt (List.getD s i 0); have hr := hex_idr (List.getD s i 0).toNat hq; first | omega | ((try simp only [List.length_append, List.length_cons, List.length_nil, List.length_replicate, List.length_map, List.length_take, List.length_drop, hex_len]); omega)))), (show (16 : Int) ≠ 0 from (by first | omega | (have hq := UInt8.toNat_lt (List.getD s i 0); have hr := hex_idr (List.getD s i 0).toNat hq; first | omega | ((try simp only [List.length_append, List.length_cons, List.length_nil, List.length_replicate, List.length_map, List.length_take, List.length_drop, hex_len]); omega)))), (show (0 : Int) ≤ Int.tmod ((List.getD s i 0).toNat : Int) 16 from (by first | omega | (have hq := UInt8.toNat_lt (List.getD s i 0); have hr := hex_idr (List.getD s i 0).toNat hq; first | omega | ((try simp only [List.length_append, List.length_cons, List.length_nil, List.length_replicate, List.length_map, List.length_take, List.length_drop, hex_len]); omega)))), (show Int.tmod ((List.getD s i 0).toNat : Int) 16 < List.length ([48, 49, 50, 51, 52, 53, 54, 55, 56, 57, 97, 98, 99, 100, 101, 102] : List UInt8) from (by first | omega | (have hq := UInt8.toNat_lt (List.getD s i 0); have hr := hex_idr (List.getD s i 0).toNat hq; first | omega | ((try simp only [List.length_append, List.length_cons, List.length_nil, List.length_replicate, List.length_map, List.length_take, List.length_drop, hex_len]); omega)))), (hex_twr (List.getD s i 0)), rfl, (⟨_, rfl, rfl, rfl, by simp only [hexB, List.length_append, List.length_cons, List.length_nil, List.length_replicate, List.length_map, List.length_take, List.length_drop, hex_len]; omega, by simp only [hexB, maxLen, List.length_append, List.length_cons, List.length_nil, List.length_replicate, List.length_map, List.length_take, List.length_drop, hex_len]; omega⟩)⟩ ?_
  refine AMx.blk ?_
  refine gR [] [InR .i64 ((i : Int) + 1)] 29 [(0, vc (st s)), (3, vc (st [48, 49, 50, 51, 52, 53, 54, 55, 56, 57, 97, 98, 99, 100, 101, 102])), (4, vo 26), (5, vc (i6 ((i : Int) + 1)))] [(26, AObj.grow 5 1 UInt8 0 rowU8 ((hexS (List.take i s)) ++ (hexB (List.getD s i 0))))] (show InR .i64 ((i : Int) + 1) from (inR64 (by first | omega | (have hq := UInt8.toNat_lt (List.getD s i 0); have hr := hex_idr (List.getD s i 0).toNat hq; first | omega | ((try simp only [List.length_append, List.length_cons, List.length_nil, List.length_replicate, List.length_map, List.length_take, List.length_drop, hex_len]); omega))) (by first | omega | (have hq := UInt8.toNat_lt (List.getD s i 0); have hr := hex_idr (List.getD s i 0).toNat hq; first | omega | ((try simp only [List.length_append, List.length_cons, List.length_nil, List.length_replicate, List.length_map, List.length_take, List.length_drop, hex_len]); omega))))) ?_
  refine AMx.ent_inv (s' := AS.lst 29 [(0, vc (st s)), (3, vc (st [48, 49, 50, 51, 52, 53, 54, 55, 56, 57, 97, 98, 99, 100, 101, 102])), (4, vo 4), (5, vc (i6 ((i : Int) + 1)))] [(4, AObj.grow 5 1 UInt8 0 rowU8 ((hexS (List.take i s)) ++ (hexB (List.getD s i 0))))]) (ent_swap 26 4 (by kernel_rfl) (by kernel_rfl)) ?_
  refine AMx.ent_inv (s' := AS.lst 29 [(0, vc (st s)), (3, vc (st [48, 49, 50, 51, 52, 53, 54, 55, 56, 57, 97, 98, 99, 100, 101, 102])), (4, vo 4), (5, vc (i6 ((i : Int) + 1)))] [(4, AObj.grow 5 1 UInt8 0 rowU8 ((hexS (List.take i s)) ++ (hexB (List.getD s i 0))))]) (ent_proj [0, 3, 4, 5] [4]) ?_
  refine AMx.inv ⟨_, ?_, i + 1, ?_, rfl, ?_⟩
  rotate_left
  · omega
  · rw [← hex_step s i (by omega)]; rfl
  · omega
 ·
  refine AMx.exit ?_
  refine AMx.code_exit ?_
  refine AMx.inv_exit ?_
  refine AMx.blk_exit ?_
  rw [show List.take i s = s from List.take_of_length_le (by omega)]
  refine gS [(1, CE.str (hexS s))] [flat 1 rowU8 (hexS s) = flat 1 rowU8 (hexS s), List.length (hexS s : List UInt8) = List.length (hexS s : List UInt8), (List.length (hexS s : List UInt8) : Int) ≤ 140737488355328] 29 [(2, vc (st (hexS s)))] [] ⟨rfl, rfl, (show (List.length (hexS s : List UInt8) : Int) ≤ 140737488355328 from (by first | omega | (have hq := UInt8.toNat_lt (List.getD s i 0); have hr := hex_idr (List.getD s i 0).toNat hq; first | omega | ((try simp only [List.length_append, List.length_cons, List.length_nil, List.length_replicate, List.length_map, List.length_take, List.length_drop, hex_len]); omega))))⟩ ?_
  exact gT (vc (st (hexS s))) rfl
theorem f75_body : Tryd.f75.body = some (.seq (.region 0 (rg Tryd.f75 0) false) (.seq (.seq (.region 1 (rg Tryd.f75 1) false) (.cond (.tmp 11) (.seq (.region 2 (rg Tryd.f75 2) false) (.ret)) (.skip))) (.seq (.region 3 (rg Tryd.f75 3) false) (.seq (.seq (.region 4 (rg Tryd.f75 4) false) (.block 0 (.loop (.seq (.seq (.region 5 (rg Tryd.f75 5) false) (.cond (.tmp 19) (.skip) (.exit 0))) (.seq (.block 1 (.seq (.region 7 (rg Tryd.f75 7) true) (.seq (.seq (.region 8 (rg Tryd.f75 8) false) (.cond (.tmp 36) (.seq (.region 9 (rg Tryd.f75 9) false) (.ret)) (.skip))) (.region 10 (rg Tryd.f75 10) false)))) (.region 6 (rg Tryd.f75 6) false)))))) (.seq (.region 11 (rg Tryd.f75 11) false) (.ret)))))) := by kernel_rfl
set_option maxRecDepth 100000 in
set_option maxHeartbeats 8000000 in
theorem Unhex_c (s : Bytes) (hb : s.length ≤ 100000) : Pure Tryd.prog 75 [tc (st s)] (AV.tup [tc (st ((unhexS s).1)), tc (bo ((unhexS s).2))]) := by
 refine Pure.of_body Tryd.func75 f75_body (by kernel_rfl) Tryd.ntmps75 (by kernel_rfl) (by kernel_rfl) ?_
 have h2 := tmod_2 s.length
 have h3 := tdiv_2 s.length
 refine gS [] [] 47 [(0, vc (st s))] [] trivial ?_
 refine gQ ?_
 refine gS [] [(2 : Int) ≠ 0] 47 [(0, vc (st s)), (11, vc (bo (!decide (Int.tmod (List.length s : Int) 2 = 0))))] [] (show (2 : Int) ≠ 0 from (by first | omega | (have hd1 := dig_rng (List.getD s (2 * k) 0); have hd2 := dig_rng (List.getD s (2 * k + 1) 0); first | omega | (have hp : (2 : Int) ^ (min (4 : Int).toNat (IntKind.bits .i64)) = 16 := rfl; rw [hp]; omega) | (have hl := un_len (List.take (2 * k) s); simp only [List.length_take] at hl; (try simp only [List.length_append, List.length_cons, List.length_nil, List.length_replicate, List.length_map, List.length_take, List.length_drop, hex_len]); omega)))) ?_
 refine gN (Int.tmod (List.length s : Int) 2 = 0) (fun hc1 => ?_) fun hc1 => ?_
 ·
  refine gS [] [] 47 [(2, vc (st [])), (3, vc (bo false))] [] trivial ?_
  exact gT (AV.tup [tc (st []), tc (bo false)]) (by rw [show unhexS s = ([], false) from by first | rw [unhex_odd (by omega)] | (rcases hc3 with q | q <;> first | rw [unhex_bad (k := 2 * k) (by omega) q] | rw [unhex_bad (k := 2 * k + 1) (by omega) q])])
 ·
  refine AMx.skip ?_
  refine gS [(3, CE.obj (AObj.grow 5 1 UInt8 0 rowU8 (List.replicate 0 0)))] [(2 : Int) ≠ 0, InR .i64 (Int.tdiv (List.length s : Int) 2), 0 ≤ (0 : Int), (0 : Int) ≤ Int.tdiv (List.length s : Int) 2, (1 : Int) * (Int.tdiv (List.length s : Int) 2) ≤ 281474976710656, Int.tdiv (List.length s : Int) 2 ≤ 9223372036854775807, MakeC 0 [.s (u8 0)] (AObj.grow 5 1 UInt8 0 rowU8 (List.replicate 0 0))] 47 [(0, vc (st s)), (4, vo 15)] [(15, AObj.grow 5 1 UInt8 0 rowU8 (List.replicate 0 0))] ⟨(show (2 : Int) ≠ 0 from (by first | omega | (have hd1 := dig_rng (List.getD s (2 * k) 0); have hd2 := dig_rng (List.getD s (2 * k + 1) 0); first | omega | (have hp : (2 : Int) ^ (min (4 : Int).toNat (IntKind.bits .i64)) = 16 := rfl; rw [hp]; omega) | (have hl := un_len (List.take (2 * k) s); simp only [List.length_take] at hl; (try simp only [List.length_append, List.length_cons, List.length_nil, List.length_replicate, List.length_map, List.length_take, List.length_drop, hex_len]); omega)))), (show InR .i64 (Int.tdiv (List.length s : Int) 2) from (inR64 (by first | omega | (have hd1 := dig_rng (List.getD s (2 * k) 0); have hd2 := dig_rng (List.getD s (2 * k + 1) 0); first | omega | (have hp : (2 : Int) ^ (min (4 : Int).toNat (IntKind.bits .i64)) = 16 := rfl; rw [hp]; omega) | (have hl := un_len (List.take (2 * k) s); simp only [List.length_take] at hl; (try simp only [List.length_append, List.length_cons, List.length_nil, List.length_replicate, List.length_map, List.length_take, List.length_drop, hex_len]); omega))) (by first | omega | (have hd1 := dig_rng (List.getD s (2 * k) 0); have hd2 := dig_rng (List.getD s (2 * k + 1) 0); first | omega | (have hp : (2 : Int) ^ (min (4 : Int).toNat (IntKind.bits .i64)) = 16 := rfl; rw [hp]; omega) | (have hl := un_len (List.take (2 * k) s); simp only [List.length_take] at hl; (try simp only [List.length_append, List.length_cons, List.length_nil, List.length_replicate, List.length_map, List.length_take, List.length_drop, hex_len]); omega))))), (show 0 ≤ (0 : Int) from (by first | omega | (have hd1 := dig_rng (List.getD s (2 * k) 0); have hd2 := dig_rng (List.getD s (2 * k + 1) 0); first | omega | (have hp : (2 : Int) ^ (min (4 : Int).toNat (IntKind.bits .i64)) = 16 := rfl; rw [hp]; omega) | (have hl := un_len (List.take (2 * k) s); simp only [List.length_take] at hl; (try simp only [List.length_append, List.length_cons, List.length_nil, List.length_replicate, List.length_map, List.length_take, List.length_drop, hex_len]); omega)))), (show (0 : Int) ≤ Int.tdiv (List.length s : Int) 2 from (by first | omega | (have hd1 := dig_rng (List.getD s (2 * k) 0); have hd2 := dig_rng (List.getD s (2 * k + 1) 0); first | omega | (have hp : (2 : Int) ^ (min (4 : Int).toNat (IntKind.bits .i64)) = 16 := rfl; rw [hp]; omega) | (have hl := un_len (List.take (2 * k) s); simp only [List.length_take] at hl; (try simp only [List.length_append, List.length_cons, List.length_nil, List.length_replicate, List.length_map, List.length_take, List.length_drop, hex_len]); omega)))), (show (1 : Int) * (Int.tdiv (List.length s : Int) 2) ≤ 281474976710656 from (by first | omega | (have hd1 := dig_rng (List.getD s (2 * k) 0); have hd2 := dig_rng (List.getD s (2 * k + 1) 0); first | omega | (have hp : (2 : Int) ^ (min (4 : Int).toNat (IntKind.bits .i64)) = 16 := rfl; rw [hp]; omega) | (have hl := un_len (List.take (2 * k) s); simp only [List.length_take] at hl; (try simp only [List.length_append, List.length_cons, List.length_nil, List.length_replicate, List.length_map, List.length_take, List.length_drop, hex_len]); omega)))), (show Int.tdiv (List.length s : Int) 2 ≤ 9223372036854775807 from (by first | omega | (have hd1 := dig_rng (List.getD s (2 * k) 0); have hd2 := dig_rng (List.getD s (2 * k + 1) 0); first | omega | (have hp : (2 : Int) ^ (min (4 : Int).toNat (IntKind.bits .i64)) = 16 := rfl; rw [hp]; omega) | (have hl := un_len (List.take (2 * k) s); simp only [List.length_take] at hl; (try simp only [List.length_append, List.length_cons, List.length_nil, List.length_replicate, List.length_map, List.length_take, List.length_drop, hex_len]); omega)))), (⟨_, rfl, rfl⟩)⟩ ?_
  refine gQ ?_
  refine gS [] [] 47 [(0, vc (st s)), (4, vo 15), (5, vc (i6 0))] [(15, AObj.grow 5 1 UInt8 0 rowU8 (List.replicate 0 0))] trivial ?_
  refine AMx.block ?_
  refine AMx.ent (s' := AS.lst 47 [(0, vc (st s)), (4, vo 15), (5, vc (i6 0))] [(15, AObj.grow 5 1 UInt8 0 rowU8 (List.replicate 0 0))]) (ent_proj [0, 4, 5] [15]) ?_
  refine AMx.loop (fun mm ss => ∃ (k : Nat), (2 * k ≤ s.length ∧ HexTo s k) ∧ mm = s.length - 2 * k ∧ ss = AS.lst 47 [(0, vc (st s)), (4, vo 15), (5, vc (i6 ((2 * k : Nat) : Int)))] [(15, AObj.grow 5 1 UInt8 0 rowU8 (unpairs (List.take (2 * k) s)))]) ⟨0, ?_, rfl, ?_⟩ ?_
  · exact ⟨Nat.zero_le _, rfl⟩
  · rfl
  rintro mm ss ⟨k, ⟨hI, hN⟩, rfl, rfl⟩
  refine gQ ?_
  refine gS [] [] 47 [(0, vc (st s)), (4, vo 15), (5, vc (i6 ((2 * k : Nat) : Int))), (19, vc (bo (decide (((2 * k : Nat) : Int) < (List.length s : Int)))))] [(15, AObj.grow 5 1 UInt8 0 rowU8 (unpairs (List.take (2 * k) s)))] trivial ?_
  refine gC (((2 * k : Nat) : Int) < (List.length s : Int)) (fun hc2 => ?_) fun hc2 => ?_
  ·
   refine AMx.skip ?_
   refine gQ ?_
   refine AMx.block ?_
   refine gY [(3, CE.call [] [] (vc (i6 (digV (List.getD s (2 * k) 0)))) []), (8, CE.call [] [] (vc (i6 (digV (List.getD s ((2 * k) + 1) 0)))) [])] [] [(0 : Int) ≤ ((2 * k : Nat) : Int), ((2 * k : Nat) : Int) < List.length s, Spec Tryd.prog 84 [tc (u8 ((List.getD s (2 * k) 0).toNat : Int))] (ofH []) (vc (i6 (digV (List.getD s (2 * k) 0)))) (ofH []), InR .i64 (((2 * k : Nat) : Int) + 1), (0 : Int) ≤ ((2 * k : Nat) : Int) + 1, ((2 * k : Nat) : Int) + 1 < List.length s, Spec Tryd.prog 84 [tc (u8 ((List.getD s ((2 * k) + 1) 0).toNat : Int))] (ofH []) (vc (i6 (digV (List.getD s ((2 * k) + 1) 0)))) (ofH [])] 47 [(0, vc (st s)), (4, vo 15), (5, vc (i6 ((2 * k : Nat) : Int))), (6, vc (i6 (digV (List.getD s (2 * k) 0)))), (7, vc (i6 (digV (List.getD s ((2 * k) + 1) 0))))] [(15, AObj.grow 5 1 UInt8 0 rowU8 (unpairs (List.take (2 * k) s)))] mixed ⟨(show (0 : Int) ≤ ((2 * k : Nat) : Int) from (by first | omega | (have hd1 := dig_rng (List.getD s (2 * k) 0); have hd2 := dig_rng (List.getD s (2 * k + 1) 0); first | omega | (have hp : (2 : Int) ^ (min (4 : Int).toNat (IntKind.bits .i64)) = 16 := rfl; rw [hp]; omega) | (have hl := un_len (List.take (2 * k) s); simp only [List.length_take] at hl; (try simp only [List.length_append, List.length_cons, List.length_nil, List.length_replicate, List.length_map, List.length_take, List.length_drop, hex_len]); omega)))), (show ((2 * k : Nat) : Int) < List.length s from (by first | omega | (have hd1 := dig_rng (List.getD s (2 * k) 0); have hd2 := dig_rng (List.getD s (2 * k + 1) 0); first | omega | (have hp : (2 : Int) ^ (min (4 : Int).toNat (IntKind.bits .i64)) = 16 := rfl; rw [hp]; omega) | (have hl := un_len (List.take (2 * k) s); simp only [List.length_take] at hl; (try simp only [List.length_append, List.length_cons, List.length_nil, List.length_replicate, List.length_map, List.length_take, List.length_drop, hex_len]); omega)))), (digit_c (List.getD s (2 * k) 0)), (show InR .i64 (((2 * k : Nat) : Int) + 1) from (inR64 (by first | omega | (have hd1 := dig_rng (List.getD s (2 * k) 0); have hd2 := dig_rng (List.getD s (2 * k + 1) 0); first | omega | (have hp : (2 : Int) ^ (min (4 : Int).toNat (IntKind.bits .i64)) = 16 := rfl; rw [hp]; omega) | (have hl := un_len (List.take (2 * k) s); simp only [List.length_take] at hl; (try simp only [List.length_append, List.length_cons, List.length_nil, List.length_replicate, List.length_map, List.length_take, List.length_drop, hex_len]); omega))) (by first | omega | (have hd1 := dig_rng (List.getD s (2 * k) 0); have hd2 := dig_rng (List.getD s (2 * k + 1) 0); first | omega | (have hp : (2 : Int) ^ (min (4 : Int).toNat (IntKind.bits .i64)) = 16 := rfl; rw [hp]; omega) | (have hl := un_len (List.take (2 * k) s); simp only [List.length_take] at hl; (try simp only [List.length_append, List.length_cons, List.length_nil, List.length_replicate, List.length_map, List.length_take, List.length_drop, hex_len]); omega))))), (show (0 : Int) ≤ ((2 * k : Nat) : Int) + 1 from (by first | omega | (have hd1 := dig_rng (List.getD s (2 * k) 0); have hd2 := dig_rng (List.getD s (2 * k + 1) 0); first | omega | (have hp : (2 : Int) ^ (min (4 : Int).toNat (IntKind.bits .i64)) = 16 := rfl; rw [hp]; omega) | (have hl := un_len (List.take (2 * k) s); simp only [List.length_take] at hl; (try simp only [List.length_append, List.length_cons, List.length_nil, List.length_replicate, List.length_map, List.length_take, List.length_drop, hex_len]); omega)))), (show ((2 * k : Nat) : Int) + 1 < List.length s from (by first | omega | (have hd1 := dig_rng (List.getD s (2 * k) 0); have hd2 := dig_rng (List.getD s (2 * k + 1) 0); first | omega | (have hp : (2 : Int) ^ (min (4 : Int).toNat (IntKind.bits .i64)) = 16 := rfl; rw [hp]; omega) | (have hl := un_len (List.take (2 * k) s); simp only [List.length_take] at hl; (try simp only [List.length_append, List.length_cons, List.length_nil, List.length_replicate, List.length_map, List.length_take, List.length_drop, hex_len]); omega)))), (digit_c (List.getD s ((2 * k) + 1) 0))⟩ ?_
   refine gQ ?_
   refine gS [] [((decide (digV (List.getD s (2 * k) 0) < 0)) = false) → allP [], ((decide (digV (List.getD s (2 * k) 0) < 0)) = false) → allP [(decide (digV (List.getD s (2 * k) 0) < 0)) = false], (decide (digV (List.getD s (2 * k) 0) < 0)) = false → allP [(decide (digV (List.getD s (2 * k) 0) < 0)) = false]] 47 [(0, vc (st s)), (4, vo 15), (5, vc (i6 ((2 * k : Nat) : Int))), (6, vc (i6 (digV (List.getD s (2 * k) 0)))), (7, vc (i6 (digV (List.getD s ((2 * k) + 1) 0)))), (36, vc (bo ((decide (digV (List.getD s (2 * k) 0) < 0)) || (decide (digV (List.getD s ((2 * k) + 1) 0) < 0)))))] [(15, AObj.grow 5 1 UInt8 0 rowU8 (unpairs (List.take (2 * k) s)))] ⟨(fun _ => trivial), (fun hp => hp), (fun hp2 => (by first | exact hp2 | exact ⟨hp, hp2⟩))⟩ ?_
   refine gB (((decide (digV (List.getD s (2 * k) 0) < 0)) || (decide (digV (List.getD s ((2 * k) + 1) 0) < 0)))) (fun hc3 => ?_) fun hc3 => ?_
   ·
    try simp only [xT, xF, xO, xP] at hc3
    refine gS [] [] 47 [(2, vc (st [])), (3, vc (bo false))] [] trivial ?_
    exact gT (AV.tup [tc (st []), tc (bo false)]) (by rw [show unhexS s = ([], false) from by first | rw [unhex_odd (by omega)] | (rcases hc3 with q | q <;> first | rw [unhex_bad (k := 2 * k) (by omega) q] | rw [unhex_bad (k := 2 * k + 1) (by omega) q])])
   ·
    try simp only [xT, xF, xO, xP] at hc3
    refine AMx.skip ?_
    refine gR [(6, CE.obj (AObj.grow 5 1 UInt8 0 rowU8 [pairB (List.getD s (2 * k) 0) (List.getD s (2 * k + 1) 0)])), (7, CE.obj (AObj.grow 5 1 UInt8 0 rowU8 ((unpairs (List.take (2 * k) s)) ++ [pairB (List.getD s (2 * k) 0) (List.getD s (2 * k + 1) 0)])))] [(0 : Int) ≤ 4, InR .i64 ((digV (List.getD s (2 * k) 0)) * 2 ^ (min (4 : Int).toNat (IntKind.bits .i64))), flat 1 rowU8 [pairB (List.getD s (2 * k) 0) (List.getD s (2 * k + 1) 0)] = [.s (u8 (IntKind.wrap .u8 (IntKind.wrap .i64 ((BitVec.ofInt 64 ((digV (List.getD s (2 * k) 0)) * 2 ^ (min (4 : Int).toNat (IntKind.bits .i64))) ||| BitVec.ofInt 64 (digV (List.getD s ((2 * k) + 1) 0))).toNat))))], List.length ([pairB (List.getD s (2 * k) 0) (List.getD s (2 * k + 1) 0)] : List UInt8) = 1, AppC (flat 1 rowU8 [pairB (List.getD s (2 * k) 0) (List.getD s (2 * k + 1) 0)]) (List.length ([pairB (List.getD s (2 * k) 0) (List.getD s (2 * k + 1) 0)] : List UInt8)) 1 (AObj.grow 5 1 UInt8 0 rowU8 (unpairs (List.take (2 * k) s))) (AObj.grow 5 1 UInt8 0 rowU8 ((unpairs (List.take (2 * k) s)) ++ [pairB (List.getD s (2 * k) 0) (List.getD s (2 * k + 1) 0)]))] 47 [(0, vc (st s)), (4, vo 44), (5, vc (i6 ((2 * k : Nat) : Int)))] [(44, AObj.grow 5 1 UInt8 0 rowU8 ((unpairs (List.take (2 * k) s)) ++ [pairB (List.getD s (2 * k) 0) (List.getD s (2 * k + 1) 0)]))] ⟨(show (0 : Int) ≤ 4 from (by first | omega | (have hd1 := dig_rng (List.getD s (2 * k) 0); have hd2 := dig_rng (List.getD s (2 * k + 1) 0); first | omega | (have hp : (2 : Int) ^ (min (4 : Int).toNat (IntKind.bits .i64)) = 16 := rfl; rw [hp]; omega) | (have hl := un_len (List.take (2 * k) s); simp only [List.length_take] at hl; (try simp only [List.length_append, List.length_cons, List.length_nil, List.length_replicate, List.length_map, List.length_take, List.length_drop, hex_len]); omega)))), (show InR .i64 ((digV (List.getD s (2 * k) 0)) * 2 ^ (min (4 : Int).toNat (IntKind.bits .i64))) from (inR64 (by first | omega | (have hd1 := dig_rng (List.getD s (2 * k) 0); have hd2 := dig_rng (List.getD s (2 * k + 1) 0); first | omega | (have hp : (2 : Int) ^ (min (4 : Int).toNat (IntKind.bits .i64)) = 16 := rfl; rw [hp]; omega) | (have hl := un_len (List.take (2 * k) s); simp only [List.length_take] at hl; (try simp only [List.length_append, List.length_cons, List.length_nil, List.length_replicate, List.length_map, List.length_take, List.length_drop, hex_len]); omega))) (by first | omega | (have hd1 := dig_rng (List.getD s (2 * k) 0); have hd2 := dig_rng (List.getD s (2 * k + 1) 0); first | omega | (have hp : (2 : Int) ^ (min (4 : Int).toNat (IntKind.bits .i64)) = 16 := rfl; rw [hp]; omega) | (have hl := un_len (List.take (2 * k) s); simp only [List.length_take] at hl; (try simp only [List.length_append, List.length_cons, List.length_nil, List.length_replicate, List.length_map, List.length_take, List.length_drop, hex_len]); omega))))), (one_pair (by omega) (by omega)), rfl, (⟨_, rfl, rfl, rfl, by have hl := un_len (List.take (2 * k) s); simp only [List.length_append, List.length_cons, List.length_nil, List.length_replicate, List.length_map, List.length_take, List.length_drop, hex_len] at *; omega, by have hl := un_len (List.take (2 * k) s); simp only [maxLen, List.length_append, List.length_cons, List.length_nil, List.length_replicate, List.length_map, List.length_take, List.length_drop, hex_len] at *; omega⟩)⟩ ?_
    refine AMx.blk ?_
    refine gR [] [InR .i64 (((2 * k : Nat) : Int) + 2)] 47 [(0, vc (st s)), (4, vo 44), (5, vc (i6 (((2 * k : Nat) : Int) + 2)))] [(44, AObj.grow 5 1 UInt8 0 rowU8 ((unpairs (List.take (2 * k) s)) ++ [pairB (List.getD s (2 * k) 0) (List.getD s (2 * k + 1) 0)]))] (show InR .i64 (((2 * k : Nat) : Int) + 2) from (inR64 (by first | omega | (have hd1 := dig_rng (List.getD s (2 * k) 0); have hd2 := dig_rng (List.getD s (2 * k + 1) 0); first | omega | (have hp : (2 : Int) ^ (min (4 : Int).toNat (IntKind.bits .i64)) = 16 := rfl; rw [hp]; omega) | (have hl := un_len (List.take (2 * k) s); simp only [List.length_take] at hl; (try simp only [List.length_append, List.length_cons, List.length_nil, List.length_replicate, List.length_map, List.length_take, List.length_drop, hex_len]); omega))) (by first | omega | (have hd1 := dig_rng (List.getD s (2 * k) 0); have hd2 := dig_rng (List.getD s (2 * k + 1) 0); first | omega | (have hp : (2 : Int) ^ (min (4 : Int).toNat (IntKind.bits .i64)) = 16 := rfl; rw [hp]; omega) | (have hl := un_len (List.take (2 * k) s); simp only [List.length_take] at hl; (try simp only [List.length_append, List.length_cons, List.length_nil, List.length_replicate, List.length_map, List.length_take, List.length_drop, hex_len]); omega))))) ?_
    refine AMx.ent_inv (s' := AS.lst 47 [(0, vc (st s)), (4, vo 15), (5, vc (i6 (((2 * k : Nat) : Int) + 2)))] [(15, AObj.grow 5 1 UInt8 0 rowU8 ((unpairs (List.take (2 * k) s)) ++ [pairB (List.getD s (2 * k) 0) (List.getD s (2 * k + 1) 0)]))]) (ent_swap 44 15 (by kernel_rfl) (by kernel_rfl)) ?_
    refine AMx.ent_inv (s' := AS.lst 47 [(0, vc (st s)), (4, vo 15), (5, vc (i6 (((2 * k : Nat) : Int) + 2)))] [(15, AObj.grow 5 1 UInt8 0 rowU8 ((unpairs (List.take (2 * k) s)) ++ [pairB (List.getD s (2 * k) 0) (List.getD s (2 * k + 1) 0)]))]) (ent_proj [0, 4, 5] [15]) ?_
    refine AMx.inv ⟨_, ?_, k + 1, ?_, rfl, ?_⟩
    rotate_left
    · exact ⟨by omega, hexto_step (by omega) hN (by omega) (by omega)⟩
    · rw [← un_step k s (by omega)]; rfl
    · omega
  ·
   refine AMx.exit ?_
   refine AMx.code_exit ?_
   refine AMx.inv_exit ?_
   refine AMx.blk_exit ?_
   refine gS [(1, CE.str (unpairs (List.take (2 * k) s)))] [flat 1 rowU8 (unpairs (List.take (2 * k) s)) = flat 1 rowU8 (unpairs (List.take (2 * k) s)), List.length (unpairs (List.take (2 * k) s) : List UInt8) = List.length (unpairs (List.take (2 * k) s) : List UInt8), (List.length (unpairs (List.take (2 * k) s) : List UInt8) : Int) ≤ 140737488355328] 47 [(2, vc (st (unpairs (List.take (2 * k) s)))), (3, vc (bo true))] [] ⟨rfl, rfl, (show (List.length (unpairs (List.take (2 * k) s) : List UInt8) : Int) ≤ 140737488355328 from (by first | omega | (have hd1 := dig_rng (List.getD s (2 * k) 0); have hd2 := dig_rng (List.getD s (2 * k + 1) 0); first | omega | (have hp : (2 : Int) ^ (min (4 : Int).toNat (IntKind.bits .i64)) = 16 := rfl; rw [hp]; omega) | (have hl := un_len (List.take (2 * k) s); simp only [List.length_take] at hl; (try simp only [List.length_append, List.length_cons, List.length_nil, List.length_replicate, List.length_map, List.length_take, List.length_drop, hex_len]); omega))))⟩ ?_
   exact gT (AV.tup [tc (st (unpairs (List.take (2 * k) s))), tc (bo true)]) (by rw [show unhexS s = (unpairs (List.take (2 * k) s), true) from by rw [unhex_end (k := k) (by omega) hN]])
theorem f68_body : Tryd.f68.body = some (.seq (.region 0 (rg Tryd.f68 0) false) (.seq (.region 1 (rg Tryd.f68 1) false) (.seq (.seq (.region 2 (rg Tryd.f68 2) false) (.block 0 (.loop (.seq (.seq (.region 3 (rg Tryd.f68 3) false) (.cond (.tmp 13) (.skip) (.exit 0))) (.seq (.block 1 (.seq (.region 5 (rg Tryd.f68 5) false) (.seq (.seq (.region 6 (rg Tryd.f68 6) false) (.block 2 (.loop (.seq (.seq (.region 7 (rg Tryd.f68 7) false) (.cond (.tmp 17) (.skip) (.exit 2))) (.seq (.block 3 (.seq (.region 9 (rg Tryd.f68 9) false) (.seq (.region 10 (rg Tryd.f68 10) false) (.cond (.tmp 27) (.region 11 (rg Tryd.f68 11) false) (.region 12 (rg Tryd.f68 12) false))))) (.region 8 (rg Tryd.f68 8) false)))))) (.region 13 (rg Tryd.f68 13) false)))) (.region 4 (rg Tryd.f68 4) false)))))) (.seq (.seq (.region 14 (rg Tryd.f68 14) false) (.cond (.tmp 47) (.seq (.region 15 (rg Tryd.f68 15) false) (.ret)) (.skip))) (.seq (.region 16 (rg Tryd.f68 16) false) (.ret)))))) := by kernel_rfl
set_option maxRecDepth 100000 in
set_option maxHeartbeats 8000000 in
theorem RUnhex_c (s : Bytes) (hb : s.length ≤ 100000) : Pure Tryd.prog 68 [tc (st s)] (AV.tup [tc (st ((unhexS s).1)), tc (bo ((unhexS s).2))]) := by
 refine Pure.of_body Tryd.func68 f68_body (by kernel_rfl) Tryd.ntmps68 (by kernel_rfl) (by kernel_rfl) ?_
 refine gS [] [] 50 [(0, vc (st s))] [] trivial ?_
 refine gS [] [] 50 [(0, vc (st s)), (4, vc (SC.nilsl))] [] trivial ?_
 refine gQ ?_
 refine gS [] [] 50 [(0, vc (st s)), (4, vc (SC.nilsl)), (5, vc (i6 0))] [] trivial ?_
 refine AMx.block ?_
 refine AMx.ent (s' := AS.lst 50 [(0, vc (st s)), (4, vo 4), (5, vc (i6 0))] [(4, AObj.grow 5 1 UInt8 0 rowU8 [])]) (ent_adopt (t := 4) (d := 4) 5 1 UInt8 0 rowU8 (by kernel_rfl) (by kernel_rfl) (by kernel_rfl) (by kernel_rfl)) ?_
 refine AMx.ent (s' := AS.lst 50 [(0, vc (st s)), (4, vo 4), (5, vc (i6 0))] [(4, AObj.grow 5 1 UInt8 0 rowU8 [])]) (ent_proj [0, 4, 5] [4]) ?_
 refine AMx.loop (fun mm ss => ∃ (k : Nat), (2 * k ≤ s.length) ∧ mm = s.length - 2 * k ∧ ss = AS.lst 50 [(0, vc (st s)), (4, vo 4), (5, vc (i6 ((2 * k : Nat) : Int)))] [(4, AObj.grow 5 1 UInt8 0 rowU8 (refU s k))]) ⟨0, ?_, rfl, ?_⟩ ?_
 · omega
 · rfl
 rintro mm ss ⟨k, hI, rfl, rfl⟩
 refine gQ ?_
 refine gS [] [InR .i64 (((2 * k : Nat) : Int) + 1)] 50 [(0, vc (st s)), (4, vo 4), (5, vc (i6 ((2 * k : Nat) : Int))), (13, vc (bo (decide (((2 * k : Nat) : Int) + 1 < (List.length s : Int)))))] [(4, AObj.grow 5 1 UInt8 0 rowU8 (refU s k))] (show InR .i64 (((2 * k : Nat) : Int) + 1) from (inR64 (by first | omega | (have hr := acc_rng s (2 * k) (j := j) (by omega); have hb2 := UInt8.toNat_lt (List.getD s (2 * k + j) 0); omega) | ((try simp only [List.length_append, List.length_cons, List.length_nil, List.length_replicate, List.length_map, List.length_take, List.length_drop, hex_len, refU_len]); omega)) (by first | omega | (have hr := acc_rng s (2 * k) (j := j) (by omega); have hb2 := UInt8.toNat_lt (List.getD s (2 * k + j) 0); omega) | ((try simp only [List.length_append, List.length_cons, List.length_nil, List.length_replicate, List.length_map, List.length_take, List.length_drop, hex_len, refU_len]); omega)))) ?_
 refine gC (((2 * k : Nat) : Int) + 1 < (List.length s : Int)) (fun hc1 => ?_) fun hc1 => ?_
 ·
  refine AMx.skip ?_
  refine gQ ?_
  refine AMx.block ?_
  refine gS [] [] 50 [(0, vc (st s)), (4, vo 4), (5, vc (i6 ((2 * k : Nat) : Int))), (6, vc (i6 0))] [(4, AObj.grow 5 1 UInt8 0 rowU8 (refU s k))] trivial ?_
  refine gQ ?_
  refine gS [] [] 50 [(0, vc (st s)), (4, vo 4), (5, vc (i6 ((2 * k : Nat) : Int))), (6, vc (i6 0)), (7, vc (i6 0))] [(4, AObj.grow 5 1 UInt8 0 rowU8 (refU s k))] trivial ?_
  refine AMx.block ?_
  refine AMx.ent (s' := AS.lst 50 [(0, vc (st s)), (4, vo 4), (5, vc (i6 ((2 * k : Nat) : Int))), (6, vc (i6 0)), (7, vc (i6 0))] [(4, AObj.grow 5 1 UInt8 0 rowU8 (refU s k))]) (ent_proj [0, 4, 5, 6, 7] [4]) ?_
  refine AMx.loop (fun mm ss => ∃ (j : Nat), (j ≤ 2) ∧ mm = 2 - j ∧ ss = AS.lst 50 [(0, vc (st s)), (4, vo 4), (5, vc (i6 ((2 * k : Nat) : Int))), (6, vc (i6 (accR s (2 * k) j))), (7, vc (i6 (j : Int)))] [(4, AObj.grow 5 1 UInt8 0 rowU8 (refU s k))]) ⟨0, ?_, rfl, ?_⟩ ?_
  · omega
  · rfl
  rintro mm ss ⟨j, hI, rfl, rfl⟩
  refine gQ ?_
  refine gS [] [] 50 [(0, vc (st s)), (4, vo 4), (5, vc (i6 ((2 * k : Nat) : Int))), (6, vc (i6 (accR s (2 * k) j))), (7, vc (i6 (j : Int))), (17, vc (bo (decide ((j : Int) < 2))))] [(4, AObj.grow 5 1 UInt8 0 rowU8 (refU s k))] trivial ?_
  refine gC ((j : Int) < 2) (fun hc2 => ?_) fun hc2 => ?_
  ·
   refine AMx.skip ?_
   refine gQ ?_
   refine AMx.block ?_
   refine gS [] [InR .i64 (((2 * k : Nat) : Int) + (j : Int)), (0 : Int) ≤ ((2 * k : Nat) : Int) + (j : Int), ((2 * k : Nat) : Int) + (j : Int) < List.length s] 50 [(0, vc (st s)), (4, vo 4), (5, vc (i6 ((2 * k : Nat) : Int))), (6, vc (i6 (accR s (2 * k) j))), (7, vc (i6 (j : Int))), (8, vc (i6 ((List.getD s ((2 * k) + j) 0).toNat : Int)))] [(4, AObj.grow 5 1 UInt8 0 rowU8 (refU s k))] ⟨(show InR .i64 (((2 * k : Nat) : Int) + (j : Int)) from (inR64 (by first | omega | (have hr := acc_rng s (2 * k) (j := j) (by omega); have hb2 := UInt8.toNat_lt (List.getD s (2 * k + j) 0); omega) | ((try simp only [List.length_append, List.length_cons, List.length_nil, List.length_replicate, List.length_map, List.length_take, List.length_drop, hex_len, refU_len]); omega)) (by first | omega | (have hr := acc_rng s (2 * k) (j := j) (by omega); have hb2 := UInt8.toNat_lt (List.getD s (2 * k + j) 0); omega) | ((try simp only [List.length_append, List.length_cons, List.length_nil, List.length_replicate, List.length_map, List.length_take, List.length_drop, hex_len, refU_len]); omega)))), (show (0 : Int) ≤ ((2 * k : Nat) : Int) + (j : Int) from (by first | omega | (have hr := acc_rng s (2 * k) (j := j) (by omega); have hb2 := UInt8.toNat_lt (List.getD s (2 * k + j) 0); omega) | ((try simp only [List.length_append, List.length_cons, List.length_nil, List.length_replicate, List.length_map, List.length_take, List.length_drop, hex_len, refU_len]); omega))), (show ((2 * k : Nat) : Int) + (j : Int) < List.length s from (by first | omega | (have hr := acc_rng s (2 * k) (j := j) (by omega); have hb2 := UInt8.toNat_lt (List.getD s (2 * k + j) 0); omega) | ((try simp only [List.length_append, List.length_cons, List.length_nil, List.length_replicate, List.length_map, List.length_take, List.length_drop, hex_len, refU_len]); omega)))⟩ ?_
   refine gS [] [] 50 [(0, vc (st s)), (4, vo 4), (5, vc (i6 ((2 * k : Nat) : Int))), (6, vc (i6 (accR s (2 * k) j))), (7, vc (i6 (j : Int))), (8, vc (i6 ((List.getD s ((2 * k) + j) 0).toNat : Int))), (27, vc (bo (decide (97 ≤ ((List.getD s ((2 * k) + j) 0).toNat : Int)))))] [(4, AObj.grow 5 1 UInt8 0 rowU8 (refU s k))] trivial ?_
   refine gC (97 ≤ ((List.getD s ((2 * k) + j) 0).toNat : Int)) (fun hc3 => ?_) fun hc3 => ?_
   ·
    refine gR [] [InR .i64 (16 * (accR s (2 * k) j)), InR .i64 ((16 * (accR s (2 * k) j)) + ((List.getD s ((2 * k) + j) 0).toNat : Int)), InR .i64 (((16 * (accR s (2 * k) j)) + ((List.getD s ((2 * k) + j) 0).toNat : Int)) - 87)] 50 [(0, vc (st s)), (4, vo 4), (5, vc (i6 ((2 * k : Nat) : Int))), (6, vc (i6 (((16 * (accR s (2 * k) j)) + ((List.getD s ((2 * k) + j) 0).toNat : Int)) - 87))), (7, vc (i6 (j : Int)))] [(4, AObj.grow 5 1 UInt8 0 rowU8 (refU s k))] ⟨(show InR .i64 (16 * (accR s (2 * k) j)) from (inR64 (by first | omega | (have hr := acc_rng s (2 * k) (j := j) (by omega); have hb2 := UInt8.toNat_lt (List.getD s (2 * k + j) 0); omega) | ((try simp only [List.length_append, List.length_cons, List.length_nil, List.length_replicate, List.length_map, List.length_take, List.length_drop, hex_len, refU_len]); omega)) (by first | omega | (have hr := acc_rng s (2 * k) (j := j) (by omega); have hb2 := UInt8.toNat_lt (List.getD s (2 * k + j) 0); omega) | ((try simp only [List.length_append, List.length_cons, List.length_nil, List.length_replicate, List.length_map, List.length_take, List.length_drop, hex_len, refU_len]); omega)))), (show InR .i64 ((16 * (accR s (2 * k) j)) + ((List.getD s ((2 * k) + j) 0).toNat : Int)) from (inR64 (by first | omega | (have hr := acc_rng s (2 * k) (j := j) (by omega); have hb2 := UInt8.toNat_lt (List.getD s (2 * k + j) 0); omega) | ((try simp only [List.length_append, List.length_cons, List.length_nil, List.length_replicate, List.length_map, List.length_take, List.length_drop, hex_len, refU_len]); omega)) (by first | omega | (have hr := acc_rng s (2 * k) (j := j) (by omega); have hb2 := UInt8.toNat_lt (List.getD s (2 * k + j) 0); omega) | ((try simp only [List.length_append, List.length_cons, List.length_nil, List.length_replicate, List.length_map, List.length_take, List.length_drop, hex_len, refU_len]); omega)))), (show InR .i64 (((16 * (accR s (2 * k) j)) + ((List.getD s ((2 * k) + j) 0).toNat : Int)) - 87) from (inR64 (by first | omega | (have hr := acc_rng s (2 * k) (j := j) (by omega); have hb2 := UInt8.toNat_lt (List.getD s (2 * k + j) 0); omega) | ((try simp only [List.length_append, List.length_cons, List.length_nil, List.length_replicate, List.length_map, List.length_take, List.length_drop, hex_len, refU_len]); omega)) (by first | omega | (have hr := acc_rng s (2 * k) (j := j) (by omega); have hb2 := UInt8.toNat_lt (List.getD s (2 * k + j) 0); omega) | ((try simp only [List.length_append, List.length_cons, List.length_nil, List.length_replicate, List.length_map, List.length_take, List.length_drop, hex_len, refU_len]); omega))))⟩ ?_
    refine AMx.blk ?_
    refine gR [] [InR .i64 ((j : Int) + 1)] 50 [(0, vc (st s)), (4, vo 4), (5, vc (i6 ((2 * k : Nat) : Int))), (6, vc (i6 (((16 * (accR s (2 * k) j)) + ((List.getD s ((2 * k) + j) 0).toNat : Int)) - 87))), (7, vc (i6 ((j : Int) + 1)))] [(4, AObj.grow 5 1 UInt8 0 rowU8 (refU s k))] (show InR .i64 ((j : Int) + 1) from (inR64 (by first | omega | (have hr := acc_rng s (2 * k) (j := j) (by omega); have hb2 := UInt8.toNat_lt (List.getD s (2 * k + j) 0); omega) | ((try simp only [List.length_append, List.length_cons, List.length_nil, List.length_replicate, List.length_map, List.length_take, List.length_drop, hex_len, refU_len]); omega)) (by first | omega | (have hr := acc_rng s (2 * k) (j := j) (by omega); have hb2 := UInt8.toNat_lt (List.getD s (2 * k + j) 0); omega) | ((try simp only [List.length_append, List.length_cons, List.length_nil, List.length_replicate, List.length_map, List.length_take, List.length_drop, hex_len, refU_len]); omega)))) ?_
    refine AMx.ent_inv (s' := AS.lst 50 [(0, vc (st s)), (4, vo 4), (5, vc (i6 ((2 * k : Nat) : Int))), (6, vc (i6 (((16 * (accR s (2 * k) j)) + ((List.getD s ((2 * k) + j) 0).toNat : Int)) - 87))), (7, vc (i6 ((j : Int) + 1)))] [(4, AObj.grow 5 1 UInt8 0 rowU8 (refU s k))]) (ent_proj [0, 4, 5, 6, 7] [4]) ?_
    refine AMx.inv ⟨_, ?_, j + 1, ?_, rfl, ?_⟩
    rotate_left
    · omega
    · rw [← acc_t (by assumption)]; rfl
    · omega
   ·
    refine gR [] [InR .i64 (16 * (accR s (2 * k) j)), InR .i64 ((16 * (accR s (2 * k) j)) + ((List.getD s ((2 * k) + j) 0).toNat : Int)), InR .i64 (((16 * (accR s (2 * k) j)) + ((List.getD s ((2 * k) + j) 0).toNat : Int)) - 48)] 50 [(0, vc (st s)), (4, vo 4), (5, vc (i6 ((2 * k : Nat) : Int))), (6, vc (i6 (((16 * (accR s (2 * k) j)) + ((List.getD s ((2 * k) + j) 0).toNat : Int)) - 48))), (7, vc (i6 (j : Int)))] [(4, AObj.grow 5 1 UInt8 0 rowU8 (refU s k))] ⟨(show InR .i64 (16 * (accR s (2 * k) j)) from (inR64 (by first | omega | (have hr := acc_rng s (2 * k) (j := j) (by omega); have hb2 := UInt8.toNat_lt (List.getD s (2 * k + j) 0); omega) | ((try simp only [List.length_append, List.length_cons, List.length_nil, List.length_replicate, List.length_map, List.length_take, List.length_drop, hex_len, refU_len]); omega)) (by first | omega | (have hr := acc_rng s (2 * k) (j := j) (by omega); have hb2 := UInt8.toNat_lt (List.getD s (2 * k + j) 0); omega) | ((try simp only [List.length_append, List.length_cons, List.length_nil, List.length_replicate, List.length_map, List.length_take, List.length_drop, hex_len, refU_len]); omega)))), (show InR .i64 ((16 * (accR s (2 * k) j)) + ((List.getD s ((2 * k) + j) 0).toNat : Int)) from (inR64 (by first | omega | (have hr := acc_rng s (2 * k) (j := j) (by omega); have hb2 := UInt8.toNat_lt (List.getD s (2 * k + j) 0); omega) | ((try simp only [List.length_append, List.length_cons, List.length_nil, List.length_replicate, List.length_map, List.length_take, List.length_drop, hex_len, refU_len]); omega)) (by first | omega | (have hr := acc_rng s (2 * k) (j := j) (by omega); have hb2 := UInt8.toNat_lt (List.getD s (2 * k + j) 0); omega) | ((try simp only [List.length_append, List.length_cons, List.length_nil, List.length_replicate, List.length_map, List.length_take, List.length_drop, hex_len, refU_len]); omega)))), (show InR .i64 (((16 * (accR s (2 * k) j)) + ((List.getD s ((2 * k) + j) 0).toNat : Int)) - 48) from (inR64 (by first | omega | (have hr := acc_rng s (2 * k) (j := j) (by omega); have hb2 := UInt8.toNat_lt (List.getD s (2 * k + j) 0); omega) | ((try simp only [List.length_append, List.length_cons, List.length_nil, List.length_replicate, List.length_map, List.length_take, List.length_drop, hex_len, refU_len]); omega)) (by first | omega | (have hr := acc_rng s (2 * k) (j := j) (by omega); have hb2 := UInt8.toNat_lt (List.getD s (2 * k + j) 0); omega) | ((try simp only [List.length_append, List.length_cons, List.length_nil, List.length_replicate, List.length_map, List.length_take, List.length_drop, hex_len, refU_len]); omega))))⟩ ?_
    refine AMx.blk ?_
    refine gR [] [InR .i64 ((j : Int) + 1)] 50 [(0, vc (st s)), (4, vo 4), (5, vc (i6 ((2 * k : Nat) : Int))), (6, vc (i6 (((16 * (accR s (2 * k) j)) + ((List.getD s ((2 * k) + j) 0).toNat : Int)) - 48))), (7, vc (i6 ((j : Int) + 1)))] [(4, AObj.grow 5 1 UInt8 0 rowU8 (refU s k))] (show InR .i64 ((j : Int) + 1) from (inR64 (by first | omega | (have hr := acc_rng s (2 * k) (j := j) (by omega); have hb2 := UInt8.toNat_lt (List.getD s (2 * k + j) 0); omega) | ((try simp only [List.length_append, List.length_cons, List.length_nil, List.length_replicate, List.length_map, List.length_take, List.length_drop, hex_len, refU_len]); omega)) (by first | omega | (have hr := acc_rng s (2 * k) (j := j) (by omega); have hb2 := UInt8.toNat_lt (List.getD s (2 * k + j) 0); omega) | ((try simp only [List.length_append, List.length_cons, List.length_nil, List.length_replicate, List.length_map, List.length_take, List.length_drop, hex_len, refU_len]); omega)))) ?_
    refine AMx.ent_inv (s' := AS.lst 50 [(0, vc (st s)), (4, vo 4), (5, vc (i6 ((2 * k : Nat) : Int))), (6, vc (i6 (((16 * (accR s (2 * k) j)) + ((List.getD s ((2 * k) + j) 0).toNat : Int)) - 48))), (7, vc (i6 ((j : Int) + 1)))] [(4, AObj.grow 5 1 UInt8 0 rowU8 (refU s k))]) (ent_proj [0, 4, 5, 6, 7] [4]) ?_
    refine AMx.inv ⟨_, ?_, j + 1, ?_, rfl, ?_⟩
    rotate_left
    · omega
    · rw [← acc_f (by assumption)]; rfl
    · omega
  ·
   refine AMx.exit ?_
   refine AMx.code_exit ?_
   refine AMx.inv_exit ?_
   refine AMx.blk_exit ?_
   refine gR [(3, CE.obj (AObj.grow 5 1 UInt8 0 rowU8 [refB s k])), (4, CE.obj (AObj.grow 5 1 UInt8 0 rowU8 ((refU s k) ++ [refB s k])))] [flat 1 rowU8 [refB s k] = [.s (u8 (IntKind.wrap .u8 (accR s (2 * k) j)))], List.length ([refB s k] : List UInt8) = 1, AppC (flat 1 rowU8 [refB s k]) (List.length ([refB s k] : List UInt8)) 1 (AObj.grow 5 1 UInt8 0 rowU8 (refU s k)) (AObj.grow 5 1 UInt8 0 rowU8 ((refU s k) ++ [refB s k]))] 50 [(0, vc (st s)), (4, vo 42), (5, vc (i6 ((2 * k : Nat) : Int)))] [(42, AObj.grow 5 1 UInt8 0 rowU8 ((refU s k) ++ [refB s k]))] ⟨(by obtain rfl : j = 2 := (by omega); exact one_ref s k), rfl, (⟨_, rfl, rfl, rfl, by simp only [List.length_append, List.length_cons, List.length_nil, List.length_replicate, List.length_map, List.length_take, List.length_drop, hex_len, refU_len]; omega, by simp only [maxLen, List.length_append, List.length_cons, List.length_nil, List.length_replicate, List.length_map, List.length_take, List.length_drop, hex_len, refU_len]; omega⟩)⟩ ?_
   refine AMx.blk ?_
   refine gR [] [InR .i64 (((2 * k : Nat) : Int) + 2)] 50 [(0, vc (st s)), (4, vo 42), (5, vc (i6 (((2 * k : Nat) : Int) + 2)))] [(42, AObj.grow 5 1 UInt8 0 rowU8 ((refU s k) ++ [refB s k]))] (show InR .i64 (((2 * k : Nat) : Int) + 2) from (inR64 (by first | omega | (have hr := acc_rng s (2 * k) (j := j) (by omega); have hb2 := UInt8.toNat_lt (List.getD s (2 * k + j) 0); omega) | ((try simp only [List.length_append, List.length_cons, List.length_nil, List.length_replicate, List.length_map, List.length_take, List.length_drop, hex_len, refU_len]); omega)) (by first | omega | (have hr := acc_rng s (2 * k) (j := j) (by omega); have hb2 := UInt8.toNat_lt (List.getD s (2 * k + j) 0); omega) | ((try simp only [List.length_append, List.length_cons, List.length_nil, List.length_replicate, List.length_map, List.length_take, List.length_drop, hex_len, refU_len]); omega)))) ?_
   refine AMx.ent_inv (s' := AS.lst 50 [(0, vc (st s)), (4, vo 4), (5, vc (i6 (((2 * k : Nat) : Int) + 2)))] [(4, AObj.grow 5 1 UInt8 0 rowU8 ((refU s k) ++ [refB s k]))]) (ent_swap 42 4 (by kernel_rfl) (by kernel_rfl)) ?_
   refine AMx.ent_inv (s' := AS.lst 50 [(0, vc (st s)), (4, vo 4), (5, vc (i6 (((2 * k : Nat) : Int) + 2)))] [(4, AObj.grow 5 1 UInt8 0 rowU8 ((refU s k) ++ [refB s k]))]) (ent_proj [0, 4, 5] [4]) ?_
   refine AMx.inv ⟨_, ?_, k + 1, ?_, rfl, ?_⟩
   rotate_left
   · omega
   · rw [← refU_step]; rfl
   · omega
 ·
  refine AMx.exit ?_
  refine AMx.code_exit ?_
  refine AMx.inv_exit ?_
  refine AMx.blk_exit ?_
  refine gQ ?_
  refine gS [(1, CE.str (refU s k)), (2, CE.call [] [] (vc (st (hexS (refU s k)))) [])] [flat 1 rowU8 (refU s k) = flat 1 rowU8 (refU s k), List.length (refU s k : List UInt8) = List.length (refU s k : List UInt8), (List.length (refU s k : List UInt8) : Int) ≤ 140737488355328, Spec Tryd.prog 24 [tc (st (refU s k))] (ofH []) (vc (st (hexS (refU s k)))) (ofH [])] 50 [(4, vo 4), (47, vc (bo (!decide (hexS (refU s k) = s))))] [(4, AObj.grow 5 1 UInt8 0 rowU8 (refU s k))] ⟨rfl, rfl, (show (List.length (refU s k : List UInt8) : Int) ≤ 140737488355328 from (by first | omega | (have hr := acc_rng s (2 * k) (j := j) (by omega); have hb2 := UInt8.toNat_lt (List.getD s (2 * k + j) 0); omega) | ((try simp only [List.length_append, List.length_cons, List.length_nil, List.length_replicate, List.length_map, List.length_take, List.length_drop, hex_len, refU_len]); omega))), (RHex_c (refU s k) (by first | omega | (have hr := acc_rng s (2 * k) (j := j) (by omega); have hb2 := UInt8.toNat_lt (List.getD s (2 * k + j) 0); omega) | ((try simp only [List.length_append, List.length_cons, List.length_nil, List.length_replicate, List.length_map, List.length_take, List.length_drop, hex_len, refU_len]); omega)))⟩ ?_
  refine gN (hexS (refU s k) = s) (fun hc4 => ?_) fun hc4 => ?_
  ·
   refine gS [] [] 50 [(2, vc (st [])), (3, vc (bo false))] [] trivial ?_
   exact gT (AV.tup [tc (st []), tc (bo false)]) (by rw [show unhexS s = ([], false) from by rw [ref_fin (k := k) (by omega) (by omega)]; first | rw [if_pos (by assumption)] | rw [if_neg (fun q => q (by assumption))]])
  ·
   refine AMx.skip ?_
   refine gS [(1, CE.str (refU s k))] [flat 1 rowU8 (refU s k) = flat 1 rowU8 (refU s k), List.length (refU s k : List UInt8) = List.length (refU s k : List UInt8), (List.length (refU s k : List UInt8) : Int) ≤ 140737488355328] 50 [(2, vc (st (refU s k))), (3, vc (bo true))] [] ⟨rfl, rfl, (show (List.length (refU s k : List UInt8) : Int) ≤ 140737488355328 from (by first | omega | (have hr := acc_rng s (2 * k) (j := j) (by omega); have hb2 := UInt8.toNat_lt (List.getD s (2 * k + j) 0); omega) | ((try simp only [List.length_append, List.length_cons, List.length_nil, List.length_replicate, List.length_map, List.length_take, List.length_drop, hex_len, refU_len]); omega)))⟩ ?_
   exact gT (AV.tup [tc (st (refU s k)), tc (bo true)]) (by rw [show unhexS s = (refU s k, true) from by rw [ref_fin (k := k) (by omega) (by omega)]; first | rw [if_pos (by assumption)] | rw [if_neg (fun q => q (by assumption))]])
theorem f46_body : Tryd.f46.body = some (.seq (.region 0 (rg Tryd.f46 0) false) (.seq (.region 1 (rg Tryd.f46 1) false) (.seq (.region 2 (rg Tryd.f46 2) false) (.seq (.seq (.region 3 (rg Tryd.f46 3) false) (.block 0 (.loop (.seq (.seq (.region 4 (rg Tryd.f46 4) false) (.cond (.tmp 11) (.skip) (.exit 0))) (.seq (.block 1 (.seq (.region 6 (rg Tryd.f46 6) false) (.cond (.tmp 24) (.seq (.region 7 (rg Tryd.f46 7) false) (.region 8 (rg Tryd.f46 8) false)) (.skip)))) (.region 5 (rg Tryd.f46 5) false)))))) (.seq (.region 9 (rg Tryd.f46 9) false) (.ret)))))) := by kernel_rfl
set_option maxRecDepth 100000 in
set_option maxHeartbeats 8000000 in
theorem Pieces_c (k : UInt8) (s : Bytes) (hb : s.length ≤ 100000) : Pure Tryd.prog 46 [tc (st s), tc (u8 (k.toNat : Int))] (vc (AL.Fnv.slS (AL.Sep.splitC k s))) := by
 refine Pure.of_body Tryd.func46 f46_body (by kernel_rfl) Tryd.ntmps46 (by kernel_rfl) (by kernel_rfl) ?_
 refine gS [] [] 35 [(0, vc (st s)), (1, vc (u8 (k.toNat : Int)))] [] trivial ?_
 refine gS [] [] 35 [(0, vc (st s)), (1, vc (u8 (k.toNat : Int))), (5, vc (SC.nilsl))] [] trivial ?_
 refine gS [] [] 35 [(0, vc (st s)), (1, vc (u8 (k.toNat : Int))), (5, vc (SC.nilsl)), (6, vc (i6 0))] [] trivial ?_
 refine gQ ?_
 refine gS [] [] 35 [(0, vc (st s)), (1, vc (u8 (k.toNat : Int))), (5, vc (SC.nilsl)), (6, vc (i6 0)), (7, vc (i6 0))] [] trivial ?_
 refine AMx.block ?_
 refine AMx.ent (s' := AS.lst 35 [(0, vc (st s)), (1, vc (u8 (k.toNat : Int))), (5, vo 5), (6, vc (i6 0)), (7, vc (i6 0))] [(5, AObj.grow 9 1 Bytes [] AL.Fnv.rowS [])]) (ent_adopt (t := 5) (d := 5) 9 1 Bytes [] AL.Fnv.rowS (by kernel_rfl) (by kernel_rfl) (by kernel_rfl) (by kernel_rfl)) ?_
 refine AMx.ent (s' := AS.lst 35 [(0, vc (st s)), (1, vc (u8 (k.toNat : Int))), (5, vo 5), (6, vc (i6 0)), (7, vc (i6 0))] [(5, AObj.grow 9 1 Bytes [] AL.Fnv.rowS [])]) (ent_proj [0, 1, 5, 6, 7] [5]) ?_
 refine AMx.loop (fun mm ss => ∃ (i : Nat) (f : Nat) (o : List Bytes), (Sep.SInv k s i f o) ∧ mm = s.length + 1 - i ∧ ss = AS.lst 35 [(0, vc (st s)), (1, vc (u8 (k.toNat : Int))), (5, vo 5), (6, vc (i6 (f : Int))), (7, vc (i6 (i : Int)))] [(5, AObj.grow 9 1 Bytes [] AL.Fnv.rowS o)]) ⟨0, 0, [], ?_, rfl, ?_⟩ ?_
 · exact Sep.sinv_0 k s
 · rfl
 rintro mm ss ⟨i, f, o, hP, rfl, rfl⟩
 refine gQ ?_
 refine gS [] [] 35 [(0, vc (st s)), (1, vc (u8 (k.toNat : Int))), (5, vo 5), (6, vc (i6 (f : Int))), (7, vc (i6 (i : Int))), (11, vc (bo (decide ((i : Int) ≤ (List.length s : Int)))))] [(5, AObj.grow 9 1 Bytes [] AL.Fnv.rowS o)] trivial ?_
 refine gC ((i : Int) ≤ (List.length s : Int)) (fun hc1 => ?_) fun hc1 => ?_
 ·
  refine AMx.skip ?_
  refine gQ ?_
  refine AMx.block ?_
  refine gS [] [((decide ((i : Int) = (List.length s : Int))) = false) → allP [], ((decide ((i : Int) = (List.length s : Int))) = false) → allP [], ((decide ((i : Int) = (List.length s : Int))) = false) → allP [(decide ((i : Int) = (List.length s : Int))) = false, (decide ((i : Int) = (List.length s : Int))) = false, (0 : Int) ≤ (i : Int), (i : Int) < List.length s], ((decide ((i : Int) = (List.length s : Int))) = false) → allP [], ((decide ((i : Int) = (List.length s : Int))) = false) → allP [(decide ((i : Int) = (List.length s : Int))) = false, (decide ((i : Int) = (List.length s : Int))) = false], (decide ((i : Int) = (List.length s : Int))) = false → allP [(decide ((i : Int) = (List.length s : Int))) = false]] 35 [(0, vc (st s)), (1, vc (u8 (k.toNat : Int))), (5, vo 5), (6, vc (i6 (f : Int))), (7, vc (i6 (i : Int))), (24, vc (bo ((decide ((i : Int) = (List.length s : Int))) || (decide (((List.getD s i 0).toNat : Int) = (k.toNat : Int))))))] [(5, AObj.grow 9 1 Bytes [] AL.Fnv.rowS o)] ⟨(fun _ => trivial), (fun _ => trivial), (fun hp => by have hq := hp; (try simp only [decide_eq_true_eq, decide_eq_false_iff_not, Bool.and_eq_true, Bool.or_eq_true, Bool.and_eq_false_iff, Bool.or_eq_false_iff, Bool.not_eq_true', Bool.not_eq_false', Bool.not_eq_true, Bool.not_eq_false] at hq); exact ⟨hp, hp, (show (0 : Int) ≤ (i : Int) from (by first | omega | (have hz := Sep.sinv_len hP; first | omega | ((try simp only [List.length_append, List.length_cons, List.length_nil]); omega)))), (show (i : Int) < List.length s from (by first | omega | (have hz := Sep.sinv_len hP; first | omega | ((try simp only [List.length_append, List.length_cons, List.length_nil]); omega))))⟩), (fun _ => trivial), (fun hp => ⟨hp, hp⟩), (fun hp2 => (by first | exact hp2 | exact ⟨hp, hp2⟩))⟩ ?_
  refine gB (((decide ((i : Int) = (List.length s : Int))) || (decide (((List.getD s i 0).toNat : Int) = (k.toNat : Int))))) (fun hc2 => ?_) fun hc2 => ?_
  ·
   try simp only [xT, xF, xO, xP] at hc2
   refine gS [(5, CE.obj (AObj.grow 9 1 Bytes [] AL.Fnv.rowS [List.drop f (List.take i s)])), (6, CE.obj (AObj.grow 9 1 Bytes [] AL.Fnv.rowS (o ++ [List.drop f (List.take i s)])))] [0 ≤ (i : Int), (i : Int) ≤ List.length s, 0 ≤ (f : Int), (f : Int) ≤ (i : Int), flat 1 AL.Fnv.rowS [List.drop f (List.take i s)] = [.s (st (List.drop f (List.take i s)))], List.length ([List.drop f (List.take i s)] : List Bytes) = 1, AppC (flat 1 AL.Fnv.rowS [List.drop f (List.take i s)]) (List.length ([List.drop f (List.take i s)] : List Bytes)) 16 (AObj.grow 9 1 Bytes [] AL.Fnv.rowS o) (AObj.grow 9 1 Bytes [] AL.Fnv.rowS (o ++ [List.drop f (List.take i s)]))] 35 [(0, vc (st s)), (1, vc (u8 (k.toNat : Int))), (5, vo 31), (7, vc (i6 (i : Int)))] [(31, AObj.grow 9 1 Bytes [] AL.Fnv.rowS (o ++ [List.drop f (List.take i s)]))] ⟨(show 0 ≤ (i : Int) from (by first | omega | (have hz := Sep.sinv_len hP; first | omega | ((try simp only [List.length_append, List.length_cons, List.length_nil]); omega)))), (show (i : Int) ≤ List.length s from (by first | omega | (have hz := Sep.sinv_len hP; first | omega | ((try simp only [List.length_append, List.length_cons, List.length_nil]); omega)))), (show 0 ≤ (f : Int) from (by first | omega | (have hz := Sep.sinv_len hP; first | omega | ((try simp only [List.length_append, List.length_cons, List.length_nil]); omega)))), (show (f : Int) ≤ (i : Int) from (by first | omega | (have hz := Sep.sinv_len hP; first | omega | ((try simp only [List.length_append, List.length_cons, List.length_nil]); omega)))), rfl, rfl, (⟨_, rfl, rfl, rfl, by have hz := Sep.sinv_len hP; simp only [List.length_append, List.length_cons, List.length_nil]; omega, by have hz := Sep.sinv_len hP; simp only [maxLen, List.length_append, List.length_cons, List.length_nil]; omega⟩)⟩ ?_
   refine gR [] [InR .i64 ((i : Int) + 1)] 35 [(0, vc (st s)), (1, vc (u8 (k.toNat : Int))), (5, vo 31), (6, vc (i6 ((i : Int) + 1))), (7, vc (i6 (i : Int)))] [(31, AObj.grow 9 1 Bytes [] AL.Fnv.rowS (o ++ [List.drop f (List.take i s)]))] (show InR .i64 ((i : Int) + 1) from (inR64 (by first | omega | (have hz := Sep.sinv_len hP; first | omega | ((try simp only [List.length_append, List.length_cons, List.length_nil]); omega))) (by first | omega | (have hz := Sep.sinv_len hP; first | omega | ((try simp only [List.length_append, List.length_cons, List.length_nil]); omega))))) ?_
   refine AMx.blk ?_
   refine gR [] [InR .i64 ((i : Int) + 1)] 35 [(0, vc (st s)), (1, vc (u8 (k.toNat : Int))), (5, vo 31), (6, vc (i6 ((i : Int) + 1))), (7, vc (i6 ((i : Int) + 1)))] [(31, AObj.grow 9 1 Bytes [] AL.Fnv.rowS (o ++ [List.drop f (List.take i s)]))] (show InR .i64 ((i : Int) + 1) from (inR64 (by first | omega | (have hz := Sep.sinv_len hP; first | omega | ((try simp only [List.length_append, List.length_cons, List.length_nil]); omega))) (by first | omega | (have hz := Sep.sinv_len hP; first | omega | ((try simp only [List.length_append, List.length_cons, List.length_nil]); omega))))) ?_
   refine AMx.ent_inv (s' := AS.lst 35 [(0, vc (st s)), (1, vc (u8 (k.toNat : Int))), (5, vo 5), (6, vc (i6 ((i : Int) + 1))), (7, vc (i6 ((i : Int) + 1)))] [(5, AObj.grow 9 1 Bytes [] AL.Fnv.rowS (o ++ [List.drop f (List.take i s)]))]) (ent_swap 31 5 (by kernel_rfl) (by kernel_rfl)) ?_
   refine AMx.ent_inv (s' := AS.lst 35 [(0, vc (st s)), (1, vc (u8 (k.toNat : Int))), (5, vo 5), (6, vc (i6 ((i : Int) + 1))), (7, vc (i6 ((i : Int) + 1)))] [(5, AObj.grow 9 1 Bytes [] AL.Fnv.rowS (o ++ [List.drop f (List.take i s)]))]) (ent_proj [0, 1, 5, 6, 7] [5]) ?_
   refine AMx.inv ⟨_, ?_, i + 1, i + 1, o ++ [(List.drop f (List.take i s))], ?_, rfl, ?_⟩
   rotate_left
   · exact piece_hit hP (by omega) (by assumption)
   · rfl
   · omega
  ·
   try simp only [xT, xF, xO, xP] at hc2
   refine AMx.skip ?_
   refine AMx.blk ?_
   refine gR [] [InR .i64 ((i : Int) + 1)] 35 [(0, vc (st s)), (1, vc (u8 (k.toNat : Int))), (5, vo 5), (6, vc (i6 (f : Int))), (7, vc (i6 ((i : Int) + 1)))] [(5, AObj.grow 9 1 Bytes [] AL.Fnv.rowS o)] (show InR .i64 ((i : Int) + 1) from (inR64 (by first | omega | (have hz := Sep.sinv_len hP; first | omega | ((try simp only [List.length_append, List.length_cons, List.length_nil]); omega))) (by first | omega | (have hz := Sep.sinv_len hP; first | omega | ((try simp only [List.length_append, List.length_cons, List.length_nil]); omega))))) ?_
   refine AMx.ent_inv (s' := AS.lst 35 [(0, vc (st s)), (1, vc (u8 (k.toNat : Int))), (5, vo 5), (6, vc (i6 (f : Int))), (7, vc (i6 ((i : Int) + 1)))] [(5, AObj.grow 9 1 Bytes [] AL.Fnv.rowS o)]) (ent_proj [0, 1, 5, 6, 7] [5]) ?_
   refine AMx.inv ⟨_, ?_, i + 1, f, o, ?_, rfl, ?_⟩
   rotate_left
   · exact piece_not hP (by omega) (by omega)
   · rfl
   · omega
 ·
  refine AMx.exit ?_
  refine AMx.code_exit ?_
  refine AMx.inv_exit ?_
  refine AMx.blk_exit ?_
  refine gS [] [] 35 [(4, vo 5)] [(5, AObj.grow 9 1 Bytes [] AL.Fnv.rowS o)] trivial ?_
  refine AMx.ent (s' := AS.lst 35 [(4, vc (AL.Fnv.slS o))] []) (ent_freeze (id := 5) (T := 9) (by kernel_rfl)) ?_
  exact gT (vc (AL.Fnv.slS o)) (by rw [Sep.sinv_end hP (by omega)])
end AL.Ask
namespace AL.Reply
set_option linter.unusedVariables false
set_option linter.unusedSimpArgs false
end AL.Reply
namespace AL.Reply
open Go Go.Proofs AL
set_option linter.unusedVariables false
set_option linter.unusedSimpArgs false
open AL.Ask (scanN valS sizeB digB numS hexS unhexS)
theorem f43_body : Tryd.f43.body = some (.seq (.region 0 (rg Tryd.f43 0) false) (.seq (.region 1 (rg Tryd.f43 1) false) (.seq (.region 2 (rg Tryd.f43 2) false) (.seq (.seq (.region 3 (rg Tryd.f43 3) false) (.block 0 (.loop (.seq (.region 4 (rg Tryd.f43 4) false) (.seq (.cond (.tmp 28) (.skip) (.exit 0)) (.seq (.block 1 (.seq (.region 5 (rg Tryd.f43 5) false) (.seq (.region 6 (rg Tryd.f43 6) false) (.region 7 (rg Tryd.f43 7) false)))) (.region 8 (rg Tryd.f43 8) false))))))) (.seq (.region 9 (rg Tryd.f43 9) false) (.ret)))))) := by kernel_rfl
set_option maxRecDepth 100000 in
set_option maxHeartbeats 8000000 in
theorem num_c (s : Bytes) : PureX Tryd.prog 43 [tc (st s)] (vc (i6 (scanN s))) (0 ≤ scanN s) := by
 refine PureX.of_body Tryd.func43 f43_body (by kernel_rfl) Tryd.ntmps43 (by kernel_rfl) (by kernel_rfl) ?_
 refine AMx.str 0 (b := s) rfl (fun hls => ?_)
 simp only [maxLen] at hls
 refine gS [] [] 46 [(0, vc (st s))] [] trivial ?_
 refine gSx [(17, CE.call [] [] (AV.tup []) [])] [(17, (((decide (1 ≤ (List.length s : Int))) && (decide ((List.length s : Int) ≤ 3))) && ((decide (s = [48])) || (!decide (((List.getD s 0 0).toNat : Int) = 48)))) = true)] [((decide (1 ≤ (List.length s : Int))) = true) → allP [], ((decide (1 ≤ (List.length s : Int))) = true) → allP [(decide (1 ≤ (List.length s : Int))) = true], ((decide (1 ≤ (List.length s : Int))) = true) → allP [(decide (1 ≤ (List.length s : Int))) = true], (decide (1 ≤ (List.length s : Int))) = true → allP [(decide (1 ≤ (List.length s : Int))) = true], (((decide (1 ≤ (List.length s : Int))) && (decide ((List.length s : Int) ≤ 3))) = true) → allP [], (((decide (1 ≤ (List.length s : Int))) && (decide ((List.length s : Int) ≤ 3))) = true) → allP [((decide (1 ≤ (List.length s : Int))) && (decide ((List.length s : Int) ≤ 3))) = true], (((decide (1 ≤ (List.length s : Int))) && (decide ((List.length s : Int) ≤ 3))) = true) → allP [((decide (1 ≤ (List.length s : Int))) && (decide ((List.length s : Int) ≤ 3))) = true], ((((decide (1 ≤ (List.length s : Int))) && (decide ((List.length s : Int) ≤ 3))) = true) ∧ (decide (s = [48])) = false) → allP [], ((((decide (1 ≤ (List.length s : Int))) && (decide ((List.length s : Int) ≤ 3))) = true) ∧ (decide (s = [48])) = false) → allP [(((decide (1 ≤ (List.length s : Int))) && (decide ((List.length s : Int) ≤ 3))) = true) ∧ (decide (s = [48])) = false, (0 : Int) ≤ 0, (0 : Int) < List.length s], ((((decide (1 ≤ (List.length s : Int))) && (decide ((List.length s : Int) ≤ 3))) = true) ∧ (decide (s = [48])) = false) → allP [(((decide (1 ≤ (List.length s : Int))) && (decide ((List.length s : Int) ≤ 3))) = true) ∧ (decide (s = [48])) = false], (((decide (1 ≤ (List.length s : Int))) && (decide ((List.length s : Int) ≤ 3))) = true) → allP [((decide (1 ≤ (List.length s : Int))) && (decide ((List.length s : Int) ≤ 3))) = true, (decide (s = [48])) = false → allP [(((decide (1 ≤ (List.length s : Int))) && (decide ((List.length s : Int) ≤ 3))) = true) ∧ (decide (s = [48])) = false]], ((decide (1 ≤ (List.length s : Int))) && (decide ((List.length s : Int) ≤ 3))) = true → allP [((decide (1 ≤ (List.length s : Int))) && (decide ((List.length s : Int) ≤ 3))) = true], PureX Tryd.prog 42 [tc (bo (((decide (1 ≤ (List.length s : Int))) && (decide ((List.length s : Int) ≤ 3))) && ((decide (s = [48])) || (!decide (((List.getD s 0 0).toNat : Int) = 48)))))] (AV.tup []) ((((decide (1 ≤ (List.length s : Int))) && (decide ((List.length s : Int) ≤ 3))) && ((decide (s = [48])) || (!decide (((List.getD s 0 0).toNat : Int) = 48)))) = true)] 46 [(0, vc (st s))] [] ⟨(fun _ => trivial), (fun hp => hp), (fun hp => hp), (fun hp2 => (by first | exact hp2 | exact ⟨hp, hp2⟩)), (fun _ => trivial), (fun hp => hp), (fun hp => hp), (fun _ => trivial), (fun hp => by have hq := hp; (try simp only [decide_eq_true_eq, decide_eq_false_iff_not, Bool.and_eq_true, Bool.or_eq_true, Bool.and_eq_false_iff, Bool.or_eq_false_iff, Bool.not_eq_true', Bool.not_eq_false', Bool.not_eq_true, Bool.not_eq_false] at hq); exact ⟨hp, (show (0 : Int) ≤ 0 from (by first | omega | (have hb := UInt8.toNat_lt (List.getD s k 0); have hs3 := num_size3 hx1; have hv := Ask.val_rng s k (by omega) (by omega) hD; have hp := Ask.pow_le3 (p := k) (by omega); first | omega | (have hd := num_digx hx2; have hw := Ask.wrap_u8 (n := ((List.getD s k 0).toNat : Int) - 48) (by omega) (by omega); omega)))), (show (0 : Int) < List.length s from (by first | omega | (have hb := UInt8.toNat_lt (List.getD s k 0); have hs3 := num_size3 hx1; have hv := Ask.val_rng s k (by omega) (by omega) hD; have hp := Ask.pow_le3 (p := k) (by omega); first | omega | (have hd := num_digx hx2; have hw := Ask.wrap_u8 (n := ((List.getD s k 0).toNat : Int) - 48) (by omega) (by omega); omega))))⟩), (fun hp => hp), (fun hp => by have hq := hp; (try simp only [decide_eq_true_eq, decide_eq_false_iff_not, Bool.and_eq_true, Bool.or_eq_true, Bool.and_eq_false_iff, Bool.or_eq_false_iff, Bool.not_eq_true', Bool.not_eq_false', Bool.not_eq_true, Bool.not_eq_false] at hq); exact ⟨hp, (fun hp2 => (by first | exact hp2 | exact ⟨hp, hp2⟩))⟩), (fun hp2 => (by first | exact hp2 | exact ⟨hp, hp2⟩)), (must_c (((decide (1 ≤ (List.length s : Int))) && (decide ((List.length s : Int) ≤ 3))) && ((decide (s = [48])) || (!decide (((List.getD s 0 0).toNat : Int) = 48)))))⟩ (fun hok => (show ((((decide (1 ≤ (List.length s : Int))) && (decide ((List.length s : Int) ≤ 3))) && ((decide (s = [48])) || (!decide (((List.getD s 0 0).toNat : Int) = 48)))) = true) by rw [num_size]; exact (scan_ok.1 hok).1)) (fun hx1 => ?_)
 replace hx1 : ((((decide (1 ≤ (List.length s : Int))) && (decide ((List.length s : Int) ≤ 3))) && ((decide (s = [48])) || (!decide (((List.getD s 0 0).toNat : Int) = 48)))) = true) := hx1
 refine gS [] [] 46 [(0, vc (st s)), (3, vc (i6 0))] [] trivial ?_
 refine gQ ?_
 refine gS [] [] 46 [(3, vc (i6 0)), (25, vc (SC.sl 1 UInt8 0 rowU8 s)), (26, vc (i6 (List.length s : Int))), (27, vc (i6 0))] [] trivial ?_
 refine AMx.block ?_
 refine AMx.ent (s' := AS.lst 46 [(3, vc (i6 0)), (25, vc (SC.sl 1 UInt8 0 rowU8 s)), (26, vc (i6 (List.length s : Int))), (27, vc (i6 0))] []) (ent_proj [3, 25, 26, 27] []) ?_
 refine AMx.loop (fun mm ss => ∃ (k : Nat), (k ≤ s.length ∧ (List.take k s).all digB = true) ∧ mm = s.length - k ∧ ss = AS.lst 46 [(3, vc (i6 (valS (List.take k s)))), (25, vc (SC.sl 1 UInt8 0 rowU8 s)), (26, vc (i6 (List.length s : Int))), (27, vc (i6 (k : Int)))] []) ⟨0, ?_, rfl, ?_⟩ ?_
 · exact ⟨Nat.zero_le _, rfl⟩
 · rfl
 rintro mm ss ⟨k, ⟨hI, hD⟩, rfl, rfl⟩
 refine gS [] [] 46 [(3, vc (i6 (valS (List.take k s)))), (25, vc (SC.sl 1 UInt8 0 rowU8 s)), (26, vc (i6 (List.length s : Int))), (27, vc (i6 (k : Int))), (28, vc (bo (decide ((k : Int) < (List.length s : Int)))))] [] trivial ?_
 refine gQ ?_
 refine gC ((k : Int) < (List.length s : Int)) (fun hc1 => ?_) fun hc1 => ?_
 ·
  refine AMx.skip ?_
  refine gQ ?_
  refine AMx.block ?_
  refine gS [] [(0 : Int) ≤ (k : Int), (k : Int) < List.length s] 46 [(3, vc (i6 (valS (List.take k s)))), (5, vc (u8 ((List.getD s k 0).toNat : Int))), (25, vc (SC.sl 1 UInt8 0 rowU8 s)), (26, vc (i6 (List.length s : Int))), (27, vc (i6 (k : Int)))] [] ⟨(show (0 : Int) ≤ (k : Int) from (by first | omega | (have hb := UInt8.toNat_lt (List.getD s k 0); have hs3 := num_size3 hx1; have hv := Ask.val_rng s k (by omega) (by omega) hD; have hp := Ask.pow_le3 (p := k) (by omega); first | omega | (have hd := num_digx hx2; have hw := Ask.wrap_u8 (n := ((List.getD s k 0).toNat : Int) - 48) (by omega) (by omega); omega)))), (show (k : Int) < List.length s from (by first | omega | (have hb := UInt8.toNat_lt (List.getD s k 0); have hs3 := num_size3 hx1; have hv := Ask.val_rng s k (by omega) (by omega) hD; have hp := Ask.pow_le3 (p := k) (by omega); first | omega | (have hd := num_digx hx2; have hw := Ask.wrap_u8 (n := ((List.getD s k 0).toNat : Int) - 48) (by omega) (by omega); omega))))⟩ ?_
  refine gSx [(6, CE.call [] [] (AV.tup []) [])] [(6, ((decide (48 ≤ ((List.getD s k 0).toNat : Int))) && (decide (((List.getD s k 0).toNat : Int) ≤ 57))) = true)] [((decide (48 ≤ ((List.getD s k 0).toNat : Int))) = true) → allP [], ((decide (48 ≤ ((List.getD s k 0).toNat : Int))) = true) → allP [(decide (48 ≤ ((List.getD s k 0).toNat : Int))) = true], (decide (48 ≤ ((List.getD s k 0).toNat : Int))) = true → allP [(decide (48 ≤ ((List.getD s k 0).toNat : Int))) = true], PureX Tryd.prog 42 [tc (bo ((decide (48 ≤ ((List.getD s k 0).toNat : Int))) && (decide (((List.getD s k 0).toNat : Int) ≤ 57))))] (AV.tup []) (((decide (48 ≤ ((List.getD s k 0).toNat : Int))) && (decide (((List.getD s k 0).toNat : Int) ≤ 57))) = true)] 46 [(3, vc (i6 (valS (List.take k s)))), (5, vc (u8 ((List.getD s k 0).toNat : Int))), (25, vc (SC.sl 1 UInt8 0 rowU8 s)), (26, vc (i6 (List.length s : Int))), (27, vc (i6 (k : Int)))] [] ⟨(fun _ => trivial), (fun hp => hp), (fun hp2 => (by first | exact hp2 | exact ⟨hp, hp2⟩)), (must_c ((decide (48 ≤ ((List.getD s k 0).toNat : Int))) && (decide (((List.getD s k 0).toNat : Int) ≤ 57))))⟩ (fun hok => (show (((decide (48 ≤ ((List.getD s k 0).toNat : Int))) && (decide (((List.getD s k 0).toNat : Int) ≤ 57))) = true) by exact num_dig (scan_ok.1 hok).2 (by omega))) (fun hx2 => ?_)
  replace hx2 : (((decide (48 ≤ ((List.getD s k 0).toNat : Int))) && (decide (((List.getD s k 0).toNat : Int) ≤ 57))) = true) := hx2
  refine gR [] [InR .i64 (10 * (valS (List.take k s))), InR .i64 ((10 * (valS (List.take k s))) + (IntKind.wrap .u8 (((List.getD s k 0).toNat : Int) - 48)))] 46 [(3, vc (i6 ((10 * (valS (List.take k s))) + (IntKind.wrap .u8 (((List.getD s k 0).toNat : Int) - 48))))), (25, vc (SC.sl 1 UInt8 0 rowU8 s)), (26, vc (i6 (List.length s : Int))), (27, vc (i6 (k : Int)))] [] ⟨(show InR .i64 (10 * (valS (List.take k s))) from (inR64 (by first | omega | (have hb := UInt8.toNat_lt (List.getD s k 0); have hs3 := num_size3 hx1; have hv := Ask.val_rng s k (by omega) (by omega) hD; have hp := Ask.pow_le3 (p := k) (by omega); first | omega | (have hd := num_digx hx2; have hw := Ask.wrap_u8 (n := ((List.getD s k 0).toNat : Int) - 48) (by omega) (by omega); omega))) (by first | omega | (have hb := UInt8.toNat_lt (List.getD s k 0); have hs3 := num_size3 hx1; have hv := Ask.val_rng s k (by omega) (by omega) hD; have hp := Ask.pow_le3 (p := k) (by omega); first | omega | (have hd := num_digx hx2; have hw := Ask.wrap_u8 (n := ((List.getD s k 0).toNat : Int) - 48) (by omega) (by omega); omega))))), (show InR .i64 ((10 * (valS (List.take k s))) + (IntKind.wrap .u8 (((List.getD s k 0).toNat : Int) - 48))) from (inR64 (by first | omega | (have hb := UInt8.toNat_lt (List.getD s k 0); have hs3 := num_size3 hx1; have hv := Ask.val_rng s k (by omega) (by omega) hD; have hp := Ask.pow_le3 (p := k) (by omega); first | omega | (have hd := num_digx hx2; have hw := Ask.wrap_u8 (n := ((List.getD s k 0).toNat : Int) - 48) (by omega) (by omega); omega))) (by first | omega | (have hb := UInt8.toNat_lt (List.getD s k 0); have hs3 := num_size3 hx1; have hv := Ask.val_rng s k (by omega) (by omega) hD; have hp := Ask.pow_le3 (p := k) (by omega); first | omega | (have hd := num_digx hx2; have hw := Ask.wrap_u8 (n := ((List.getD s k 0).toNat : Int) - 48) (by omega) (by omega); omega)))))⟩ ?_
  refine AMx.blk ?_
  refine gR [] [InR .i64 ((k : Int) + 1)] 46 [(3, vc (i6 ((10 * (valS (List.take k s))) + (IntKind.wrap .u8 (((List.getD s k 0).toNat : Int) - 48))))), (25, vc (SC.sl 1 UInt8 0 rowU8 s)), (26, vc (i6 (List.length s : Int))), (27, vc (i6 ((k : Int) + 1)))] [] (show InR .i64 ((k : Int) + 1) from (inR64 (by first | omega | (have hb := UInt8.toNat_lt (List.getD s k 0); have hs3 := num_size3 hx1; have hv := Ask.val_rng s k (by omega) (by omega) hD; have hp := Ask.pow_le3 (p := k) (by omega); first | omega | (have hd := num_digx hx2; have hw := Ask.wrap_u8 (n := ((List.getD s k 0).toNat : Int) - 48) (by omega) (by omega); omega))) (by first | omega | (have hb := UInt8.toNat_lt (List.getD s k 0); have hs3 := num_size3 hx1; have hv := Ask.val_rng s k (by omega) (by omega) hD; have hp := Ask.pow_le3 (p := k) (by omega); first | omega | (have hd := num_digx hx2; have hw := Ask.wrap_u8 (n := ((List.getD s k 0).toNat : Int) - 48) (by omega) (by omega); omega))))) ?_
  refine AMx.ent_inv (s' := AS.lst 46 [(3, vc (i6 ((10 * (valS (List.take k s))) + (IntKind.wrap .u8 (((List.getD s k 0).toNat : Int) - 48))))), (25, vc (SC.sl 1 UInt8 0 rowU8 s)), (26, vc (i6 (List.length s : Int))), (27, vc (i6 ((k : Int) + 1)))] []) (ent_proj [3, 25, 26, 27] []) ?_
  refine AMx.inv ⟨_, ?_, k + 1, ?_, rfl, ?_⟩
  rotate_left
  · exact ⟨by omega, num_all (by omega) hD hx2⟩
  · rw [← num_step (by omega) hx2] <;> rfl
  · omega
 ·
  refine AMx.exit ?_
  refine AMx.code_exit ?_
  refine AMx.inv_exit ?_
  refine AMx.blk_exit ?_
  rw [show List.take k s = s from List.take_of_length_le (by omega)]
  refine gS [] [] 46 [(2, vc (i6 (valS s)))] [] trivial ?_
  exact gTx (by exact num_fin hx1 (by omega) hD) (vc (i6 (valS s))) (by rw [show scanN s = valS s from by rw [num_val hx1 (by omega) hD]])
theorem f76_body : Tryd.f76.body = some (.seq (.region 0 (rg Tryd.f76 0) false) (.seq (.region 1 (rg Tryd.f76 1) false) (.seq (.region 2 (rg Tryd.f76 2) false) (.ret)))) := by kernel_rfl
set_option maxRecDepth 100000 in
set_option maxHeartbeats 8000000 in
theorem flag_c (s : Bytes) : PureX Tryd.prog 76 [tc (st s)] (vc (bo (decide (s = [49])))) (flagOk s) := by
 refine PureX.of_body Tryd.func76 f76_body (by kernel_rfl) Tryd.ntmps76 (by kernel_rfl) (by kernel_rfl) ?_
 refine gS [] [] 12 [(0, vc (st s))] [] trivial ?_
 refine gSx [(6, CE.call [] [] (AV.tup []) [])] [(6, ((decide (s = [48])) || (decide (s = [49]))) = true)] [((decide (s = [48])) = false) → allP [], ((decide (s = [48])) = false) → allP [(decide (s = [48])) = false], (decide (s = [48])) = false → allP [(decide (s = [48])) = false], PureX Tryd.prog 42 [tc (bo ((decide (s = [48])) || (decide (s = [49]))))] (AV.tup []) (((decide (s = [48])) || (decide (s = [49]))) = true)] 12 [(0, vc (st s))] [] ⟨(fun _ => trivial), (fun hp => hp), (fun hp2 => (by first | exact hp2 | exact ⟨hp, hp2⟩)), (must_c ((decide (s = [48])) || (decide (s = [49]))))⟩ (fun hok => (show (((decide (s = [48])) || (decide (s = [49]))) = true) by rw [flag_b]; exact hok)) (fun hx1 => ?_)
 replace hx1 : (((decide (s = [48])) || (decide (s = [49]))) = true) := hx1
 refine gS [] [] 12 [(2, vc (bo (decide (s = [49]))))] [] trivial ?_
 exact gTx (by rw [flag_b] at hx1; exact hx1) (vc (bo (decide (s = [49])))) rfl
theorem f94_body : Tryd.f94.body = some (.seq (.region 0 (rg Tryd.f94 0) false) (.seq (.region 1 (rg Tryd.f94 1) false) (.ret))) := by kernel_rfl
set_option maxRecDepth 100000 in
set_option maxHeartbeats 8000000 in
theorem HasSuf_c (k : UInt8) (s : Bytes) : Pure Tryd.prog 94 [tc (st s), tc (st [k])] (vc (bo (sufS k s))) := by
 refine Pure.of_body Tryd.func94 f94_body (by kernel_rfl) Tryd.ntmps94 (by kernel_rfl) (by kernel_rfl) ?_
 refine AMx.str 0 (b := s) rfl (fun hls => ?_)
 simp only [maxLen] at hls
 refine gS [] [] 21 [(0, vc (st s)), (1, vc (st [k]))] [] trivial ?_
 refine gS [] [((decide ((List.length ([k] : List UInt8) : Int) ≤ (List.length s : Int))) = true) → allP [], ((decide ((List.length ([k] : List UInt8) : Int) ≤ (List.length s : Int))) = true) → allP [], ((decide ((List.length ([k] : List UInt8) : Int) ≤ (List.length s : Int))) = true) → allP [(decide ((List.length ([k] : List UInt8) : Int) ≤ (List.length s : Int))) = true], ((decide ((List.length ([k] : List UInt8) : Int) ≤ (List.length s : Int))) = true) → allP [], ((decide ((List.length ([k] : List UInt8) : Int) ≤ (List.length s : Int))) = true) → allP [(decide ((List.length ([k] : List UInt8) : Int) ≤ (List.length s : Int))) = true], ((decide ((List.length ([k] : List UInt8) : Int) ≤ (List.length s : Int))) = true) → allP [(decide ((List.length ([k] : List UInt8) : Int) ≤ (List.length s : Int))) = true, (decide ((List.length ([k] : List UInt8) : Int) ≤ (List.length s : Int))) = true, InR .i64 ((List.length s : Int) - (List.length ([k] : List UInt8) : Int))], ((decide ((List.length ([k] : List UInt8) : Int) ≤ (List.length s : Int))) = true) → allP [(decide ((List.length ([k] : List UInt8) : Int) ≤ (List.length s : Int))) = true, (decide ((List.length ([k] : List UInt8) : Int) ≤ (List.length s : Int))) = true, 0 ≤ (List.length s : Int) - (List.length ([k] : List UInt8) : Int), (List.length s : Int) - (List.length ([k] : List UInt8) : Int) ≤ List.length s], ((decide ((List.length ([k] : List UInt8) : Int) ≤ (List.length s : Int))) = true) → allP [], ((decide ((List.length ([k] : List UInt8) : Int) ≤ (List.length s : Int))) = true) → allP [(decide ((List.length ([k] : List UInt8) : Int) ≤ (List.length s : Int))) = true, (decide ((List.length ([k] : List UInt8) : Int) ≤ (List.length s : Int))) = true], (decide ((List.length ([k] : List UInt8) : Int) ≤ (List.length s : Int))) = true → allP [(decide ((List.length ([k] : List UInt8) : Int) ≤ (List.length s : Int))) = true]] 21 [(4, vc (bo ((decide ((List.length ([k] : List UInt8) : Int) ≤ (List.length s : Int))) && (decide (List.drop ((List.length s : Int) - (List.length ([k] : List UInt8) : Int)).toNat s = [k])))))] [] ⟨(fun _ => trivial), (fun _ => trivial), (fun hp => hp), (fun _ => trivial), (fun hp => hp), (fun hp => by have hq := hp; (try simp only [decide_eq_true_eq, decide_eq_false_iff_not, Bool.and_eq_true, Bool.or_eq_true, Bool.and_eq_false_iff, Bool.or_eq_false_iff, Bool.not_eq_true', Bool.not_eq_false', Bool.not_eq_true, Bool.not_eq_false] at hq); exact ⟨hp, hp, (show InR .i64 ((List.length s : Int) - (List.length ([k] : List UInt8) : Int)) from (inR64 (by first | omega | (have h1 : List.length ([k] : List UInt8) = 1 := rfl; omega)) (by first | omega | (have h1 : List.length ([k] : List UInt8) = 1 := rfl; omega))))⟩), (fun hp => by have hq := hp; (try simp only [decide_eq_true_eq, decide_eq_false_iff_not, Bool.and_eq_true, Bool.or_eq_true, Bool.and_eq_false_iff, Bool.or_eq_false_iff, Bool.not_eq_true', Bool.not_eq_false', Bool.not_eq_true, Bool.not_eq_false] at hq); exact ⟨hp, hp, (show 0 ≤ (List.length s : Int) - (List.length ([k] : List UInt8) : Int) from (by first | omega | (have h1 : List.length ([k] : List UInt8) = 1 := rfl; omega))), (show (List.length s : Int) - (List.length ([k] : List UInt8) : Int) ≤ List.length s from (by first | omega | (have h1 : List.length ([k] : List UInt8) = 1 := rfl; omega)))⟩), (fun _ => trivial), (fun hp => ⟨hp, hp⟩), (fun hp2 => (by first | exact hp2 | exact ⟨hp, hp2⟩))⟩ ?_
 exact gT (vc (bo ((decide ((List.length ([k] : List UInt8) : Int) ≤ (List.length s : Int))) && (decide (List.drop ((List.length s : Int) - (List.length ([k] : List UInt8) : Int)).toNat s = [k]))))) (by rw [suf_b])
theorem f91_body : Tryd.f91.body = some (.seq (.region 0 (rg Tryd.f91 0) false) (.seq (.seq (.region 1 (rg Tryd.f91 1) false) (.cond (.tmp 9) (.seq (.region 2 (rg Tryd.f91 2) false) (.ret)) (.skip))) (.seq (.region 3 (rg Tryd.f91 3) false) (.ret)))) := by kernel_rfl
set_option maxRecDepth 100000 in
set_option maxHeartbeats 8000000 in
theorem LCutSuf_c (k : UInt8) (s : Bytes) : Pure Tryd.prog 91 [tc (st s), tc (st [k])] (AV.tup [tc (st (cutS k s)), tc (bo (sufS k s))]) := by
 refine Pure.of_body Tryd.func91 f91_body (by kernel_rfl) Tryd.ntmps91 (by kernel_rfl) (by kernel_rfl) ?_
 refine AMx.str 0 (b := s) rfl (fun hls => ?_)
 simp only [maxLen] at hls
 refine gS [] [] 18 [(0, vc (st s)), (1, vc (st [k]))] [] trivial ?_
 refine gQ ?_
 refine gS [(2, CE.call [] [] (vc (bo (sufS k s))) [])] [Spec Tryd.prog 94 [tc (st s), tc (st [k])] (ofH []) (vc (bo (sufS k s))) (ofH [])] 18 [(0, vc (st s)), (1, vc (st [k])), (9, vc (bo (!(sufS k s))))] [] (HasSuf_c k s) ?_
 refine gB (!(sufS k s)) (fun hc1 => ?_) fun hc1 => ?_
 ·
  try simp only [xT, xF, xN, xM] at hc1
  refine gS [] [] 18 [(4, vc (st s)), (5, vc (bo false))] [] trivial ?_
  exact gT (AV.tup [tc (st s), tc (bo false)]) (by first | rw [cut_n hc1, hc1] | rw [cut_y hc1, hc1])
 ·
  try simp only [xT, xF, xN, xM] at hc1
  refine AMx.skip ?_
  refine gS [] [InR .i64 ((List.length s : Int) - (List.length ([k] : List UInt8) : Int)), 0 ≤ (List.length s : Int) - (List.length ([k] : List UInt8) : Int), (List.length s : Int) - (List.length ([k] : List UInt8) : Int) ≤ List.length s] 18 [(4, vc (st (List.take ((List.length s : Int) - (List.length ([k] : List UInt8) : Int)).toNat s))), (5, vc (bo true))] [] ⟨(show InR .i64 ((List.length s : Int) - (List.length ([k] : List UInt8) : Int)) from (inR64 (by first | omega | (have h1 : List.length ([k] : List UInt8) = 1 := rfl; have h2 := suf_len hc1; omega)) (by first | omega | (have h1 : List.length ([k] : List UInt8) = 1 := rfl; have h2 := suf_len hc1; omega)))), (show 0 ≤ (List.length s : Int) - (List.length ([k] : List UInt8) : Int) from (by first | omega | (have h1 : List.length ([k] : List UInt8) = 1 := rfl; have h2 := suf_len hc1; omega))), (show (List.length s : Int) - (List.length ([k] : List UInt8) : Int) ≤ List.length s from (by first | omega | (have h1 : List.length ([k] : List UInt8) = 1 := rfl; have h2 := suf_len hc1; omega)))⟩ ?_
  exact gT (AV.tup [tc (st (List.take ((List.length s : Int) - (List.length ([k] : List UInt8) : Int)).toNat s)), tc (bo true)]) (by first | rw [cut_n hc1, hc1] | rw [cut_y hc1, hc1])
theorem f85_body : Tryd.f85.body = some (.seq (.region 0 (rg Tryd.f85 0) false) (.seq (.region 1 (rg Tryd.f85 1) false) (.ret))) := by kernel_rfl
set_option maxRecDepth 100000 in
set_option maxHeartbeats 8000000 in
theorem CutSuf_c (k : UInt8) (s : Bytes) : Pure Tryd.prog 85 [tc (st s), tc (st [k])] (AV.tup [tc (st (cutS k s)), tc (bo (sufS k s))]) := by
 refine Pure.of_body Tryd.func85 f85_body (by kernel_rfl) Tryd.ntmps85 (by kernel_rfl) (by kernel_rfl) ?_
 refine AMx.str 0 (b := s) rfl (fun hls => ?_)
 simp only [maxLen] at hls
 refine gS [] [] 11 [(0, vc (st s)), (1, vc (st [k]))] [] trivial ?_
 refine gS [(2, CE.call [] [] (AV.tup [tc (st (cutS k s)), tc (bo (sufS k s))]) [])] [Spec Tryd.prog 91 [tc (st s), tc (st [k])] (ofH []) (AV.tup [tc (st (cutS k s)), tc (bo (sufS k s))]) (ofH [])] 11 [(4, vc (st (cutS k s))), (5, vc (bo (sufS k s)))] [] (LCutSuf_c k s) ?_
 exact gT (AV.tup [tc (st (cutS k s)), tc (bo (sufS k s))]) rfl
theorem f61_body : Tryd.f61.body = some (.seq (.region 0 (rg Tryd.f61 0) false) (.seq (.region 1 (rg Tryd.f61 1) false) (.ret))) := by kernel_rfl
set_option maxRecDepth 100000 in
set_option maxHeartbeats 8000000 in
theorem Contains_c (k : UInt8) (s : Bytes) : Pure Tryd.prog 61 [tc (st s), tc (st [k])] (vc (bo (decide (0 ≤ Go.Lib.indexByte s k)))) := by
 refine Pure.of_body Tryd.func61 f61_body (by kernel_rfl) Tryd.ntmps61 (by kernel_rfl) (by kernel_rfl) ?_
 refine gS [] [] 9 [(0, vc (st s)), (1, vc (st [k]))] [] trivial ?_
 refine gS [(2, CE.call [] [] (vc (i6 (Go.Lib.indexByte s k))) [])] [Spec Tryd.prog 72 [tc (st s), tc (st [k])] (ofH []) (vc (i6 (Go.Lib.indexByte s k))) (ofH [])] 9 [(4, vc (bo (decide (0 ≤ Go.Lib.indexByte s k))))] [] (AL.Sep.Index_c k s) ?_
 exact gT (vc (bo (decide (0 ≤ Go.Lib.indexByte s k)))) rfl
theorem f77_body : Tryd.f77.body = some (.seq (.region 0 (rg Tryd.f77 0) false) (.seq (.region 1 (rg Tryd.f77 1) false) (.seq (.region 2 (rg Tryd.f77 2) false) (.seq (.region 3 (rg Tryd.f77 3) false) (.ret))))) := by kernel_rfl
set_option maxRecDepth 100000 in
set_option maxHeartbeats 8000000 in
theorem rowOf_c (s : Bytes) : PureX Tryd.prog 77 [tc (st s)] (AV.t (TV.agg [.s (i6 ((rowW s).1)), .s (bo ((rowW s).2.1)), .s (bo ((rowW s).2.2))])) (rowOk s) := by
 refine PureX.of_body Tryd.func77 f77_body (by kernel_rfl) Tryd.ntmps77 (by kernel_rfl) (by kernel_rfl) ?_
 refine gS [] [] 20 [(0, vc (st s)), (2, vp 2 0)] [(2, AObj.row [.s (i6 0), .s (bo false), .s (bo false)])] trivial ?_
 refine gS [(1, CE.call [] [] (AV.tup [tc (st (cutS 35 s)), tc (bo (sufS 35 s))]) [])] [Spec Tryd.prog 85 [tc (st s), tc (st [35])] (ofH []) (AV.tup [tc (st (cutS 35 s)), tc (bo (sufS 35 s))]) (ofH [])] 20 [(0, vc (st (cutS 35 s))), (2, vp 2 0), (3, vc (bo (sufS 35 s)))] [(2, AObj.row [.s (i6 0), .s (bo false), .s (bo false)])] (CutSuf_c 35 s) ?_
 refine gS [(1, CE.call [] [] (AV.tup [tc (st (cutS 33 (cutS 35 s))), tc (bo (sufS 33 (cutS 35 s)))]) [])] [Spec Tryd.prog 85 [tc (st (cutS 35 s)), tc (st [33])] (ofH []) (AV.tup [tc (st (cutS 33 (cutS 35 s))), tc (bo (sufS 33 (cutS 35 s)))]) (ofH [])] 20 [(0, vc (st (cutS 33 (cutS 35 s)))), (2, vp 2 0), (3, vc (bo (sufS 35 s))), (4, vc (bo (sufS 33 (cutS 35 s))))] [(2, AObj.row [.s (i6 0), .s (bo false), .s (bo false)])] (CutSuf_c 33 (cutS 35 s)) ?_
 refine gSx [(1, CE.call [] [] (vc (i6 (scanN (cutS 33 (cutS 35 s))))) [])] [(1, 0 ≤ scanN (cutS 33 (cutS 35 s)))] [PureX Tryd.prog 43 [tc (st (cutS 33 (cutS 35 s)))] (vc (i6 (scanN (cutS 33 (cutS 35 s))))) (0 ≤ scanN (cutS 33 (cutS 35 s)))] 20 [(2, vp 2 0)] [(2, AObj.row [.s (i6 (scanN (cutS 33 (cutS 35 s)))), .s (bo (sufS 33 (cutS 35 s))), .s (bo (sufS 35 s))])] (num_c (cutS 33 (cutS 35 s))) (fun hok => (show (0 ≤ scanN (cutS 33 (cutS 35 s))) by exact hok)) (fun hx1 => ?_)
 replace hx1 : (0 ≤ scanN (cutS 33 (cutS 35 s))) := hx1
 exact gTx (by exact hx1) (AV.t (TV.agg [.s (i6 (scanN (cutS 33 (cutS 35 s)))), .s (bo (sufS 33 (cutS 35 s))), .s (bo (sufS 35 s))])) rfl
end AL.Reply
namespace AL.Reply
open Go Go.Proofs AL
set_option linter.unusedVariables false
set_option linter.unusedSimpArgs false
open AL.Ask (scanN valS sizeB digB numS hexS unhexS)
theorem f65_body : Tryd.f65.body = some (.seq (.region 0 (rg Tryd.f65 0) false) (.seq (.seq (.region 1 (rg Tryd.f65 1) false) (.cond (.tmp 6) (.seq (.region 2 (rg Tryd.f65 2) false) (.ret)) (.skip))) (.seq (.region 3 (rg Tryd.f65 3) false) (.seq (.region 4 (rg Tryd.f65 4) false) (.seq (.region 5 (rg Tryd.f65 5) false) (.ret)))))) := by kernel_rfl
set_option maxRecDepth 100000 in
set_option maxHeartbeats 8000000 in
theorem data_c (s : Bytes) (hb : s.length ≤ 100000) : PureX Tryd.prog 65 [tc (st s)] (vc (st (dataS s))) (dataOk s) := by
 refine PureX.of_body Tryd.func65 f65_body (by kernel_rfl) Tryd.ntmps65 (by kernel_rfl) (by kernel_rfl) ?_
 refine gS [] [] 19 [(0, vc (st s))] [] trivial ?_
 refine gQ ?_
 refine gS [] [] 19 [(0, vc (st s)), (6, vc (bo (decide (s = [45]))))] [] trivial ?_
 refine gC (s = [45]) (fun hc1 => ?_) fun hc1 => ?_
 ·
  refine gS [] [] 19 [(2, vc (st []))] [] trivial ?_
  exact gTx (by exact .inl hc1) (vc (st [])) (by unfold dataS; first | rw [if_pos hc1] | rw [if_neg hc1])
 ·
  refine AMx.skip ?_
  refine gS [(1, CE.call [] [] (AV.tup [tc (st ((unhexS s).1)), tc (bo ((unhexS s).2))]) [])] [Spec Tryd.prog 75 [tc (st s)] (ofH []) (AV.tup [tc (st ((unhexS s).1)), tc (bo ((unhexS s).2))]) (ofH [])] 19 [(0, vc (st s)), (3, vc (st ((unhexS s).1))), (4, vc (bo ((unhexS s).2)))] [] (Ask.Unhex_c s (by omega)) ?_
  refine gSx [(5, CE.call [] [] (AV.tup []) [])] [(5, (((unhexS s).2) && (!decide (s = []))) = true)] [(((unhexS s).2) = true) → allP [], (((unhexS s).2) = true) → allP [((unhexS s).2) = true], ((unhexS s).2) = true → allP [((unhexS s).2) = true], PureX Tryd.prog 42 [tc (bo (((unhexS s).2) && (!decide (s = []))))] (AV.tup []) ((((unhexS s).2) && (!decide (s = []))) = true)] 19 [(3, vc (st ((unhexS s).1)))] [] ⟨(fun _ => trivial), (fun hp => hp), (fun hp2 => (by first | exact hp2 | exact ⟨hp, hp2⟩)), (must_c (((unhexS s).2) && (!decide (s = []))))⟩ (fun hok => (show ((((unhexS s).2) && (!decide (s = []))) = true) by rw [data_b hc1]; exact hok)) (fun hx1 => ?_)
  replace hx1 : ((((unhexS s).2) && (!decide (s = []))) = true) := hx1
  refine gS [] [] 19 [(2, vc (st ((unhexS s).1)))] [] trivial ?_
  exact gTx (by rw [data_b hc1] at hx1; exact hx1) (vc (st ((unhexS s).1))) (by unfold dataS; first | rw [if_pos hc1] | rw [if_neg hc1])
theorem f66_body : Tryd.f66.body = some (.seq (.region 0 (rg Tryd.f66 0) false) (.seq (.region 1 (rg Tryd.f66 1) true) (.seq (.seq (.region 2 (rg Tryd.f66 2) false) (.cond (.tmp 22) (.seq (.region 3 (rg Tryd.f66 3) false) (.ret)) (.skip))) (.seq (.seq (.region 4 (rg Tryd.f66 4) false) (.block 0 (.loop (.seq (.region 5 (rg Tryd.f66 5) false) (.seq (.cond (.tmp 30) (.skip) (.exit 0)) (.seq (.block 1 (.seq (.region 6 (rg Tryd.f66 6) false) (.region 7 (rg Tryd.f66 7) true))) (.region 8 (rg Tryd.f66 8) false))))))) (.seq (.region 9 (rg Tryd.f66 9) false) (.ret)))))) := by kernel_rfl
set_option maxRecDepth 100000 in
set_option maxHeartbeats 8000000 in
theorem about_c (l : List Bytes) (h4 : l.length = 4) (hb : (List.getD l 3 []).length ≤ 100000) : PureX Tryd.prog 66 [tc (AL.Fnv.slS l)] (AV.t (TV.agg [.s (i6 ((aboutS l).1)), .s (bo ((aboutS l).2.1)), .s (i6 ((aboutS l).2.2.1)), .s (Secret.slR ((aboutS l).2.2.2))])) (aboutOk l) := by
 refine PureX.of_body Tryd.func66 f66_body (by kernel_rfl) Tryd.ntmps66 (by kernel_rfl) (by kernel_rfl) ?_
 have hsl := Policy.split_le 44 (List.getD l 3 [])
 refine gS [] [] 42 [(0, vc (AL.Fnv.slS l)), (2, vp 2 0)] [(2, AObj.row [.s (i6 0), .s (bo false), .s (i6 0), .s (SC.nilsl)])] trivial ?_
 refine gYx [(3, CE.call [] [] (vc (i6 (scanN (List.getD l 0 [])))) []), (7, CE.call [] [] (vc (bo (decide ((List.getD l 1 []) = [49])))) []), (11, CE.call [] [] (vc (i6 (scanN (List.getD l 2 [])))) [])] [(14, [3])] [(3, 0 ≤ scanN (List.getD l 0 [])), (7, flagOk (List.getD l 1 [])), (11, 0 ≤ scanN (List.getD l 2 []))] [(0 : Int) ≤ 0, (0 : Int) < List.length l, PureX Tryd.prog 43 [tc (st (List.getD l 0 []))] (vc (i6 (scanN (List.getD l 0 [])))) (0 ≤ scanN (List.getD l 0 [])), (0 : Int) ≤ 1, (1 : Int) < List.length l, PureX Tryd.prog 76 [tc (st (List.getD l 1 []))] (vc (bo (decide ((List.getD l 1 []) = [49])))) (flagOk (List.getD l 1 [])), (0 : Int) ≤ 2, (2 : Int) < List.length l, PureX Tryd.prog 43 [tc (st (List.getD l 2 []))] (vc (i6 (scanN (List.getD l 2 [])))) (0 ≤ scanN (List.getD l 2 []))] 42 [(0, vc (AL.Fnv.slS l)), (2, vp 2 0), (3, vp 3 0)] [(2, AObj.row [.s (i6 0), .s (bo false), .s (i6 0), .s (SC.nilsl)]), (3, AObj.row [.s (i6 (scanN (List.getD l 0 []))), .s (bo (decide ((List.getD l 1 []) = [49]))), .s (i6 (scanN (List.getD l 2 []))), .s (SC.nilsl)])] mixed ⟨(show (0 : Int) ≤ 0 from (by omega)), (show (0 : Int) < List.length l from (by omega)), (num_c (List.getD l 0 [])), (show (0 : Int) ≤ 1 from (by omega)), (show (1 : Int) < List.length l from (by omega)), (flag_c (List.getD l 1 [])), (show (0 : Int) ≤ 2 from (by omega)), (show (2 : Int) < List.length l from (by omega)), (num_c (List.getD l 2 []))⟩ (fun hok => (show (0 ≤ scanN (List.getD l 0 [])) ∧ (flagOk (List.getD l 1 [])) ∧ (0 ≤ scanN (List.getD l 2 [])) by exact ⟨hok.1, hok.2.1, hok.2.2.1⟩)) (fun hx1 => ?_)
 replace hx1 : (0 ≤ scanN (List.getD l 0 [])) ∧ (flagOk (List.getD l 1 [])) ∧ (0 ≤ scanN (List.getD l 2 [])) := hx1
 refine gQ ?_
 refine gS [] [(0 : Int) ≤ 3, (3 : Int) < List.length l] 42 [(0, vc (AL.Fnv.slS l)), (2, vp 2 0), (3, vp 3 0), (22, vc (bo (decide ((List.getD l 3 []) = [45]))))] [(2, AObj.row [.s (i6 0), .s (bo false), .s (i6 0), .s (SC.nilsl)]), (3, AObj.row [.s (i6 (scanN (List.getD l 0 []))), .s (bo (decide ((List.getD l 1 []) = [49]))), .s (i6 (scanN (List.getD l 2 []))), .s (SC.nilsl)])] ⟨(show (0 : Int) ≤ 3 from (by omega)), (show (3 : Int) < List.length l from (by omega))⟩ ?_
 refine gC ((List.getD l 3 []) = [45]) (fun hc1 => ?_) fun hc1 => ?_
 ·
  refine gS [] [] 42 [(2, vp 2 0)] [(2, AObj.row [.s (i6 (scanN (List.getD l 0 []))), .s (bo (decide ((List.getD l 1 []) = [49]))), .s (i6 (scanN (List.getD l 2 []))), .s (SC.nilsl)])] trivial ?_
  refine AMx.ent (ent_row 2 (l := [.s (i6 (scanN (List.getD l 0 []))), .s (bo (decide ((List.getD l 1 []) = [49]))), .s (i6 (scanN (List.getD l 2 []))), .s (SC.nilsl)]) (m := [.s (i6 (scanN (List.getD l 0 []))), .s (bo (decide ((List.getD l 1 []) = [49]))), .s (i6 (scanN (List.getD l 2 []))), .s (Secret.slR [])]) (by kernel_rfl) ⟨AC.le_rfl, AC.le_rfl, AC.le_rfl, AC.le_nil, trivial⟩) ?_
  exact gTx (by first | exact ⟨hx1.1, hx1.2.1, hx1.2.2, .inl hc1⟩ | exact ⟨hx1.1, hx1.2.1, hx1.2.2, .inr (ok_end (by omega) hA)⟩) (AV.t (TV.agg [.s (i6 (scanN (List.getD l 0 []))), .s (bo (decide ((List.getD l 1 []) = [49]))), .s (i6 (scanN (List.getD l 2 []))), .s (Secret.slR [])])) (by rw [show aboutS l = ((scanN (List.getD l 0 []), decide ((List.getD l 1 []) = [49]), scanN (List.getD l 2 []), []) : Secret.Sec) from by unfold aboutS rowsW; first | rw [if_pos hc1] | rw [if_neg hc1]])
 ·
  refine AMx.skip ?_
  refine gQ ?_
  refine gS [(3, CE.call [] [] (vc (AL.Fnv.slS (AL.Sep.splitC 44 (List.getD l 3 [])))) [])] [(0 : Int) ≤ 3, (3 : Int) < List.length l, Spec Tryd.prog 41 [tc (st (List.getD l 3 [])), tc (st [44])] (ofH []) (vc (AL.Fnv.slS (AL.Sep.splitC 44 (List.getD l 3 [])))) (ofH [])] 42 [(2, vp 2 0), (3, vp 3 0), (27, vc (AL.Fnv.slS (AL.Sep.splitC 44 (List.getD l 3 [])))), (28, vc (i6 (List.length (AL.Sep.splitC 44 (List.getD l 3 []) : List Bytes) : Int))), (29, vc (i6 0))] [(2, AObj.row [.s (i6 0), .s (bo false), .s (i6 0), .s (SC.nilsl)]), (3, AObj.row [.s (i6 (scanN (List.getD l 0 []))), .s (bo (decide ((List.getD l 1 []) = [49]))), .s (i6 (scanN (List.getD l 2 []))), .s (SC.nilsl)])] ⟨(show (0 : Int) ≤ 3 from (by omega)), (show (3 : Int) < List.length l from (by omega)), (AL.Sep.Split_c 44 (List.getD l 3 []) (by omega))⟩ ?_
  refine AMx.block ?_
  refine AMx.ent (ent_adoptO 3 41 [.s (i6 (scanN (List.getD l 0 []))), .s (bo (decide ((List.getD l 1 []) = [49]))), .s (i6 (scanN (List.getD l 2 [])))] [] 91 3 Secret.RowV (0, false, false) AL.Secret.rowR (by kernel_rfl) (by kernel_rfl) (by kernel_rfl) (by kernel_rfl)) ?_
  refine AMx.ent (s' := AS.lst 42 [(2, vp 2 0), (3, vp 3 0), (27, vc (AL.Fnv.slS (AL.Sep.splitC 44 (List.getD l 3 [])))), (28, vc (i6 (List.length (AL.Sep.splitC 44 (List.getD l 3 []) : List Bytes) : Int))), (29, vc (i6 0))] [(2, AObj.row [.s (i6 0), .s (bo false), .s (i6 0), .s (SC.nilsl)]), (3, AObj.row [.s (i6 (scanN (List.getD l 0 []))), .s (bo (decide ((List.getD l 1 []) = [49]))), .s (i6 (scanN (List.getD l 2 []))), .own 41]), (41, AObj.grow 91 3 Secret.RowV (0, false, false) AL.Secret.rowR [])]) (ent_proj [2, 3, 27, 28, 29] [2, 3, 41]) ?_
  refine AMx.ent (s' := AS.lst 42 [(2, vp 2 0), (3, vp 3 0), (27, vc (AL.Fnv.slS (AL.Sep.splitC 44 (List.getD l 3 [])))), (28, vc (i6 (List.length (AL.Sep.splitC 44 (List.getD l 3 []) : List Bytes) : Int))), (29, vc (i6 0))] [(2, AObj.row [.s (i6 0), .s (bo false), .s (i6 0), .s (SC.nilsl)]), (3, AObj.row [.s (i6 (scanN (List.getD l 0 []))), .s (bo (decide ((List.getD l 1 []) = [49]))), .s (i6 (scanN (List.getD l 2 []))), .own 41]), (41, AObj.grow 91 3 Secret.RowV (0, false, false) AL.Secret.rowR [])]) (ent_proj [2, 3, 27, 28, 29] [2, 3, 41]) ?_
  refine AMx.loop (fun mm ss => ∃ (k : Nat), (k ≤ (AL.Sep.splitC 44 (List.getD l 3 [])).length ∧ ∀ w ∈ List.take k (AL.Sep.splitC 44 (List.getD l 3 [])), rowOk w) ∧ mm = (AL.Sep.splitC 44 (List.getD l 3 [])).length - k ∧ ss = AS.lst 42 [(2, vp 2 0), (3, vp 3 0), (27, vc (AL.Fnv.slS (AL.Sep.splitC 44 (List.getD l 3 [])))), (28, vc (i6 (List.length (AL.Sep.splitC 44 (List.getD l 3 []) : List Bytes) : Int))), (29, vc (i6 (k : Int)))] [(2, AObj.row [.s (i6 0), .s (bo false), .s (i6 0), .s (SC.nilsl)]), (3, AObj.row [.s (i6 (scanN (List.getD l 0 []))), .s (bo (decide ((List.getD l 1 []) = [49]))), .s (i6 (scanN (List.getD l 2 []))), .own 41]), (41, AObj.grow 91 3 Secret.RowV (0, false, false) AL.Secret.rowR ((List.take k (AL.Sep.splitC 44 (List.getD l 3 []))).map rowW))]) ⟨0, ?_, rfl, ?_⟩ ?_
  · exact ⟨Nat.zero_le _, fun w hw => by simp at hw⟩
  · rfl
  rintro mm ss ⟨k, ⟨hI, hA⟩, rfl, rfl⟩
  refine gS [] [] 42 [(2, vp 2 0), (3, vp 3 0), (27, vc (AL.Fnv.slS (AL.Sep.splitC 44 (List.getD l 3 [])))), (28, vc (i6 (List.length (AL.Sep.splitC 44 (List.getD l 3 []) : List Bytes) : Int))), (29, vc (i6 (k : Int))), (30, vc (bo (decide ((k : Int) < (List.length (AL.Sep.splitC 44 (List.getD l 3 []) : List Bytes) : Int)))))] [(2, AObj.row [.s (i6 0), .s (bo false), .s (i6 0), .s (SC.nilsl)]), (3, AObj.row [.s (i6 (scanN (List.getD l 0 []))), .s (bo (decide ((List.getD l 1 []) = [49]))), .s (i6 (scanN (List.getD l 2 []))), .own 41]), (41, AObj.grow 91 3 Secret.RowV (0, false, false) AL.Secret.rowR ((List.take k (AL.Sep.splitC 44 (List.getD l 3 []))).map rowW))] trivial ?_
  refine gQ ?_
  refine gC ((k : Int) < (List.length (AL.Sep.splitC 44 (List.getD l 3 []) : List Bytes) : Int)) (fun hc2 => ?_) fun hc2 => ?_
  ·
   refine AMx.skip ?_
   refine gQ ?_
   refine AMx.block ?_
   refine gS [] [(0 : Int) ≤ (k : Int), (k : Int) < List.length (AL.Sep.splitC 44 (List.getD l 3 []) : List Bytes)] 42 [(2, vp 2 0), (3, vp 3 0), (5, vc (st (List.getD (AL.Sep.splitC 44 (List.getD l 3 [])) k []))), (27, vc (AL.Fnv.slS (AL.Sep.splitC 44 (List.getD l 3 [])))), (28, vc (i6 (List.length (AL.Sep.splitC 44 (List.getD l 3 []) : List Bytes) : Int))), (29, vc (i6 (k : Int)))] [(2, AObj.row [.s (i6 0), .s (bo false), .s (i6 0), .s (SC.nilsl)]), (3, AObj.row [.s (i6 (scanN (List.getD l 0 []))), .s (bo (decide ((List.getD l 1 []) = [49]))), .s (i6 (scanN (List.getD l 2 []))), .own 41]), (41, AObj.grow 91 3 Secret.RowV (0, false, false) AL.Secret.rowR ((List.take k (AL.Sep.splitC 44 (List.getD l 3 []))).map rowW))] ⟨(show (0 : Int) ≤ (k : Int) from (by omega)), (show (k : Int) < List.length (AL.Sep.splitC 44 (List.getD l 3 []) : List Bytes) from (by omega))⟩ ?_
   refine gXx [(3, CE.call [] [] (AV.t (TV.agg [.s (i6 ((rowW (List.getD (AL.Sep.splitC 44 (List.getD l 3 [])) k [])).1)), .s (bo ((rowW (List.getD (AL.Sep.splitC 44 (List.getD l 3 [])) k [])).2.1)), .s (bo ((rowW (List.getD (AL.Sep.splitC 44 (List.getD l 3 [])) k [])).2.2))])) []), (4, CE.obj (AObj.grow 91 3 Secret.RowV (0, false, false) AL.Secret.rowR [(rowW (List.getD (AL.Sep.splitC 44 (List.getD l 3 [])) k []))])), (5, CE.obj (AObj.grow 91 3 Secret.RowV (0, false, false) AL.Secret.rowR (((List.take k (AL.Sep.splitC 44 (List.getD l 3 []))).map rowW) ++ [(rowW (List.getD (AL.Sep.splitC 44 (List.getD l 3 [])) k []))])))] [(1, [3]), (5, [37, 41]), (7, [3])] [(3, rowOk (List.getD (AL.Sep.splitC 44 (List.getD l 3 [])) k []))] [PureX Tryd.prog 77 [tc (st (List.getD (AL.Sep.splitC 44 (List.getD l 3 [])) k []))] (AV.t (TV.agg [.s (i6 ((rowW (List.getD (AL.Sep.splitC 44 (List.getD l 3 [])) k [])).1)), .s (bo ((rowW (List.getD (AL.Sep.splitC 44 (List.getD l 3 [])) k [])).2.1)), .s (bo ((rowW (List.getD (AL.Sep.splitC 44 (List.getD l 3 [])) k [])).2.2))])) (rowOk (List.getD (AL.Sep.splitC 44 (List.getD l 3 [])) k [])), flat 3 AL.Secret.rowR [(rowW (List.getD (AL.Sep.splitC 44 (List.getD l 3 [])) k []))] = [.s (i6 ((rowW (List.getD (AL.Sep.splitC 44 (List.getD l 3 [])) k [])).1)), .s (bo ((rowW (List.getD (AL.Sep.splitC 44 (List.getD l 3 [])) k [])).2.1)), .s (bo ((rowW (List.getD (AL.Sep.splitC 44 (List.getD l 3 [])) k [])).2.2))], List.length ([(rowW (List.getD (AL.Sep.splitC 44 (List.getD l 3 [])) k []))] : List Secret.RowV) = 1, AppC (flat 3 AL.Secret.rowR [(rowW (List.getD (AL.Sep.splitC 44 (List.getD l 3 [])) k []))]) (List.length ([(rowW (List.getD (AL.Sep.splitC 44 (List.getD l 3 [])) k []))] : List Secret.RowV)) 16 (AObj.grow 91 3 Secret.RowV (0, false, false) AL.Secret.rowR ((List.take k (AL.Sep.splitC 44 (List.getD l 3 []))).map rowW)) (AObj.grow 91 3 Secret.RowV (0, false, false) AL.Secret.rowR (((List.take k (AL.Sep.splitC 44 (List.getD l 3 []))).map rowW) ++ [(rowW (List.getD (AL.Sep.splitC 44 (List.getD l 3 [])) k []))]))] 42 [(2, vp 2 0), (3, vp 3 0), (27, vc (AL.Fnv.slS (AL.Sep.splitC 44 (List.getD l 3 [])))), (28, vc (i6 (List.length (AL.Sep.splitC 44 (List.getD l 3 []) : List Bytes) : Int))), (29, vc (i6 (k : Int)))] [(2, AObj.row [.s (i6 0), .s (bo false), .s (i6 0), .s (SC.nilsl)]), (3, AObj.row [.s (i6 (scanN (List.getD l 0 []))), .s (bo (decide ((List.getD l 1 []) = [49]))), .s (i6 (scanN (List.getD l 2 []))), .own 38]), (38, AObj.grow 91 3 Secret.RowV (0, false, false) AL.Secret.rowR (((List.take k (AL.Sep.splitC 44 (List.getD l 3 []))).map rowW) ++ [(rowW (List.getD (AL.Sep.splitC 44 (List.getD l 3 [])) k []))]))] mixed ⟨(rowOf_c (List.getD (AL.Sep.splitC 44 (List.getD l 3 [])) k [])), rfl, rfl, (⟨_, rfl, rfl, rfl, by simp only [List.length_append, List.length_cons, List.length_nil, List.length_take, List.length_drop, List.length_map]; omega, by simp only [maxLen, List.length_append, List.length_cons, List.length_nil, List.length_take, List.length_drop, List.length_map]; omega⟩)⟩ (fun hok => (show (rowOk (List.getD (AL.Sep.splitC 44 (List.getD l 3 [])) k [])) by exact hok.2.2.2.resolve_left hc1 _ (Lib.getD_mem [] (AL.Sep.splitC 44 (List.getD l 3 [])) k (by omega)))) (fun hx2 => ?_)
   replace hx2 : (rowOk (List.getD (AL.Sep.splitC 44 (List.getD l 3 [])) k [])) := hx2
   refine AMx.blk ?_
   refine gR [] [InR .i64 ((k : Int) + 1)] 42 [(2, vp 2 0), (3, vp 3 0), (27, vc (AL.Fnv.slS (AL.Sep.splitC 44 (List.getD l 3 [])))), (28, vc (i6 (List.length (AL.Sep.splitC 44 (List.getD l 3 []) : List Bytes) : Int))), (29, vc (i6 ((k : Int) + 1)))] [(2, AObj.row [.s (i6 0), .s (bo false), .s (i6 0), .s (SC.nilsl)]), (3, AObj.row [.s (i6 (scanN (List.getD l 0 []))), .s (bo (decide ((List.getD l 1 []) = [49]))), .s (i6 (scanN (List.getD l 2 []))), .own 38]), (38, AObj.grow 91 3 Secret.RowV (0, false, false) AL.Secret.rowR (((List.take k (AL.Sep.splitC 44 (List.getD l 3 []))).map rowW) ++ [(rowW (List.getD (AL.Sep.splitC 44 (List.getD l 3 [])) k []))]))] (show InR .i64 ((k : Int) + 1) from (inR64 (by omega) (by omega))) ?_
   refine AMx.ent_inv (s' := AS.lst 42 [(2, vp 2 0), (3, vp 3 0), (27, vc (AL.Fnv.slS (AL.Sep.splitC 44 (List.getD l 3 [])))), (28, vc (i6 (List.length (AL.Sep.splitC 44 (List.getD l 3 []) : List Bytes) : Int))), (29, vc (i6 ((k : Int) + 1)))] [(2, AObj.row [.s (i6 0), .s (bo false), .s (i6 0), .s (SC.nilsl)]), (3, AObj.row [.s (i6 (scanN (List.getD l 0 []))), .s (bo (decide ((List.getD l 1 []) = [49]))), .s (i6 (scanN (List.getD l 2 []))), .own 41]), (41, AObj.grow 91 3 Secret.RowV (0, false, false) AL.Secret.rowR (((List.take k (AL.Sep.splitC 44 (List.getD l 3 []))).map rowW) ++ [(rowW (List.getD (AL.Sep.splitC 44 (List.getD l 3 [])) k []))]))]) (ent_swap 38 41 (by kernel_rfl) (by kernel_rfl)) ?_
   refine AMx.ent_inv (s' := AS.lst 42 [(2, vp 2 0), (3, vp 3 0), (27, vc (AL.Fnv.slS (AL.Sep.splitC 44 (List.getD l 3 [])))), (28, vc (i6 (List.length (AL.Sep.splitC 44 (List.getD l 3 []) : List Bytes) : Int))), (29, vc (i6 ((k : Int) + 1)))] [(2, AObj.row [.s (i6 0), .s (bo false), .s (i6 0), .s (SC.nilsl)]), (3, AObj.row [.s (i6 (scanN (List.getD l 0 []))), .s (bo (decide ((List.getD l 1 []) = [49]))), .s (i6 (scanN (List.getD l 2 []))), .own 41]), (41, AObj.grow 91 3 Secret.RowV (0, false, false) AL.Secret.rowR (((List.take k (AL.Sep.splitC 44 (List.getD l 3 []))).map rowW) ++ [(rowW (List.getD (AL.Sep.splitC 44 (List.getD l 3 [])) k []))]))]) (ent_proj [2, 3, 27, 28, 29] [2, 3, 41]) ?_
   refine AMx.inv ⟨_, ?_, k + 1, ?_, rfl, ?_⟩
   rotate_left
   · exact ⟨by omega, ok_step (by omega) hA hx2⟩
   · rw [← rows_step (AL.Sep.splitC 44 (List.getD l 3 [])) k (by omega)]; rfl
   · omega
  ·
   refine AMx.exit ?_
   refine AMx.code_exit ?_
   refine AMx.inv_exit ?_
   refine AMx.blk_exit ?_
   rw [show List.take k (AL.Sep.splitC 44 (List.getD l 3 [])) = (AL.Sep.splitC 44 (List.getD l 3 [])) from List.take_of_length_le (by omega)]
   refine gS [] [] 42 [(2, vp 2 0)] [(2, AObj.row [.s (i6 (scanN (List.getD l 0 []))), .s (bo (decide ((List.getD l 1 []) = [49]))), .s (i6 (scanN (List.getD l 2 []))), .own 41]), (41, AObj.grow 91 3 Secret.RowV (0, false, false) AL.Secret.rowR ((AL.Sep.splitC 44 (List.getD l 3 [])).map rowW))] trivial ?_
   refine AMx.ent (s' := AS.lst 42 [(2, vp 2 0)] [(2, AObj.row [.s (i6 (scanN (List.getD l 0 []))), .s (bo (decide ((List.getD l 1 []) = [49]))), .s (i6 (scanN (List.getD l 2 []))), .s (Secret.slR ((AL.Sep.splitC 44 (List.getD l 3 [])).map rowW))])]) (ent_freeze (id := 41) (T := 91) (by kernel_rfl)) ?_
   exact gTx (by first | exact ⟨hx1.1, hx1.2.1, hx1.2.2, .inl hc1⟩ | exact ⟨hx1.1, hx1.2.1, hx1.2.2, .inr (ok_end (by omega) hA)⟩) (AV.t (TV.agg [.s (i6 (scanN (List.getD l 0 []))), .s (bo (decide ((List.getD l 1 []) = [49]))), .s (i6 (scanN (List.getD l 2 []))), .s (Secret.slR ((AL.Sep.splitC 44 (List.getD l 3 [])).map rowW))])) (by rw [show aboutS l = ((scanN (List.getD l 0 []), decide ((List.getD l 1 []) = [49]), scanN (List.getD l 2 []), (AL.Sep.splitC 44 (List.getD l 3 [])).map rowW) : Secret.Sec) from by unfold aboutS rowsW; first | rw [if_pos hc1] | rw [if_neg hc1]])
theorem f44_body : Tryd.f44.body = some (.seq (.region 0 (rg Tryd.f44 0) false) (.seq (.block 0 (.seq (.region 1 (rg Tryd.f44 1) false) (.cond (.tmp 3) (.seq (.region 2 (rg Tryd.f44 2) false) (.ret)) (.seq (.region 3 (rg Tryd.f44 3) false) (.cond (.tmp 8) (.seq (.region 4 (rg Tryd.f44 4) false) (.seq (.region 5 (rg Tryd.f44 5) false) (.ret))) (.seq (.region 6 (rg Tryd.f44 6) false) (.cond (.tmp 28) (.seq (.region 7 (rg Tryd.f44 7) false) (.ret)) (.seq (.region 8 (rg Tryd.f44 8) false) (.cond (.tmp 43) (.seq (.region 9 (rg Tryd.f44 9) true) (.ret)) (.seq (.region 10 (rg Tryd.f44 10) false) (.cond (.tmp 62) (.seq (.region 11 (rg Tryd.f44 11) false) (.ret)) (.skip)))))))))))) (.seq (.region 12 (rg Tryd.f44 12) false) (.seq (.seq (.region 13 (rg Tryd.f44 13) false) (.cond (.tmp 89) (.seq (.region 14 (rg Tryd.f44 14) false) (.ret)) (.skip))) (.seq (.region 15 (rg Tryd.f44 15) false) (.ret)))))) := by kernel_rfl
set_option maxRecDepth 100000 in
set_option maxHeartbeats 8000000 in
theorem read_c (l : List Bytes) (hb : ∀ j, (List.getD l j []).length ≤ 100000) : PureX Tryd.prog 44 [tc (AL.Fnv.slS l)] (AV.t (TV.agg [.s (u8 ((readS l).kind)), .s (i6 ((readS l).err)), .s (i6 ((readS l).n)), .s (st ((readS l).data)), .s (AL.Fnv.slS ((readS l).names)), .s (i6 (((readS l).sec).1)), .s (bo (((readS l).sec).2.1)), .s (i6 (((readS l).sec).2.2.1)), .s (Secret.slR (((readS l).sec).2.2.2)), .s (bo ((readS l).flag))])) (readOk l) := by
 refine PureX.of_body Tryd.func44 f44_body (by kernel_rfl) Tryd.ntmps44 (by kernel_rfl) (by kernel_rfl) ?_
 refine gS [] [] 96 [(0, vc (AL.Fnv.slS l)), (2, vp 2 0)] [(2, AObj.row [.s (u8 0), .s (i6 0), .s (i6 0), .s (st []), .s (SC.nilsl), .s (i6 0), .s (bo false), .s (i6 0), .s (SC.nilsl), .s (bo false)])] trivial ?_
 refine gQ ?_
 refine AMx.block ?_
 refine gS [] [] 96 [(0, vc (AL.Fnv.slS l)), (2, vp 2 0), (3, vc (bo (decide ((List.length l : Int) = 0))))] [(2, AObj.row [.s (u8 0), .s (i6 0), .s (i6 0), .s (st []), .s (SC.nilsl), .s (i6 0), .s (bo false), .s (i6 0), .s (SC.nilsl), .s (bo false)])] trivial ?_
 refine gC ((List.length l : Int) = 0) (fun hc1 => ?_) fun hc1 => ?_
 ·
  refine gS [] [] 96 [(2, vp 2 0)] [(2, AObj.row [.s (u8 1), .s (i6 0), .s (i6 0), .s (st []), .s (SC.nilsl), .s (i6 0), .s (bo false), .s (i6 0), .s (SC.nilsl), .s (bo false)])] trivial ?_
  refine AMx.ent (ent_row 2 (l := [.s (u8 1), .s (i6 0), .s (i6 0), .s (st []), .s (SC.nilsl), .s (i6 0), .s (bo false), .s (i6 0), .s (SC.nilsl), .s (bo false)]) (m := [.s (u8 1), .s (i6 0), .s (i6 0), .s (st []), .s (AL.Fnv.slS []), .s (i6 0), .s (bo false), .s (i6 0), .s (Secret.slR []), .s (bo false)]) (by kernel_rfl) ⟨AC.le_rfl, AC.le_rfl, AC.le_rfl, AC.le_rfl, AC.le_nil, AC.le_rfl, AC.le_rfl, AC.le_rfl, AC.le_nil, AC.le_rfl, trivial⟩) ?_
  exact gTx (by first | (rw [readOk, if_pos hc1]; trivial) | (rw [readOk, if_neg hc1, if_pos hc2]; simp only [Bool.or_eq_true, Bool.and_eq_true, decide_eq_true_eq] at hx1; exact hx1) | (rw [readOk, if_neg hc1, if_neg hc2, if_pos hc3]; exact hx2) | (rw [readOk, if_neg hc1, if_neg hc2, if_neg (nand hc3), if_pos hc4]; exact hx3) | (rw [readOk, if_neg hc1, if_neg hc2, if_neg (nand hc3), if_neg (nand hc4), if_pos hc5]; exact hx4) | (rw [readOk, if_neg hc1, if_neg hc2, if_neg (nand hc3), if_neg (nand hc4), if_neg (nand hc5)]; simp only [Bool.or_eq_true, Bool.and_eq_true, decide_eq_true_eq] at hx5; exact hx5)) (AV.t (TV.agg [.s (u8 1), .s (i6 0), .s (i6 0), .s (st []), .s (AL.Fnv.slS []), .s (i6 0), .s (bo false), .s (i6 0), .s (Secret.slR []), .s (bo false)])) (by rw [show readS l = (⟨1, 0, 0, [], [], ((0, false, 0, []) : Secret.Sec), false⟩ : RepV) from by first | (rw [readS, if_pos hc1]; done) | (rw [readS, if_pos hc1]; rfl) | (rw [readS, if_neg hc1, if_pos hc2]; rfl) | (rw [readS, if_neg hc1, if_neg hc2, if_pos hc3]; rfl) | (rw [readS, if_neg hc1, if_neg hc2, if_neg (nand hc3), if_pos hc4]; rfl) | (rw [readS, if_neg hc1, if_neg hc2, if_neg (nand hc3), if_neg (nand hc4), if_pos hc5]; rfl) | (rw [readS, if_neg hc1, if_neg hc2, if_neg (nand hc3), if_neg (nand hc4), if_neg (nand hc5), listW, if_pos hc6]; rfl) | (rw [readS, if_neg hc1, if_neg hc2, if_neg (nand hc3), if_neg (nand hc4), if_neg (nand hc5), listW, if_neg hc6]; rfl)])
 ·
  refine gS [] [] 96 [(0, vc (AL.Fnv.slS l)), (2, vp 2 0), (8, vc (bo (decide ((List.length l : Int) = 1))))] [(2, AObj.row [.s (u8 0), .s (i6 0), .s (i6 0), .s (st []), .s (SC.nilsl), .s (i6 0), .s (bo false), .s (i6 0), .s (SC.nilsl), .s (bo false)])] trivial ?_
  refine gC ((List.length l : Int) = 1) (fun hc2 => ?_) fun hc2 => ?_
  ·
   refine gSx [(10, CE.call [] [] (AV.tup []) [])] [(10, ((decide ((List.getD l 0 []) = [115, 101, 97, 108, 101, 100])) || (decide ((List.getD l 0 []) = [111, 112, 101, 110]))) = true)] [(0 : Int) ≤ 0, (0 : Int) < List.length l, ((decide ((List.getD l 0 []) = [115, 101, 97, 108, 101, 100])) = false) → allP [], ((decide ((List.getD l 0 []) = [115, 101, 97, 108, 101, 100])) = false) → allP [(decide ((List.getD l 0 []) = [115, 101, 97, 108, 101, 100])) = false, (0 : Int) ≤ 0, (0 : Int) < List.length l], ((decide ((List.getD l 0 []) = [115, 101, 97, 108, 101, 100])) = false) → allP [(decide ((List.getD l 0 []) = [115, 101, 97, 108, 101, 100])) = false], ((decide ((List.getD l 0 []) = [115, 101, 97, 108, 101, 100])) = false) → allP [(decide ((List.getD l 0 []) = [115, 101, 97, 108, 101, 100])) = false], (decide ((List.getD l 0 []) = [115, 101, 97, 108, 101, 100])) = false → allP [(decide ((List.getD l 0 []) = [115, 101, 97, 108, 101, 100])) = false], PureX Tryd.prog 42 [tc (bo ((decide ((List.getD l 0 []) = [115, 101, 97, 108, 101, 100])) || (decide ((List.getD l 0 []) = [111, 112, 101, 110]))))] (AV.tup []) (((decide ((List.getD l 0 []) = [115, 101, 97, 108, 101, 100])) || (decide ((List.getD l 0 []) = [111, 112, 101, 110]))) = true)] 96 [(0, vc (AL.Fnv.slS l)), (2, vp 2 0)] [(2, AObj.row [.s (u8 0), .s (i6 0), .s (i6 0), .s (st []), .s (SC.nilsl), .s (i6 0), .s (bo false), .s (i6 0), .s (SC.nilsl), .s (bo false)])] ⟨(show (0 : Int) ≤ 0 from (by first | omega | exact hb _ )), (show (0 : Int) < List.length l from (by first | omega | exact hb _ )), (fun _ => trivial), (fun hp => by have hq := hp; (try simp only [decide_eq_true_eq, decide_eq_false_iff_not, Bool.and_eq_true, Bool.or_eq_true, Bool.and_eq_false_iff, Bool.or_eq_false_iff, Bool.not_eq_true', Bool.not_eq_false', Bool.not_eq_true, Bool.not_eq_false] at hq); exact ⟨hp, (show (0 : Int) ≤ 0 from (by first | omega | exact hb _ )), (show (0 : Int) < List.length l from (by first | omega | exact hb _ ))⟩), (fun hp => hp), (fun hp => hp), (fun hp2 => (by first | exact hp2 | exact ⟨hp, hp2⟩)), (must_c ((decide ((List.getD l 0 []) = [115, 101, 97, 108, 101, 100])) || (decide ((List.getD l 0 []) = [111, 112, 101, 110]))))⟩ (fun hok => (show (((decide ((List.getD l 0 []) = [115, 101, 97, 108, 101, 100])) || (decide ((List.getD l 0 []) = [111, 112, 101, 110]))) = true) by rw [readOk, if_neg hc1, if_pos hc2] at hok; simp only [Bool.or_eq_true, Bool.and_eq_true, decide_eq_true_eq]; exact hok)) (fun hx1 => ?_)
   replace hx1 : (((decide ((List.getD l 0 []) = [115, 101, 97, 108, 101, 100])) || (decide ((List.getD l 0 []) = [111, 112, 101, 110]))) = true) := hx1
   refine gS [] [(0 : Int) ≤ 0, (0 : Int) < List.length l] 96 [(2, vp 2 0)] [(2, AObj.row [.s (u8 6), .s (i6 0), .s (i6 0), .s (st []), .s (SC.nilsl), .s (i6 0), .s (bo false), .s (i6 0), .s (SC.nilsl), .s (bo (decide ((List.getD l 0 []) = [115, 101, 97, 108, 101, 100])))])] ⟨(show (0 : Int) ≤ 0 from (by first | omega | exact hb _ )), (show (0 : Int) < List.length l from (by first | omega | exact hb _ ))⟩ ?_
   refine AMx.ent (ent_row 2 (l := [.s (u8 6), .s (i6 0), .s (i6 0), .s (st []), .s (SC.nilsl), .s (i6 0), .s (bo false), .s (i6 0), .s (SC.nilsl), .s (bo (decide ((List.getD l 0 []) = [115, 101, 97, 108, 101, 100])))]) (m := [.s (u8 6), .s (i6 0), .s (i6 0), .s (st []), .s (AL.Fnv.slS []), .s (i6 0), .s (bo false), .s (i6 0), .s (Secret.slR []), .s (bo (decide ((List.getD l 0 []) = [115, 101, 97, 108, 101, 100])))]) (by kernel_rfl) ⟨AC.le_rfl, AC.le_rfl, AC.le_rfl, AC.le_rfl, AC.le_nil, AC.le_rfl, AC.le_rfl, AC.le_rfl, AC.le_nil, AC.le_rfl, trivial⟩) ?_
   exact gTx (by first | (rw [readOk, if_pos hc1]; trivial) | (rw [readOk, if_neg hc1, if_pos hc2]; simp only [Bool.or_eq_true, Bool.and_eq_true, decide_eq_true_eq] at hx1; exact hx1) | (rw [readOk, if_neg hc1, if_neg hc2, if_pos hc3]; exact hx2) | (rw [readOk, if_neg hc1, if_neg hc2, if_neg (nand hc3), if_pos hc4]; exact hx3) | (rw [readOk, if_neg hc1, if_neg hc2, if_neg (nand hc3), if_neg (nand hc4), if_pos hc5]; exact hx4) | (rw [readOk, if_neg hc1, if_neg hc2, if_neg (nand hc3), if_neg (nand hc4), if_neg (nand hc5)]; simp only [Bool.or_eq_true, Bool.and_eq_true, decide_eq_true_eq] at hx5; exact hx5)) (AV.t (TV.agg [.s (u8 6), .s (i6 0), .s (i6 0), .s (st []), .s (AL.Fnv.slS []), .s (i6 0), .s (bo false), .s (i6 0), .s (Secret.slR []), .s (bo (decide ((List.getD l 0 []) = [115, 101, 97, 108, 101, 100])))])) (by rw [show readS l = (⟨6, 0, 0, [], [], ((0, false, 0, []) : Secret.Sec), decide ((List.getD l 0 []) = [115, 101, 97, 108, 101, 100])⟩ : RepV) from by first | (rw [readS, if_pos hc1]; done) | (rw [readS, if_pos hc1]; rfl) | (rw [readS, if_neg hc1, if_pos hc2]; rfl) | (rw [readS, if_neg hc1, if_neg hc2, if_pos hc3]; rfl) | (rw [readS, if_neg hc1, if_neg hc2, if_neg (nand hc3), if_pos hc4]; rfl) | (rw [readS, if_neg hc1, if_neg hc2, if_neg (nand hc3), if_neg (nand hc4), if_pos hc5]; rfl) | (rw [readS, if_neg hc1, if_neg hc2, if_neg (nand hc3), if_neg (nand hc4), if_neg (nand hc5), listW, if_pos hc6]; rfl) | (rw [readS, if_neg hc1, if_neg hc2, if_neg (nand hc3), if_neg (nand hc4), if_neg (nand hc5), listW, if_neg hc6]; rfl)])
  ·
   refine gS [] [((decide ((List.length l : Int) = 2)) = true) → allP [], ((decide ((List.length l : Int) = 2)) = true) → allP [(decide ((List.length l : Int) = 2)) = true, (0 : Int) ≤ 0, (0 : Int) < List.length l], ((decide ((List.length l : Int) = 2)) = true) → allP [(decide ((List.length l : Int) = 2)) = true], ((decide ((List.length l : Int) = 2)) = true) → allP [(decide ((List.length l : Int) = 2)) = true], (decide ((List.length l : Int) = 2)) = true → allP [(decide ((List.length l : Int) = 2)) = true]] 96 [(0, vc (AL.Fnv.slS l)), (2, vp 2 0), (28, vc (bo ((decide ((List.length l : Int) = 2)) && (decide ((List.getD l 0 []) = [110, 117, 109, 98, 101, 114])))))] [(2, AObj.row [.s (u8 0), .s (i6 0), .s (i6 0), .s (st []), .s (SC.nilsl), .s (i6 0), .s (bo false), .s (i6 0), .s (SC.nilsl), .s (bo false)])] ⟨(fun _ => trivial), (fun hp => by have hq := hp; (try simp only [decide_eq_true_eq, decide_eq_false_iff_not, Bool.and_eq_true, Bool.or_eq_true, Bool.and_eq_false_iff, Bool.or_eq_false_iff, Bool.not_eq_true', Bool.not_eq_false', Bool.not_eq_true, Bool.not_eq_false] at hq); exact ⟨hp, (show (0 : Int) ≤ 0 from (by first | omega | exact hb _ )), (show (0 : Int) < List.length l from (by first | omega | exact hb _ ))⟩), (fun hp => hp), (fun hp => hp), (fun hp2 => (by first | exact hp2 | exact ⟨hp, hp2⟩))⟩ ?_
   refine gB (((decide ((List.length l : Int) = 2)) && (decide ((List.getD l 0 []) = [110, 117, 109, 98, 101, 114])))) (fun hc3 => ?_) fun hc3 => ?_
   ·
    try simp only [xT, xF, xA, xB] at hc3
    refine gSx [(3, CE.call [] [] (vc (i6 (scanN (List.getD l 1 [])))) [])] [(3, 0 ≤ scanN (List.getD l 1 []))] [(0 : Int) ≤ 1, (1 : Int) < List.length l, PureX Tryd.prog 43 [tc (st (List.getD l 1 []))] (vc (i6 (scanN (List.getD l 1 [])))) (0 ≤ scanN (List.getD l 1 []))] 96 [(2, vp 2 0)] [(2, AObj.row [.s (u8 2), .s (i6 0), .s (i6 (scanN (List.getD l 1 []))), .s (st []), .s (SC.nilsl), .s (i6 0), .s (bo false), .s (i6 0), .s (SC.nilsl), .s (bo false)])] ⟨(show (0 : Int) ≤ 1 from (by first | omega | exact hb _ )), (show (1 : Int) < List.length l from (by first | omega | exact hb _ )), (num_c (List.getD l 1 []))⟩ (fun hok => (show (0 ≤ scanN (List.getD l 1 [])) by rw [readOk, if_neg hc1, if_neg hc2, if_pos hc3] at hok; exact hok)) (fun hx2 => ?_)
    replace hx2 : (0 ≤ scanN (List.getD l 1 [])) := hx2
    refine AMx.ent (ent_row 2 (l := [.s (u8 2), .s (i6 0), .s (i6 (scanN (List.getD l 1 []))), .s (st []), .s (SC.nilsl), .s (i6 0), .s (bo false), .s (i6 0), .s (SC.nilsl), .s (bo false)]) (m := [.s (u8 2), .s (i6 0), .s (i6 (scanN (List.getD l 1 []))), .s (st []), .s (AL.Fnv.slS []), .s (i6 0), .s (bo false), .s (i6 0), .s (Secret.slR []), .s (bo false)]) (by kernel_rfl) ⟨AC.le_rfl, AC.le_rfl, AC.le_rfl, AC.le_rfl, AC.le_nil, AC.le_rfl, AC.le_rfl, AC.le_rfl, AC.le_nil, AC.le_rfl, trivial⟩) ?_
    exact gTx (by first | (rw [readOk, if_pos hc1]; trivial) | (rw [readOk, if_neg hc1, if_pos hc2]; simp only [Bool.or_eq_true, Bool.and_eq_true, decide_eq_true_eq] at hx1; exact hx1) | (rw [readOk, if_neg hc1, if_neg hc2, if_pos hc3]; exact hx2) | (rw [readOk, if_neg hc1, if_neg hc2, if_neg (nand hc3), if_pos hc4]; exact hx3) | (rw [readOk, if_neg hc1, if_neg hc2, if_neg (nand hc3), if_neg (nand hc4), if_pos hc5]; exact hx4) | (rw [readOk, if_neg hc1, if_neg hc2, if_neg (nand hc3), if_neg (nand hc4), if_neg (nand hc5)]; simp only [Bool.or_eq_true, Bool.and_eq_true, decide_eq_true_eq] at hx5; exact hx5)) (AV.t (TV.agg [.s (u8 2), .s (i6 0), .s (i6 (scanN (List.getD l 1 []))), .s (st []), .s (AL.Fnv.slS []), .s (i6 0), .s (bo false), .s (i6 0), .s (Secret.slR []), .s (bo false)])) (by rw [show readS l = (⟨2, 0, scanN (List.getD l 1 []), [], [], ((0, false, 0, []) : Secret.Sec), false⟩ : RepV) from by first | (rw [readS, if_pos hc1]; done) | (rw [readS, if_pos hc1]; rfl) | (rw [readS, if_neg hc1, if_pos hc2]; rfl) | (rw [readS, if_neg hc1, if_neg hc2, if_pos hc3]; rfl) | (rw [readS, if_neg hc1, if_neg hc2, if_neg (nand hc3), if_pos hc4]; rfl) | (rw [readS, if_neg hc1, if_neg hc2, if_neg (nand hc3), if_neg (nand hc4), if_pos hc5]; rfl) | (rw [readS, if_neg hc1, if_neg hc2, if_neg (nand hc3), if_neg (nand hc4), if_neg (nand hc5), listW, if_pos hc6]; rfl) | (rw [readS, if_neg hc1, if_neg hc2, if_neg (nand hc3), if_neg (nand hc4), if_neg (nand hc5), listW, if_neg hc6]; rfl)])
   ·
    try simp only [xT, xF, xA, xB] at hc3
    refine gS [] [((decide ((List.length l : Int) = 3)) = true) → allP [], ((decide ((List.length l : Int) = 3)) = true) → allP [(decide ((List.length l : Int) = 3)) = true, (0 : Int) ≤ 0, (0 : Int) < List.length l], ((decide ((List.length l : Int) = 3)) = true) → allP [(decide ((List.length l : Int) = 3)) = true], ((decide ((List.length l : Int) = 3)) = true) → allP [(decide ((List.length l : Int) = 3)) = true], (decide ((List.length l : Int) = 3)) = true → allP [(decide ((List.length l : Int) = 3)) = true]] 96 [(0, vc (AL.Fnv.slS l)), (2, vp 2 0), (43, vc (bo ((decide ((List.length l : Int) = 3)) && (decide ((List.getD l 0 []) = [102, 111, 117, 110, 100])))))] [(2, AObj.row [.s (u8 0), .s (i6 0), .s (i6 0), .s (st []), .s (SC.nilsl), .s (i6 0), .s (bo false), .s (i6 0), .s (SC.nilsl), .s (bo false)])] ⟨(fun _ => trivial), (fun hp => by have hq := hp; (try simp only [decide_eq_true_eq, decide_eq_false_iff_not, Bool.and_eq_true, Bool.or_eq_true, Bool.and_eq_false_iff, Bool.or_eq_false_iff, Bool.not_eq_true', Bool.not_eq_false', Bool.not_eq_true, Bool.not_eq_false] at hq); exact ⟨hp, (show (0 : Int) ≤ 0 from (by first | omega | exact hb _ )), (show (0 : Int) < List.length l from (by first | omega | exact hb _ ))⟩), (fun hp => hp), (fun hp => hp), (fun hp2 => (by first | exact hp2 | exact ⟨hp, hp2⟩))⟩ ?_
    refine gB (((decide ((List.length l : Int) = 3)) && (decide ((List.getD l 0 []) = [102, 111, 117, 110, 100])))) (fun hc4 => ?_) fun hc4 => ?_
    ·
     try simp only [xT, xF, xA, xB] at hc4
     refine gYx [(3, CE.call [] [] (vc (i6 (scanN (List.getD l 1 [])))) []), (7, CE.call [] [] (vc (st (dataS (List.getD l 2 [])))) [])] [(9, [2])] [(3, 0 ≤ scanN (List.getD l 1 [])), (7, dataOk (List.getD l 2 []))] [(0 : Int) ≤ 1, (1 : Int) < List.length l, PureX Tryd.prog 43 [tc (st (List.getD l 1 []))] (vc (i6 (scanN (List.getD l 1 [])))) (0 ≤ scanN (List.getD l 1 [])), (0 : Int) ≤ 2, (2 : Int) < List.length l, PureX Tryd.prog 65 [tc (st (List.getD l 2 []))] (vc (st (dataS (List.getD l 2 [])))) (dataOk (List.getD l 2 []))] 96 [(2, vp 2 0)] [(2, AObj.row [.s (u8 3), .s (i6 0), .s (i6 (scanN (List.getD l 1 []))), .s (st (dataS (List.getD l 2 []))), .s (SC.nilsl), .s (i6 0), .s (bo false), .s (i6 0), .s (SC.nilsl), .s (bo false)])] mixed ⟨(show (0 : Int) ≤ 1 from (by first | omega | exact hb _ )), (show (1 : Int) < List.length l from (by first | omega | exact hb _ )), (num_c (List.getD l 1 [])), (show (0 : Int) ≤ 2 from (by first | omega | exact hb _ )), (show (2 : Int) < List.length l from (by first | omega | exact hb _ )), (data_c (List.getD l 2 []) (by first | omega | exact hb _ ))⟩ (fun hok => (show (0 ≤ scanN (List.getD l 1 [])) ∧ (dataOk (List.getD l 2 [])) by rw [readOk, if_neg hc1, if_neg hc2, if_neg (nand hc3), if_pos hc4] at hok; exact hok)) (fun hx3 => ?_)
     replace hx3 : (0 ≤ scanN (List.getD l 1 [])) ∧ (dataOk (List.getD l 2 [])) := hx3
     refine AMx.ent (ent_row 2 (l := [.s (u8 3), .s (i6 0), .s (i6 (scanN (List.getD l 1 []))), .s (st (dataS (List.getD l 2 []))), .s (SC.nilsl), .s (i6 0), .s (bo false), .s (i6 0), .s (SC.nilsl), .s (bo false)]) (m := [.s (u8 3), .s (i6 0), .s (i6 (scanN (List.getD l 1 []))), .s (st (dataS (List.getD l 2 []))), .s (AL.Fnv.slS []), .s (i6 0), .s (bo false), .s (i6 0), .s (Secret.slR []), .s (bo false)]) (by kernel_rfl) ⟨AC.le_rfl, AC.le_rfl, AC.le_rfl, AC.le_rfl, AC.le_nil, AC.le_rfl, AC.le_rfl, AC.le_rfl, AC.le_nil, AC.le_rfl, trivial⟩) ?_
     exact gTx (by first | (rw [readOk, if_pos hc1]; trivial) | (rw [readOk, if_neg hc1, if_pos hc2]; simp only [Bool.or_eq_true, Bool.and_eq_true, decide_eq_true_eq] at hx1; exact hx1) | (rw [readOk, if_neg hc1, if_neg hc2, if_pos hc3]; exact hx2) | (rw [readOk, if_neg hc1, if_neg hc2, if_neg (nand hc3), if_pos hc4]; exact hx3) | (rw [readOk, if_neg hc1, if_neg hc2, if_neg (nand hc3), if_neg (nand hc4), if_pos hc5]; exact hx4) | (rw [readOk, if_neg hc1, if_neg hc2, if_neg (nand hc3), if_neg (nand hc4), if_neg (nand hc5)]; simp only [Bool.or_eq_true, Bool.and_eq_true, decide_eq_true_eq] at hx5; exact hx5)) (AV.t (TV.agg [.s (u8 3), .s (i6 0), .s (i6 (scanN (List.getD l 1 []))), .s (st (dataS (List.getD l 2 []))), .s (AL.Fnv.slS []), .s (i6 0), .s (bo false), .s (i6 0), .s (Secret.slR []), .s (bo false)])) (by rw [show readS l = (⟨3, 0, scanN (List.getD l 1 []), dataS (List.getD l 2 []), [], ((0, false, 0, []) : Secret.Sec), false⟩ : RepV) from by first | (rw [readS, if_pos hc1]; done) | (rw [readS, if_pos hc1]; rfl) | (rw [readS, if_neg hc1, if_pos hc2]; rfl) | (rw [readS, if_neg hc1, if_neg hc2, if_pos hc3]; rfl) | (rw [readS, if_neg hc1, if_neg hc2, if_neg (nand hc3), if_pos hc4]; rfl) | (rw [readS, if_neg hc1, if_neg hc2, if_neg (nand hc3), if_neg (nand hc4), if_pos hc5]; rfl) | (rw [readS, if_neg hc1, if_neg hc2, if_neg (nand hc3), if_neg (nand hc4), if_neg (nand hc5), listW, if_pos hc6]; rfl) | (rw [readS, if_neg hc1, if_neg hc2, if_neg (nand hc3), if_neg (nand hc4), if_neg (nand hc5), listW, if_neg hc6]; rfl)])
    ·
     try simp only [xT, xF, xA, xB] at hc4
     refine gS [] [((decide ((List.length l : Int) = 5)) = true) → allP [], ((decide ((List.length l : Int) = 5)) = true) → allP [(decide ((List.length l : Int) = 5)) = true, (0 : Int) ≤ 0, (0 : Int) < List.length l], ((decide ((List.length l : Int) = 5)) = true) → allP [(decide ((List.length l : Int) = 5)) = true], ((decide ((List.length l : Int) = 5)) = true) → allP [(decide ((List.length l : Int) = 5)) = true], (decide ((List.length l : Int) = 5)) = true → allP [(decide ((List.length l : Int) = 5)) = true]] 96 [(0, vc (AL.Fnv.slS l)), (2, vp 2 0), (62, vc (bo ((decide ((List.length l : Int) = 5)) && (decide ((List.getD l 0 []) = [97, 98, 111, 117, 116])))))] [(2, AObj.row [.s (u8 0), .s (i6 0), .s (i6 0), .s (st []), .s (SC.nilsl), .s (i6 0), .s (bo false), .s (i6 0), .s (SC.nilsl), .s (bo false)])] ⟨(fun _ => trivial), (fun hp => by have hq := hp; (try simp only [decide_eq_true_eq, decide_eq_false_iff_not, Bool.and_eq_true, Bool.or_eq_true, Bool.and_eq_false_iff, Bool.or_eq_false_iff, Bool.not_eq_true', Bool.not_eq_false', Bool.not_eq_true, Bool.not_eq_false] at hq); exact ⟨hp, (show (0 : Int) ≤ 0 from (by first | omega | exact hb _ )), (show (0 : Int) < List.length l from (by first | omega | exact hb _ ))⟩), (fun hp => hp), (fun hp => hp), (fun hp2 => (by first | exact hp2 | exact ⟨hp, hp2⟩))⟩ ?_
     refine gB (((decide ((List.length l : Int) = 5)) && (decide ((List.getD l 0 []) = [97, 98, 111, 117, 116])))) (fun hc5 => ?_) fun hc5 => ?_
     ·
      try simp only [xT, xF, xA, xB] at hc5
      refine gSx [(2, CE.call [] [] (AV.t (TV.agg [.s (i6 ((aboutS (List.drop 1 l)).1)), .s (bo ((aboutS (List.drop 1 l)).2.1)), .s (i6 ((aboutS (List.drop 1 l)).2.2.1)), .s (Secret.slR ((aboutS (List.drop 1 l)).2.2.2))])) [])] [(2, aboutOk (List.drop 1 l))] [0 ≤ (1 : Int), (1 : Int) ≤ List.length l, PureX Tryd.prog 66 [tc (AL.Fnv.slS (List.drop 1 l))] (AV.t (TV.agg [.s (i6 ((aboutS (List.drop 1 l)).1)), .s (bo ((aboutS (List.drop 1 l)).2.1)), .s (i6 ((aboutS (List.drop 1 l)).2.2.1)), .s (Secret.slR ((aboutS (List.drop 1 l)).2.2.2))])) (aboutOk (List.drop 1 l))] 96 [(2, vp 2 0)] [(2, AObj.row [.s (u8 4), .s (i6 0), .s (i6 0), .s (st []), .s (SC.nilsl), .s (i6 ((aboutS (List.drop 1 l)).1)), .s (bo ((aboutS (List.drop 1 l)).2.1)), .s (i6 ((aboutS (List.drop 1 l)).2.2.1)), .s (Secret.slR ((aboutS (List.drop 1 l)).2.2.2)), .s (bo false)])] ⟨(show 0 ≤ (1 : Int) from (by first | omega | exact hb _ )), (show (1 : Int) ≤ List.length l from (by first | omega | exact hb _ )), (about_c (List.drop 1 l) (by simp only [List.length_drop]; omega) (by rw [drop_at]; exact hb _))⟩ (fun hok => (show (aboutOk (List.drop 1 l)) by rw [readOk, if_neg hc1, if_neg hc2, if_neg (nand hc3), if_neg (nand hc4), if_pos hc5] at hok; exact hok)) (fun hx4 => ?_)
      replace hx4 : (aboutOk (List.drop 1 l)) := hx4
      refine AMx.ent (ent_row 2 (l := [.s (u8 4), .s (i6 0), .s (i6 0), .s (st []), .s (SC.nilsl), .s (i6 ((aboutS (List.drop 1 l)).1)), .s (bo ((aboutS (List.drop 1 l)).2.1)), .s (i6 ((aboutS (List.drop 1 l)).2.2.1)), .s (Secret.slR ((aboutS (List.drop 1 l)).2.2.2)), .s (bo false)]) (m := [.s (u8 4), .s (i6 0), .s (i6 0), .s (st []), .s (AL.Fnv.slS []), .s (i6 ((aboutS (List.drop 1 l)).1)), .s (bo ((aboutS (List.drop 1 l)).2.1)), .s (i6 ((aboutS (List.drop 1 l)).2.2.1)), .s (Secret.slR ((aboutS (List.drop 1 l)).2.2.2)), .s (bo false)]) (by kernel_rfl) ⟨AC.le_rfl, AC.le_rfl, AC.le_rfl, AC.le_rfl, AC.le_nil, AC.le_rfl, AC.le_rfl, AC.le_rfl, AC.le_rfl, AC.le_rfl, trivial⟩) ?_
      exact gTx (by first | (rw [readOk, if_pos hc1]; trivial) | (rw [readOk, if_neg hc1, if_pos hc2]; simp only [Bool.or_eq_true, Bool.and_eq_true, decide_eq_true_eq] at hx1; exact hx1) | (rw [readOk, if_neg hc1, if_neg hc2, if_pos hc3]; exact hx2) | (rw [readOk, if_neg hc1, if_neg hc2, if_neg (nand hc3), if_pos hc4]; exact hx3) | (rw [readOk, if_neg hc1, if_neg hc2, if_neg (nand hc3), if_neg (nand hc4), if_pos hc5]; exact hx4) | (rw [readOk, if_neg hc1, if_neg hc2, if_neg (nand hc3), if_neg (nand hc4), if_neg (nand hc5)]; simp only [Bool.or_eq_true, Bool.and_eq_true, decide_eq_true_eq] at hx5; exact hx5)) (AV.t (TV.agg [.s (u8 4), .s (i6 0), .s (i6 0), .s (st []), .s (AL.Fnv.slS []), .s (i6 ((aboutS (List.drop 1 l)).1)), .s (bo ((aboutS (List.drop 1 l)).2.1)), .s (i6 ((aboutS (List.drop 1 l)).2.2.1)), .s (Secret.slR ((aboutS (List.drop 1 l)).2.2.2)), .s (bo false)])) (by rw [show readS l = (⟨4, 0, 0, [], [], (aboutS (List.drop 1 l)), false⟩ : RepV) from by first | (rw [readS, if_pos hc1]; done) | (rw [readS, if_pos hc1]; rfl) | (rw [readS, if_neg hc1, if_pos hc2]; rfl) | (rw [readS, if_neg hc1, if_neg hc2, if_pos hc3]; rfl) | (rw [readS, if_neg hc1, if_neg hc2, if_neg (nand hc3), if_pos hc4]; rfl) | (rw [readS, if_neg hc1, if_neg hc2, if_neg (nand hc3), if_neg (nand hc4), if_pos hc5]; rfl) | (rw [readS, if_neg hc1, if_neg hc2, if_neg (nand hc3), if_neg (nand hc4), if_neg (nand hc5), listW, if_pos hc6]; rfl) | (rw [readS, if_neg hc1, if_neg hc2, if_neg (nand hc3), if_neg (nand hc4), if_neg (nand hc5), listW, if_neg hc6]; rfl)])
     ·
      try simp only [xT, xF, xA, xB] at hc5
      refine AMx.skip ?_
      refine AMx.blk ?_
      refine gSx [(9, CE.call [] [] (AV.tup []) [])] [(9, ((decide ((List.length l : Int) = 2)) && (decide ((List.getD l 0 []) = [110, 97, 109, 101, 115]))) = true)] [((decide ((List.length l : Int) = 2)) = true) → allP [], ((decide ((List.length l : Int) = 2)) = true) → allP [(decide ((List.length l : Int) = 2)) = true, (0 : Int) ≤ 0, (0 : Int) < List.length l], ((decide ((List.length l : Int) = 2)) = true) → allP [(decide ((List.length l : Int) = 2)) = true], ((decide ((List.length l : Int) = 2)) = true) → allP [(decide ((List.length l : Int) = 2)) = true], (decide ((List.length l : Int) = 2)) = true → allP [(decide ((List.length l : Int) = 2)) = true], PureX Tryd.prog 42 [tc (bo ((decide ((List.length l : Int) = 2)) && (decide ((List.getD l 0 []) = [110, 97, 109, 101, 115]))))] (AV.tup []) (((decide ((List.length l : Int) = 2)) && (decide ((List.getD l 0 []) = [110, 97, 109, 101, 115]))) = true)] 96 [(0, vc (AL.Fnv.slS l)), (2, vp 2 0)] [(2, AObj.row [.s (u8 0), .s (i6 0), .s (i6 0), .s (st []), .s (SC.nilsl), .s (i6 0), .s (bo false), .s (i6 0), .s (SC.nilsl), .s (bo false)])] ⟨(fun _ => trivial), (fun hp => by have hq := hp; (try simp only [decide_eq_true_eq, decide_eq_false_iff_not, Bool.and_eq_true, Bool.or_eq_true, Bool.and_eq_false_iff, Bool.or_eq_false_iff, Bool.not_eq_true', Bool.not_eq_false', Bool.not_eq_true, Bool.not_eq_false] at hq); exact ⟨hp, (show (0 : Int) ≤ 0 from (by first | omega | exact hb _ )), (show (0 : Int) < List.length l from (by first | omega | exact hb _ ))⟩), (fun hp => hp), (fun hp => hp), (fun hp2 => (by first | exact hp2 | exact ⟨hp, hp2⟩)), (must_c ((decide ((List.length l : Int) = 2)) && (decide ((List.getD l 0 []) = [110, 97, 109, 101, 115]))))⟩ (fun hok => (show (((decide ((List.length l : Int) = 2)) && (decide ((List.getD l 0 []) = [110, 97, 109, 101, 115]))) = true) by rw [readOk, if_neg hc1, if_neg hc2, if_neg (nand hc3), if_neg (nand hc4), if_neg (nand hc5)] at hok; simp only [Bool.or_eq_true, Bool.and_eq_true, decide_eq_true_eq]; exact hok)) (fun hx5 => ?_)
      replace hx5 : (((decide ((List.length l : Int) = 2)) && (decide ((List.getD l 0 []) = [110, 97, 109, 101, 115]))) = true) := hx5
      refine gQ ?_
      refine gS [] [(0 : Int) ≤ 1, (1 : Int) < List.length l] 96 [(0, vc (AL.Fnv.slS l)), (2, vp 2 0), (89, vc (bo (decide ((List.getD l 1 []) = [45]))))] [(2, AObj.row [.s (u8 0), .s (i6 0), .s (i6 0), .s (st []), .s (SC.nilsl), .s (i6 0), .s (bo false), .s (i6 0), .s (SC.nilsl), .s (bo false)])] ⟨(show (0 : Int) ≤ 1 from (by first | omega | exact hb _ )), (show (1 : Int) < List.length l from (by first | omega | exact hb _ ))⟩ ?_
      refine gC ((List.getD l 1 []) = [45]) (fun hc6 => ?_) fun hc6 => ?_
      ·
       refine gS [] [] 96 [(2, vp 2 0)] [(2, AObj.row [.s (u8 5), .s (i6 0), .s (i6 0), .s (st []), .s (SC.nilsl), .s (i6 0), .s (bo false), .s (i6 0), .s (SC.nilsl), .s (bo false)])] trivial ?_
       refine AMx.ent (ent_row 2 (l := [.s (u8 5), .s (i6 0), .s (i6 0), .s (st []), .s (SC.nilsl), .s (i6 0), .s (bo false), .s (i6 0), .s (SC.nilsl), .s (bo false)]) (m := [.s (u8 5), .s (i6 0), .s (i6 0), .s (st []), .s (AL.Fnv.slS []), .s (i6 0), .s (bo false), .s (i6 0), .s (Secret.slR []), .s (bo false)]) (by kernel_rfl) ⟨AC.le_rfl, AC.le_rfl, AC.le_rfl, AC.le_rfl, AC.le_nil, AC.le_rfl, AC.le_rfl, AC.le_rfl, AC.le_nil, AC.le_rfl, trivial⟩) ?_
       exact gTx (by first | (rw [readOk, if_pos hc1]; trivial) | (rw [readOk, if_neg hc1, if_pos hc2]; simp only [Bool.or_eq_true, Bool.and_eq_true, decide_eq_true_eq] at hx1; exact hx1) | (rw [readOk, if_neg hc1, if_neg hc2, if_pos hc3]; exact hx2) | (rw [readOk, if_neg hc1, if_neg hc2, if_neg (nand hc3), if_pos hc4]; exact hx3) | (rw [readOk, if_neg hc1, if_neg hc2, if_neg (nand hc3), if_neg (nand hc4), if_pos hc5]; exact hx4) | (rw [readOk, if_neg hc1, if_neg hc2, if_neg (nand hc3), if_neg (nand hc4), if_neg (nand hc5)]; simp only [Bool.or_eq_true, Bool.and_eq_true, decide_eq_true_eq] at hx5; exact hx5)) (AV.t (TV.agg [.s (u8 5), .s (i6 0), .s (i6 0), .s (st []), .s (AL.Fnv.slS []), .s (i6 0), .s (bo false), .s (i6 0), .s (Secret.slR []), .s (bo false)])) (by rw [show readS l = (⟨5, 0, 0, [], [], ((0, false, 0, []) : Secret.Sec), false⟩ : RepV) from by first | (rw [readS, if_pos hc1]; done) | (rw [readS, if_pos hc1]; rfl) | (rw [readS, if_neg hc1, if_pos hc2]; rfl) | (rw [readS, if_neg hc1, if_neg hc2, if_pos hc3]; rfl) | (rw [readS, if_neg hc1, if_neg hc2, if_neg (nand hc3), if_pos hc4]; rfl) | (rw [readS, if_neg hc1, if_neg hc2, if_neg (nand hc3), if_neg (nand hc4), if_pos hc5]; rfl) | (rw [readS, if_neg hc1, if_neg hc2, if_neg (nand hc3), if_neg (nand hc4), if_neg (nand hc5), listW, if_pos hc6]; rfl) | (rw [readS, if_neg hc1, if_neg hc2, if_neg (nand hc3), if_neg (nand hc4), if_neg (nand hc5), listW, if_neg hc6]; rfl)])
      ·
       refine AMx.skip ?_
       refine gS [(3, CE.call [] [] (vc (AL.Fnv.slS (AL.Sep.splitC 44 (List.getD l 1 [])))) [])] [(0 : Int) ≤ 1, (1 : Int) < List.length l, Spec Tryd.prog 41 [tc (st (List.getD l 1 [])), tc (st [44])] (ofH []) (vc (AL.Fnv.slS (AL.Sep.splitC 44 (List.getD l 1 [])))) (ofH [])] 96 [(2, vp 2 0)] [(2, AObj.row [.s (u8 5), .s (i6 0), .s (i6 0), .s (st []), .s (AL.Fnv.slS (AL.Sep.splitC 44 (List.getD l 1 []))), .s (i6 0), .s (bo false), .s (i6 0), .s (SC.nilsl), .s (bo false)])] ⟨(show (0 : Int) ≤ 1 from (by first | omega | exact hb _ )), (show (1 : Int) < List.length l from (by first | omega | exact hb _ )), (AL.Sep.Split_c 44 (List.getD l 1 []) (by first | omega | exact hb _ ))⟩ ?_
       refine AMx.ent (ent_row 2 (l := [.s (u8 5), .s (i6 0), .s (i6 0), .s (st []), .s (AL.Fnv.slS (AL.Sep.splitC 44 (List.getD l 1 []))), .s (i6 0), .s (bo false), .s (i6 0), .s (SC.nilsl), .s (bo false)]) (m := [.s (u8 5), .s (i6 0), .s (i6 0), .s (st []), .s (AL.Fnv.slS (AL.Sep.splitC 44 (List.getD l 1 []))), .s (i6 0), .s (bo false), .s (i6 0), .s (Secret.slR []), .s (bo false)]) (by kernel_rfl) ⟨AC.le_rfl, AC.le_rfl, AC.le_rfl, AC.le_rfl, AC.le_rfl, AC.le_rfl, AC.le_rfl, AC.le_rfl, AC.le_nil, AC.le_rfl, trivial⟩) ?_
       exact gTx (by first | (rw [readOk, if_pos hc1]; trivial) | (rw [readOk, if_neg hc1, if_pos hc2]; simp only [Bool.or_eq_true, Bool.and_eq_true, decide_eq_true_eq] at hx1; exact hx1) | (rw [readOk, if_neg hc1, if_neg hc2, if_pos hc3]; exact hx2) | (rw [readOk, if_neg hc1, if_neg hc2, if_neg (nand hc3), if_pos hc4]; exact hx3) | (rw [readOk, if_neg hc1, if_neg hc2, if_neg (nand hc3), if_neg (nand hc4), if_pos hc5]; exact hx4) | (rw [readOk, if_neg hc1, if_neg hc2, if_neg (nand hc3), if_neg (nand hc4), if_neg (nand hc5)]; simp only [Bool.or_eq_true, Bool.and_eq_true, decide_eq_true_eq] at hx5; exact hx5)) (AV.t (TV.agg [.s (u8 5), .s (i6 0), .s (i6 0), .s (st []), .s (AL.Fnv.slS (AL.Sep.splitC 44 (List.getD l 1 []))), .s (i6 0), .s (bo false), .s (i6 0), .s (Secret.slR []), .s (bo false)])) (by rw [show readS l = (⟨5, 0, 0, [], AL.Sep.splitC 44 (List.getD l 1 []), ((0, false, 0, []) : Secret.Sec), false⟩ : RepV) from by first | (rw [readS, if_pos hc1]; done) | (rw [readS, if_pos hc1]; rfl) | (rw [readS, if_neg hc1, if_pos hc2]; rfl) | (rw [readS, if_neg hc1, if_neg hc2, if_pos hc3]; rfl) | (rw [readS, if_neg hc1, if_neg hc2, if_neg (nand hc3), if_pos hc4]; rfl) | (rw [readS, if_neg hc1, if_neg hc2, if_neg (nand hc3), if_neg (nand hc4), if_pos hc5]; rfl) | (rw [readS, if_neg hc1, if_neg hc2, if_neg (nand hc3), if_neg (nand hc4), if_neg (nand hc5), listW, if_pos hc6]; rfl) | (rw [readS, if_neg hc1, if_neg hc2, if_neg (nand hc3), if_neg (nand hc4), if_neg (nand hc5), listW, if_neg hc6]; rfl)])
end AL.Reply
namespace AL.Reply
open Go AL
open AL.Sep (splitC joinC)
open AL.Ask (numS scanN valS sizeB digB hexS unhexS dg)
open AL.Secret (RowV Sec Rul slR rowR checkS)
set_option linter.unusedVariables false
set_option linter.unusedSimpArgs false
def nameS (s : Bytes) : Bool := ((((!decide (s = [])) && (!decide (s = [45]))) && (decide ((List.length s : Int) ≤ 64))) && (!decide (0 ≤ Go.Lib.indexByte s 32))) && (!decide (0 ≤ Go.Lib.indexByte s 44))
theorem index_mem (c : UInt8) (s : Bytes) : 0 ≤ Go.Lib.indexByte s c ↔ c ∈ s := by
  constructor
  · intro h
    have := (AL.Sep.index_some h).2.2
    rw [this]
    simp
  · intro h
    rcases Int.lt_or_le (Go.Lib.indexByte s c) 0 with q | q
    · exact absurd h (AL.Sep.index_none q)
    · exact q
theorem name_iff (s : Bytes) : nameS s = true ↔ s ≠ [] ∧ s ≠ [45] ∧ s.length ≤ 64 ∧ 32 ∉ s ∧ 44 ∉ s := by
  unfold nameS
  simp only [Bool.and_eq_true, Bool.not_eq_true', decide_eq_true_eq, decide_eq_false_iff_not, index_mem]
  constructor
  · rintro ⟨⟨⟨⟨h1, h2⟩, h3⟩, h4⟩, h5⟩
    exact ⟨h1, h2, by omega, h4, h5⟩
  · rintro ⟨h1, h2, h3, h4, h5⟩
    exact ⟨⟨⟨⟨h1, h2⟩, by omega⟩, h4⟩, h5⟩
def partsS (r : RepV) : RepV :=
  if r.kind = 0 then ⟨r.kind, r.err, 0, [], [], (0, false, 0, []), false⟩
  else if r.kind = 2 then ⟨r.kind, 0, r.n, [], [], (0, false, 0, []), false⟩
  else if r.kind = 3 then ⟨r.kind, 0, r.n, r.data, [], (0, false, 0, []), false⟩
  else if r.kind = 4 then ⟨r.kind, 0, 0, [], [], r.sec, false⟩
  else if r.kind = 5 then ⟨r.kind, 0, 0, [], r.names, (0, false, 0, []), false⟩
  else if r.kind = 6 then ⟨r.kind, 0, 0, [], [], (0, false, 0, []), r.flag⟩
  else ⟨r.kind, 0, 0, [], [], (0, false, 0, []), false⟩
theorem RepV.eq_iff (a b : RepV) : a = b ↔ a.kind = b.kind ∧ a.err = b.err ∧ a.n = b.n ∧ a.data = b.data ∧ a.names = b.names ∧ a.sec = b.sec ∧ a.flag = b.flag := by
  cases a; cases b; simp
theorem same_eq {a b : RepV} (h : a.names = b.names ∧ a.sec = b.sec) : (((((decide (a.kind = b.kind)) && (decide (a.err = b.err))) && (decide (a.n = b.n))) && (decide (a.data = b.data))) && (a.flag == b.flag)) = decide (a = b) := by
  rw [Bool.eq_iff_iff]
  simp only [Bool.and_eq_true, decide_eq_true_eq, RepV.eq_iff, beq_iff_eq]
  obtain ⟨h1, h2⟩ := h
  constructor
  · rintro ⟨⟨⟨⟨q1, q2⟩, q3⟩, q4⟩, q5⟩; exact ⟨q1, q2, q3, q4, h1, h2, q5⟩
  · rintro ⟨q1, q2, q3, q4, _, _, q5⟩; exact ⟨⟨⟨⟨q1, q2⟩, q3⟩, q4⟩, q5⟩
theorem same_no {a b : RepV} (h : ¬ a.names = b.names ∨ ¬ a.sec = b.sec) : decide (a = b) = false := by
  rw [decide_eq_false_iff_not]
  rintro rfl
  simp at h
def FitR (r : RepV) : Prop :=
  if r.kind = 0 then 1 ≤ r.err ∧ r.err ≤ 99
  else if r.kind = 2 then 0 ≤ r.n ∧ r.n ≤ 999 ∧ (List.length r.data : Int) ≤ 400
  else if r.kind = 3 then 0 ≤ r.n ∧ r.n ≤ 999 ∧ (List.length r.data : Int) ≤ 400
  else if r.kind = 4 then checkS r.sec ((6, false) : Rul) = 0
  else if r.kind = 5 then (List.length r.names : Int) ≤ 64 ∧ ¬ 0 ≤ Lib.idxS (fun x : Bytes => !nameS x) r.names
  else True
noncomputable def checkR (r : RepV) : Int := open Classical in if 6 < r.kind then 22 else if r = partsS r ∧ FitR r then 0 else 2
theorem check_22 {r : RepV} (h : 6 < r.kind) : checkR r = 22 := if_pos h
theorem check_0 {r : RepV} (h : ¬ 6 < r.kind) (h1 : r = partsS r) (h2 : FitR r) : checkR r = 0 := by
  unfold checkR; rw [if_neg h, if_pos ⟨h1, h2⟩]
theorem check_2 {r : RepV} (h : ¬ 6 < r.kind) (h1 : ¬ (r = partsS r ∧ FitR r)) : checkR r = 2 := by
  unfold checkR; rw [if_neg h, if_neg h1]
theorem check_iff (r : RepV) : checkR r = 0 ↔ ¬ 6 < r.kind ∧ r = partsS r ∧ FitR r := by
  unfold checkR
  split
  · exact ⟨fun h => by omega, fun h => absurd ‹_› h.1⟩
  · split
    · exact ⟨fun _ => ⟨‹_›, ‹_›⟩, fun _ => rfl⟩
    · exact ⟨fun h => by omega, fun h => absurd h.2 ‹_›⟩
def valP (s : Bytes) : RepV := if List.getD (splitC 32 s) 0 [] = ([101, 114, 114, 111, 114] : Bytes) then { repd with err := scanN (List.getD (splitC 32 s) 1 []) } else readS (List.drop 1 (splitC 32 s))
def parseOk (s : Bytes) : Prop :=
  if List.getD (splitC 32 s) 0 [] = ([101, 114, 114, 111, 114] : Bytes) then ((List.length (splitC 32 s) : Int) = 2 ∧ 0 ≤ scanN (List.getD (splitC 32 s) 1 [])) ∧ checkR { repd with err := scanN (List.getD (splitC 32 s) 1 []) } = 0
  else (List.getD (splitC 32 s) 0 [] = ([111, 107] : Bytes) ∧ readOk (List.drop 1 (splitC 32 s))) ∧ checkR (readS (List.drop 1 (splitC 32 s))) = 0
noncomputable def parseR (s : Bytes) : RepV × Int := open Classical in if parseOk s then (valP s, 0) else (repd, 4)
theorem words_le {s : Bytes} (hs : s.length ≤ 100000) : ∀ j, (List.getD (List.drop 1 (splitC 32 s)) j []).length ≤ 100000 := by
  intro j
  rw [drop_at]
  by_cases h : j + 1 < (splitC 32 s).length
  · exact Nat.le_trans (AL.Sep.mem_len (Lib.getD_mem [] _ _ h)) hs
  · rw [List.getD_eq_getElem?_getD, List.getElem?_eq_none (by omega)]; simp
theorem split_pos (s : Bytes) : 1 ≤ (splitC 32 s).length := List.length_pos_iff.2 (AL.Sep.split_ne 32 s)
end AL.Reply
namespace AL
open Go
set_option linter.unusedVariables false
set_option linter.unusedSimpArgs false
theorem lkp3 {Γ : Ctx} {obj : Nat → Option AObj} {w : World} {a b c : Nat} {x y z : AV} {t : Nat} {v : Value} (ha : t = a → MV Γ obj w x v) (hb : t = b → MV Γ obj w y v) (hc : t = c → MV Γ obj w z v) : MV Γ obj w (lkp [(a, x), (b, y), (c, z)] t) v := by
  simp only [lkp]
  by_cases h1 : t = a
  · subst h1; rw [Nat.beq_refl]; exact ha rfl
  · rw [beq_false h1]
    by_cases h2 : t = b
    · subst h2; rw [Nat.beq_refl]; exact hb rfl
    · rw [beq_false h2]
      by_cases h3 : t = c
      · subst h3; rw [Nat.beq_refl]; exact hc rfl
      · rw [beq_false h3]; trivial
theorem ofH2 {i j : Nat} {a b : AObj} {id : Nat} {o : AObj} (h : ofH [(i, a), (j, b)] id = some o) : (id = i ∧ o = a) ∨ (id = j ∧ o = b) := by
  simp only [ofH] at h
  by_cases h1 : id = i
  · subst h1; rw [Nat.beq_refl] at h; cases h; exact .inl ⟨rfl, rfl⟩
  · rw [beq_false h1] at h
    by_cases h2 : id = j
    · subst h2; rw [Nat.beq_refl] at h; cases h; exact .inr ⟨rfl, rfl⟩
    · rw [beq_false h2] at h; cases h
def rhoB (Γ : Ctx) (i j N : Nat) (id : Nat) : Nat := bif Nat.beq id N then Γ.ρ i else bif Nat.beq id (N + 1) then Γ.ρ j else Γ.ρ id
theorem rhoB_1 (Γ : Ctx) (i j N : Nat) : rhoB Γ i j N N = Γ.ρ i := by unfold rhoB; rw [Nat.beq_refl]; rfl
theorem rhoB_2 (Γ : Ctx) (i j N : Nat) : rhoB Γ i j N (N + 1) = Γ.ρ j := by unfold rhoB; rw [beq_false (by omega), Nat.beq_refl]; rfl
theorem rhoB_3 (Γ : Ctx) (i j N : Nat) {id : Nat} (h : ¬ (id = N ∨ id = N + 1)) : rhoB Γ i j N id = Γ.ρ id := by unfold rhoB; rw [beq_false (fun e => h (.inl e)), beq_false (fun e => h (.inr e))]; rfl
theorem conc_boxes {G : Gd} {Γ : Ctx} {s : AS} {a : Act} {w : World} {x : SC} {i j N : Nat} {l m : List AC} (ds : List Deferred) (hC : Conc G Γ s a w) (hN : s.n = N) (h0 : s.reg 0 = vc x) (h2 : s.reg 2 = vp i 0) (h3 : s.reg 3 = vp j 0)
    (ho2 : s.obj i = some (.row l)) (ho3 : s.obj j = some (.row m)) (hl : acsNo l = true) (hm : acsNo m = true) (hij : i ≠ j) :
    Conc ⟨G.w, G.pr, G.I, rhoB Γ i j N, Γ.η, ds⟩ ⟨Γ.I, rhoB Γ i j N, Γ.η⟩ (AS.lst N [(0, vc x), (2, vp N 0), (3, vp (N + 1) 0)] [(N, .row l), (N + 1, .row m)]) { a with defers := ds } w := by
  have hx : Ext (fun id => id = N ∨ id = N + 1) Γ w ⟨Γ.I, rhoB Γ i j N, Γ.η⟩ w := ⟨fun b h => h, fun _ _ => rfl, fun id hid => ⟨rhoB_3 Γ i j N hid, rfl⟩⟩
  have f2 : ∀ b, fp ⟨Γ.I, rhoB Γ i j N, Γ.η⟩ N (.row l) b → fp Γ i (.row l) b := fun b hb => ⟨by rw [← rhoB_1 Γ i j N]; exact hb.1, trivial⟩
  have f3 : ∀ b, fp ⟨Γ.I, rhoB Γ i j N, Γ.η⟩ (N + 1) (.row m) b → fp Γ j (.row m) b := fun b hb => ⟨by rw [← rhoB_2 Γ i j N]; exact hb.1, trivial⟩
  refine ⟨hC.size.trans hN, rfl, fun t => ?_, ⟨fun id o ho => ?_, fun id o b ho hb => ?_, fun id o id' o' b ho ho' hb hb' => ?_, hC.heap.ilt, hC.heap.glob⟩, ⟨hC.g.os, hC.g.tape, hC.g.output, hC.g.size, hC.g.prlt, hC.g.keep, hC.g.sub, hC.g.bak, fun id o b ho hb => ?_⟩, fun _ _ => ⟨rfl, rfl⟩⟩
  · refine lkp3 (fun e => ?_) (fun e => ?_) (fun e => ?_) <;> subst e
    · have := hC.regs 0; rw [h0] at this; exact this
    · have := hC.regs 2; rw [h2] at this
      have this : a.tmps.getD 2 undef = .pointer (some ⟨Γ.ρ i, 0, none⟩) := this
      show a.tmps.getD 2 undef = .pointer (some ⟨rhoB Γ i j N N, 0, none⟩)
      rw [rhoB_1]; exact this
    · have := hC.regs 3; rw [h3] at this
      have this : a.tmps.getD 3 undef = .pointer (some ⟨Γ.ρ j, 0, none⟩) := this
      show a.tmps.getD 3 undef = .pointer (some ⟨rhoB Γ i j N (N + 1), 0, none⟩)
      rw [rhoB_2]; exact this
  · rcases ofH2 ho with ⟨rfl, rfl⟩ | ⟨rfl, rfl⟩
    · obtain ⟨cs, T, h1, hcs⟩ := hC.heap.objs i _ ho2
      exact ⟨cs, T, by show w.heap[rhoB Γ i j id id]? = _; rw [rhoB_1]; exact h1, MCs.ext hx (acsNo_has l hl) hcs⟩
    · obtain ⟨cs, T, h1, hcs⟩ := hC.heap.objs j _ ho3
      exact ⟨cs, T, by show w.heap[rhoB Γ i j N (N + 1)]? = _; rw [rhoB_2]; exact h1, MCs.ext hx (acsNo_has m hm) hcs⟩
  · rcases ofH2 ho with ⟨rfl, rfl⟩ | ⟨rfl, rfl⟩
    · exact hC.heap.lt i _ b ho2 (f2 b hb)
    · exact hC.heap.lt j _ b ho3 (f3 b hb)
  · rcases ofH2 ho with ⟨rfl, rfl⟩ | ⟨rfl, rfl⟩ <;> rcases ofH2 ho' with ⟨rfl, rfl⟩ | ⟨rfl, rfl⟩
    · rfl
    · exact absurd (hC.heap.inj _ _ _ _ b ho2 ho3 (f2 b hb) (f3 b hb')) hij
    · exact absurd (hC.heap.inj _ _ _ _ b ho3 ho2 (f3 b hb) (f2 b hb')).symm hij
    · rfl
  · rcases ofH2 ho with ⟨rfl, rfl⟩ | ⟨rfl, rfl⟩
    · exact hC.g.own i _ b ho2 (f2 b hb)
    · exact hC.g.own j _ b ho3 (f3 b hb)
theorem conc_two {G : Gd} {Γ : Ctx} {s : AS} {a a2 : Act} {w : World} {N n p q : Nat} {l m : List AC} (hC : Conc G Γ s a w) (ho2 : s.obj N = some (.row l)) (ho3 : s.obj (N + 1) = some (.row m))
    (hsz : a2.tmps.size = n) (hd : a2.defers = []) (hp : a2.tmps.getD p undef = .pointer (some ⟨Γ.ρ N, 0, none⟩)) (hq : a2.tmps.getD q undef = .pointer (some ⟨Γ.ρ (N + 1), 0, none⟩)) :
    Conc ⟨G.w, G.pr, G.I, Γ.ρ, Γ.η, []⟩ Γ (AS.lst n [(p, vp N 0), (q, vp (N + 1) 0)] [(N, .row l), (N + 1, .row m)]) a2 w := by
  have hs : ∀ id o, ofH [(N, AObj.row l), (N + 1, .row m)] id = some o → s.obj id = some o := fun id o h => by
    rcases ofH2 h with ⟨rfl, rfl⟩ | ⟨rfl, rfl⟩
    · exact ho2
    · exact ho3
  have hg := hC.g.sub_obj hs
  refine ⟨hsz, hd, fun t => ?_, heap_sub hC.heap hs, ⟨hg.os, hg.tape, hg.output, hg.size, hg.prlt, hg.keep, hg.sub, hg.bak, hg.own⟩, fun _ _ => ⟨rfl, rfl⟩⟩
  simp only [AS.lst, lkp]
  by_cases h1 : t = p
  · subst h1; rw [Nat.beq_refl]; exact hp
  · rw [beq_false h1]
    by_cases h2 : t = q
    · subst h2; rw [Nat.beq_refl]; exact hq
    · rw [beq_false h2]; trivial
def chkB (N nl nm : Nat) (s : AS) : Bool := match s.obj N, s.obj (N + 1), s.reg 2, s.reg 3 with
  | some (.row l), some (.row m), .t (.c (.ptr i 0)), .t (.c (.ptr j 0)) => (Nat.beq i N && Nat.beq j (N + 1)) && ((Nat.beq l.length nl && Nat.beq m.length nm) && Nat.ble s.n N)
  | _, _, _, _ => false
def BoxS (N : Nat) (l m : List AC) (s : AS) : Prop := s.n ≤ N ∧ s.obj N = some (.row l) ∧ s.obj (N + 1) = some (.row m) ∧ s.reg 2 = vp N 0 ∧ s.reg 3 = vp (N + 1) 0
theorem chkB_ok {N nl nm : Nat} {s : AS} (h : chkB N nl nm s = true) : ∃ l m, BoxS N l m s ∧ l.length = nl ∧ m.length = nm := by
  unfold chkB at h
  split at h
  · rename_i l m i j h1 h2 h3 h4
    simp only [Bool.and_eq_true] at h
    have e1 := Nat.eq_of_beq_eq_true h.1.1
    have e2 := Nat.eq_of_beq_eq_true h.1.2
    subst e1 e2
    exact ⟨l, m, ⟨Nat.le_of_ble_eq_true h.2.2, h1, h2, h3, h4⟩, Nat.eq_of_beq_eq_true h.2.1.1, Nat.eq_of_beq_eq_true h.2.1.2⟩
  · cases h
def RetB (N : Nat) (ok : Prop) (l m : List AC) (e : Exit) (s : AS) : Prop :=
  match e with
  | .panic chain => ¬ ok ∧ Chn chain ∧ ∃ l' m', BoxS N l' m' s ∧ l'.length = l.length ∧ m'.length = m.length
  | .ret => ok ∧ BoxS N l m s
  | _ => False
def evRC (P : Program) (ops : Array Oper) (ces : List (Nat × CE)) (xs : List (Nat × Prop)) (chk : AS → Bool) : Nat → List Oper → AS → Option (List Prop × AS)
  | _, [], s => some ([], s)
  | i, o :: l, s =>
    bif (xoAt xs i).isSome && !(chk s) then none else
    match evOpX P ops s o (ceAt ces i) (xoAt xs i) with
    | some (cs, s1) => match evRC P ops ces xs chk (i + 1) l s1 with
      | some (cs', s2) => some (cs ++ cs', s2)
      | none => none
    | none => none
def evRegC (P : Program) (ops : Array Oper) (ces : List (Nat × CE)) (xs : List (Nat × Prop)) (chk : AS → Bool) (s : AS) (ks hs : List Nat) : Option (List Prop × AS) :=
  match evRC P ops ces xs chk 0 ops.toList s with
  | some (cs, s1) => bif ascX 0 xs && topX ops.size xs then some (cs, s1.proj ks hs) else none
  | none => none
theorem evRC_ok {P : Program} {ops : Array Oper} {ces : List (Nat × CE)} {xs : List (Nat × Prop)} {chk : AS → Bool} {Q : Exit → Act → World → Prop} {G : Gd}
    (hP : ∀ j q, xoAt xs j = some q → ¬ q → ∀ chain, Chn chain → ∀ s Γ a w, chk s = true → Conc G Γ s a w → Q (.panic chain) a w) :
    ∀ (l : List Oper) (i : Nat) (s s' : AS) (cs : List Prop), (∀ j, l[j]? = ops[i + j]?) → evRC P ops ces xs chk i l s = some (cs, s') → allP cs → (∀ j, j < i → ∀ q, xoAt xs j = some q → q) →
    ∀ Γ a w, Conc G Γ s a w → ((∀ j, j < i + l.length → ∀ q, xoAt xs j = some q → q) → ∀ Γ' a' w', Conc G Γ' s' a' w' → Q .normal a' w') → wpOps P ops Q (List.range' i l.length) a w
  | [], i, s, s', cs, hl, h, hc, hx, Γ, a, w, hC, hQ => by
    cases h
    simp only [List.length_nil, List.range'_zero, wpOps]
    exact hQ hx _ _ _ hC
  | o :: l, i, s, s', cs, hl, h, hc, hx, Γ, a, w, hC, hQ => by
    unfold evRC at h
    cases hb : (xoAt xs i).isSome && !(chk s)
    case true => rw [hb] at h; cases h
    rw [hb] at h
    simp only [cond_false] at h
    split at h
    · rename_i cs1 s1 h1
      split at h
      · rename_i cs2 s2 h2
        cases h
        rw [allP_append] at hc
        have ho : ops[i]? = some o := by have := hl 0; simpa using this.symm
        rw [List.length_cons, List.range'_succ, wpOps_cons, wpO_eq ho]
        refine evOpX_ok h1 hc.1 hC (fun hok Γ' a' w' hC' => ?_) (fun q hq hn chain hch Γ' w' hC' => hP i q hq hn chain hch s Γ' a w' (by rw [hq] at hb; simpa using hb) hC')
        refine evRC_ok hP l (i + 1) s1 _ cs2 (fun j => by have := hl (j + 1); rw [List.getElem?_cons_succ] at this; rw [this]; congr 1; omega) h2 hc.2 (fun j hj q hq => ?_) Γ' a' w' hC' (fun hall => hQ fun j hj => hall j (by rw [List.length_cons] at hj; omega))
        by_cases hji : j = i
        · subst hji; exact hok q hq
        · exact hx j (by omega) q hq
      · cases h
    · cases h
section
variable {P : Program} {k : List KI} {s : AS} {N : Nat} {ok : Prop} {l m : List AC}
theorem AMx.regionC {id : Nat} {ops : Array Oper} {ces : List (Nat × CE)} {xs : List (Nat × Prop)} {ks hs : List Nat} {cs : List Prop} {s' : AS} (h : evRegC P ops ces xs (chkB N l.length m.length) s ks hs = some (cs, s')) (hc : allP cs)
    (hk : okX xs → AMx P (RetB N ok l m) k .normal s') (hp : ok → okX xs) : AMx P (RetB N ok l m) (.code (.region id ops false) :: k) .normal s := by
  intro G Γ a w hC
  refine wp_region ?_
  unfold evRegC at h
  split at h
  · rename_i cs1 s1 h1
    cases hB : ascX 0 xs && topX ops.size xs
    · rw [hB] at h; cases h
    rw [hB] at h
    simp only [cond_true, Option.some.injEq, Prod.mk.injEq] at h
    obtain ⟨rfl, rfl⟩ := h
    simp only [Bool.and_eq_true] at hB
    have := evRC_ok (Q := fun e a' w' => ∃ s' Γ', AMx P (RetB N ok l m) k e s' ∧ Conc G Γ' s' a' w') (fun j q hq hn chain hch s Γ a w hck hC => ⟨s, Γ, AMx.pan k (show ¬ ok ∧ Chn chain ∧ _ from ⟨fun h => not_okX hq hn (hp h), hch, chkB_ok hck⟩), hC⟩)
      ops.toList 0 s s1 cs1 (fun j => by simp) h1 hc (fun j hj => absurd hj (Nat.not_lt_zero j)) Γ a w hC (fun hall Γ' a' w' hC' => ⟨_, Γ', hk (okX_of hB.1 hB.2 fun j _ hj q hq => hall j (by simpa using hj) q hq), conc_le hC' (le_proj _ _ _)⟩)
    rwa [show List.range' 0 ops.toList.length = List.range ops.size by rw [List.range_eq_range']; simp] at this
  · cases h
theorem gRc {id : Nat} {ops : Array Oper} (ces : List (Nat × CE)) (xs : List (Nat × Prop)) (cs : List Prop) (n : Nat) (L : List (Nat × AV)) (H : List (Nat × AObj)) (hc : allP cs) (hp : ok → okX xs) (hk : okX xs → AMx P (RetB N ok l m) k .normal (AS.lst n L H))
    (h : evRegC P ops ces xs (chkB N l.length m.length) s (L.map Prod.fst) (H.map Prod.fst) = some (cs, AS.lst n L H) := by kernel_rfl) : AMx P (RetB N ok l m) (.code (.region id ops false) :: k) .normal s := AMx.regionC h hc hk hp
theorem gSc {id : Nat} {ops : Array Oper} {y : Code} (ces : List (Nat × CE)) (xs : List (Nat × Prop)) (cs : List Prop) (n : Nat) (L : List (Nat × AV)) (H : List (Nat × AObj)) (hc : allP cs) (hp : ok → okX xs) (hk : okX xs → AMx P (RetB N ok l m) (.code y :: k) .normal (AS.lst n L H))
    (h : evRegC P ops ces xs (chkB N l.length m.length) s (L.map Prod.fst) (H.map Prod.fst) = some (cs, AS.lst n L H) := by kernel_rfl) : AMx P (RetB N ok l m) (.code (.seq (.region id ops false) y) :: k) .normal s := AMx.seq (AMx.regionC h hc hk hp)
theorem gTc (hok : ok) {l' m' : List AC} (ho : s.obj N = some (.row l')) (ho' : s.obj (N + 1) = some (.row m')) (h2 : s.reg 2 = vp N 0) (h3 : s.reg 3 = vp (N + 1) 0) (hn : Nat.ble s.n N = true) (hl : l' = l) (hm : m' = m) : AMx P (RetB N ok l m) (.code .ret :: k) .normal s :=
  AMx.ret (show ok ∧ BoxS N l m s from ⟨hok, Nat.le_of_ble_eq_true hn, hl ▸ ho, hm ▸ ho', h2, h3⟩)
end
theorem pure_end {P : Program} {fn : Func} {G : Gd} {Γ0 Γ' : Ctx} {s : AS} {a : Act} {w0 w' : World} {res : AV} (h1 : G.w = w0) (h2 : G.pr = prOf Γ0 (ofH []) w0) (h3 : G.I = Γ0.I) (hC' : Conc G Γ' s a w') (hr : evRes P fn s = some res) (hno : res.no = true) :
    ∃ v, (results fn a.tmps).run P w' = Result.ok v w' ∧ ∃ v1 Γ'', Ending.returned v = .returned v1 ∧ MV Γ'' H0 w' res v1 ∧ HeapOk Γ'' H0 w' ∧ GOk ⟨w0, prOf Γ0 (ofH []) w0, Γ0.I, Γ0.ρ, Γ0.η, []⟩ Γ'' H0 w' ∧
      Agree (fun id => H0 id ≠ none ∧ H0 id = none) Γ0 Γ'' := by
  obtain ⟨v, e1, e2, e3⟩ := res_ok (P := P) (fn := fn) hC' hr
  have hh' := heap0 hC'.heap
  have hg' := hC'.g.sub_obj (obj' := H0) (fun _ _ h => by cases h)
  let Γ2 : Ctx := ⟨Γ'.I, Γ0.ρ, Γ0.η⟩
  have hx : Ext (fun _ => True) Γ' w' Γ2 w' := ⟨fun b hb => hb, fun b hb => rfl, fun id h => absurd trivial h⟩
  refine ⟨v, e1, v, Γ2, rfl, MV.ext hx (fun id o h => absurd trivial h) (AV.no_has res hno) (plain_obj (obj' := H0) e3 e2), ⟨fun _ _ h => (by cases h), fun _ _ _ h => (by cases h), fun _ _ _ _ _ h => (by cases h), hh'.ilt, hh'.glob⟩, ?_, fun _ _ => ⟨rfl, rfl⟩⟩
  subst h1
  exact ⟨hg'.os, hg'.tape, hg'.output, hg'.size, fun b hb => hg'.prlt b (by rw [h2]; exact hb), fun b hb => hg'.keep b (by rw [h2]; exact hb), fun b hb => hg'.sub b (by rw [h3]; exact hb), fun b hb hi => by have := hg'.bak b (by rw [h2]; exact hb) hi; rwa [h3] at this, fun _ _ _ h => (by cases h)⟩
end AL
namespace AL.Reply
open Go Go.Proofs AL
set_option linter.unusedVariables false
set_option linter.unusedSimpArgs false
def ZR : List AC := [.s (u8 0), .s (i6 0), .s (i6 0), .s (st []), .s .nilsl, .s (i6 0), .s (bo false), .s (i6 0), .s .nilsl, .s (bo false)]
theorem f40_body : Tryd.f40.body = some (.seq (.region 0 (rg Tryd.f40 0) false) (.cond (.tmp 3) (.region 1 (rg Tryd.f40 1) false) .skip)) := by kernel_rfl
set_option maxHeartbeats 1600000 in
theorem clo_idle (p1 p2 : Value) (w : World) :
    CallsD Tryd.prog 40 #[p1, p2] .returning w fun e u' w' => e = .returned (.tuple #[]) ∧ u' = .returning ∧ w' = w := by
  refine callsD_of_wpS Tryd.func40 rfl fun c₀ cs hu => ?_
  apply wpS_seq
  apply wpS_region
  simp [wpOpsS, go_sem, recoverD, hu, Tryd.ntmps40, Exit.thenS]
  refine wpS_cond (t := false) (by simp [Act.eval, Array.replicate]) ?_
  simp only [Bool.false_eq_true, if_false]
  refine wpS_of_wp (wp_skip ?_)
  cases c₀
  simp_all [bodyPostS, results, Tryd.results40]
set_option maxHeartbeats 1600000 in
theorem clo_pan (p1 p2 : Value) (w : World) (u : TypeId) (pv : Value) {G : Gd} {Γ : Ctx} {c0 c1 c2 c3 c4 c5 c6 c7 c8 c9 d0 : AC} (hG : G.df = [])
    (hC : ∀ a2 : Act, a2.tmps.size = 5 → a2.defers = [] → a2.tmps.getD 0 undef = p1 → a2.tmps.getD 1 undef = p2 → Conc G Γ (AS.lst 5 [(0, vp 34 0), (1, vp 35 0)] [(34, .row [c0, c1, c2, c3, c4, c5, c6, c7, c8, c9]), (35, .row [d0])]) a2 w) :
    CallsD Tryd.prog 40 #[p1, p2] (.panicking [{ v := .iface u pv, recovered := false }]) w fun e u' w' =>
      e = .returned (.tuple #[]) ∧ u' = .panicking [{ v := .iface u pv, recovered := true }] ∧ ∃ a' Γ', Conc G Γ' (AS.lst 5 [(0, vp 34 0), (1, vp 35 0)] [(34, .row ZR), (35, .row [.s (i6 4)])]) a' w' := by
  refine callsD_of_wpS Tryd.func40 rfl fun c₀ cs hu => ?_
  apply wpS_seq
  apply wpS_region
  simp [wpOpsS, go_sem, recoverD, hu, Tryd.ntmps40, Exit.thenS]
  refine wpS_cond (t := true) (by simp [Act.eval, Array.replicate]) ?_
  simp only [if_true]
  refine wpS_of_wp ?_
  have h : AMx Tryd.prog (fun e s => e = .normal ∧ s = AS.lst 5 [(0, vp 34 0), (1, vp 35 0)] [(34, .row ZR), (35, .row [.s (i6 4)])]) [.code (.region 1 (rg Tryd.f40 1) false)] .normal (AS.lst 5 [(0, vp 34 0), (1, vp 35 0)] [(34, .row [c0, c1, c2, c3, c4, c5, c6, c7, c8, c9]), (35, .row [d0])]) :=
    gR [] [] 5 [(0, vp 34 0), (1, vp 35 0)] [(34, .row ZR), (35, .row [.s (i6 4)])] trivial ⟨rfl, rfl⟩
  refine wp_mono (h G Γ _ _ (hC _ (by simp) rfl (by simp) (by simp))) ?_
  rintro e a' w' ⟨s', Γ', ⟨rfl, rfl⟩, hC'⟩
  exact ⟨hC'.defers.trans hG, _, rfl, .tuple #[], by unfold results; rw [Tryd.results40]; simp, rfl, rfl, a', Γ', hC'⟩
theorem run_clo (p1 p2 : Value) (w : World) : (invoke (.fn (.func 40) #[p1, p2]) #[]).run Tryd.prog w = Result.ok (.enter 40 #[p1, p2]) w := by
  have hn : Tryd.f40.name ≠ "runtime.NumGoroutine" := by decide +kernel
  have hb : Tryd.f40.body ≠ none := by rw [f40_body]; simp
  simp [invoke, callFunc, Tryd.func40, hn, hb]
def mkf : Oper := { dst := some 5, op := .makeFunc (.func 40) #[] #[.tmp 2, .tmp 3], type := 1, pos := "reply.go:244", after := #[], guard := none }
def dfr : Oper := { dst := none, op := .defer { callee := .value (.tmp 5), args := #[], argTypes := #[] }, type := 0, pos := "reply.go:244", after := #[{ on := 0, ground := .data }], guard := none }
theorem rg1 : rg Tryd.f17 1 = #[mkf, dfr] := by kernel_rfl
set_option maxRecDepth 100000 in
set_option maxHeartbeats 4000000 in
theorem parse_of {s : Bytes} {c : Code} {ok : Prop} {c0 c1 c2 c3 c4 c5 c6 c7 c8 c9 : SC} {res : AV} (hb : Tryd.f17.body = some (.seq (.region 0 (rg Tryd.f17 0) false) (.seq (.region 1 (rg Tryd.f17 1) false) c)))
    (h : AMx Tryd.prog (RetB 34 ok [.s c0, .s c1, .s c2, .s c3, .s c4, .s c5, .s c6, .s c7, .s c8, .s c9] [.s (i6 0)]) [.code c] .normal (AS.lst 34 [(0, vc (st s)), (2, vp 34 0), (3, vp 35 0)] [(34, .row ZR), (35, .row [.s (i6 0)])]))
    (hy : ok → res = .tup [.agg [.s c0, .s c1, .s c2, .s c3, .s c4, .s c5, .s c6, .s c7, .s c8, .s c9], tc (i6 0)]) (hn : ¬ ok → AV.le (.tup [.agg ZR, tc (i6 4)]) res) : Pure Tryd.prog 17 [tc (st s)] res := by
  refine ⟨⟨_, Tryd.func17, by rw [hb]; rfl, by kernel_rfl⟩, fun Γ w cargs hh hm => ?_⟩
  refine calls_of_wp_defers Tryd.func17 hb ?_
  have hC := body_start (P := Tryd.prog) (H := []) Tryd.ntmps17 (by kernel_rfl) hh hm
  have h0 : AMx Tryd.prog (fun e s' => e = .normal ∧ s' = AS.lst 34 [(0, vc (st s)), (2, vp 2 0), (3, vp 3 0)] [(2, .row ZR), (3, .row [.s (i6 0)])]) [.code (.region 0 (rg Tryd.f17 0) false)] .normal (AS.lst 34 (argRegs 0 [tc (st s)]) []) :=
    gR [] [] 34 [(0, vc (st s)), (2, vp 2 0), (3, vp 3 0)] [(2, .row ZR), (3, .row [.s (i6 0)])] trivial ⟨rfl, rfl⟩
  refine wp_seq (wp_mono (h0 _ _ _ _ hC) ?_)
  rintro e a1 w1 ⟨s1, Γ1, ⟨rfl, rfl⟩, hC1⟩
  refine wp_seq (wp_region ?_)
  rw [rg1, show List.range (#[mkf, dfr] : Array Oper).size = [0, 1] from rfl, wpOps_cons, wpO_eq (o := mkf) rfl]
  refine evOp_ok (s' := AS.set (AS.lst 34 [(0, vc (st s)), (2, vp 2 0), (3, vp 3 0)] [(2, .row ZR), (3, .row [.s (i6 0)])]) (some 5) (.t (.c (.fn 40 [.ptr 2 0, .ptr 3 0])))) (cs := []) (ce := none) (by kernel_rfl) trivial _ Γ1 a1 w1 _ _ hC1 fun Γ2 a2 w2 hC2 => ?_
  rw [wpOps_cons, wpO_eq (o := dfr) rfl]
  unfold wpO
  rw [if_pos (wanted_none rfl)]
  left
  unfold Oper.wp
  have h5 : ∃ cs : Array Value, a2.tmps.getD 5 undef = .func (.func 40) #[] cs ∧ MCaps Γ2 w2 [.ptr 2 0, .ptr 3 0] cs.toList := hC2.regs 5
  obtain ⟨cs, hcs, hcaps⟩ := h5
  obtain rfl : cs = #[.pointer (some ⟨Γ2.ρ 2, 0, none⟩), .pointer (some ⟨Γ2.ρ 3, 0, none⟩)] := by
    match cs, hcaps with
    | ⟨[u, v]⟩, hcaps =>
      obtain ⟨h1, h2, _⟩ := hcaps
      have h1 : u = .pointer (some ⟨Γ2.ρ 2, 0, none⟩) := h1
      have h2 : v = .pointer (some ⟨Γ2.ρ 3, 0, none⟩) := h2
      rw [h1, h2]
    | ⟨[]⟩, h => exact h.elim
    | ⟨[_]⟩, h => exact h.2.elim
    | ⟨_ :: _ :: _ :: _⟩, h => exact h.2.2.elim
  have hrun : (execOp a2.eval dfr).run Tryd.prog w2 = Result.ok (.defer { target := .fn (.func 40) #[.pointer (some ⟨Γ2.ρ 2, 0, none⟩), .pointer (some ⟨Γ2.ρ 3, 0, none⟩)], args := #[] }) w2 := by
    have he : a2.eval (.tmp 5) = .func (.func 40) #[] #[.pointer (some ⟨Γ2.ρ 2, 0, none⟩), .pointer (some ⟨Γ2.ρ 3, 0, none⟩)] := hcs
    unfold execOp
    simp [dfr, resolve, he, Deferred.ofValue]
  rw [hrun, Oper.upon_defer]
  have hd2 : a2.defers = [] := hC2.defers
  have hCB := conc_boxes (x := st s) (i := 2) (j := 3) (N := 34) [{ target := .fn (.func 40) #[.pointer (some ⟨Γ2.ρ 2, 0, none⟩), .pointer (some ⟨Γ2.ρ 3, 0, none⟩)], args := #[] }] hC2 rfl rfl rfl rfl rfl rfl rfl rfl (by decide)
  have key := h _ _ _ _ hCB
  rw [hd2]
  refine wp_mono key ?_
  rintro e a' w' ⟨s', Γ', hR, hC'⟩
  have hdf : a'.defers = [{ target := .fn (.func 40) #[.pointer (some ⟨Γ2.ρ 2, 0, none⟩), .pointer (some ⟨Γ2.ρ 3, 0, none⟩)], args := #[] }] := hC'.defers
  cases e with
  | ret =>
    obtain ⟨hok, hnn, ho2, ho3, hr2, hr3⟩ := hR
    have hp : a'.tmps.getD 2 undef = .pointer (some ⟨Γ'.ρ 34, 0, none⟩) := by have := hC'.regs 2; rw [hr2] at this; exact this
    have hq : a'.tmps.getD 3 undef = .pointer (some ⟨Γ'.ρ 35, 0, none⟩) := by have := hC'.regs 3; rw [hr3] at this; exact this
    show Leaves _ _ _ _ a'.defers .returning w'
    rw [hdf]
    refine leaves_cons (by simp) (run_clo _ _ w') ?_
    refine (clo_idle _ _ w').mono ?_
    rintro e u' w'' ⟨rfl, rfl, rfl⟩
    have hC4 := conc_two (n := s'.n) (p := 2) (q := 3) (a2 := { a' with defers := [] }) hC' ho2 ho3 hC'.size rfl hp hq
    rw [hy hok]
    have hend := pure_end (P := Tryd.prog) (fn := Tryd.f17) (Γ0 := Γ) (w0 := w) (res := .tup [.agg [.s c0, .s c1, .s c2, .s c3, .s c4, .s c5, .s c6, .s c7, .s c8, .s c9], tc (i6 0)]) rfl rfl rfl hC4 (by kernel_rfl) rfl
    exact hend
  | panic chain =>
    obtain ⟨hok, ⟨u, pv, rfl⟩, l', m', ⟨hnn, ho2, ho3, hr2, hr3⟩, hl, hm⟩ := hR
    have hp : a'.tmps.getD 2 undef = .pointer (some ⟨Γ'.ρ 34, 0, none⟩) := by have := hC'.regs 2; rw [hr2] at this; exact this
    have hq : a'.tmps.getD 3 undef = .pointer (some ⟨Γ'.ρ 35, 0, none⟩) := by have := hC'.regs 3; rw [hr3] at this; exact this
    have p2 : Γ'.ρ 34 = Γ2.ρ 2 := (hC'.ids 34 hnn).1.trans (rhoB_1 Γ2 2 3 34)
    have p3 : Γ'.ρ 35 = Γ2.ρ 3 := (hC'.ids 35 (by omega)).1.trans (rhoB_2 Γ2 2 3 34)
    show Leaves _ _ _ _ a'.defers (.panicking _) w'
    rw [hdf]
    refine leaves_cons (by simp) (run_clo _ _ w') ?_
    match l', hl, ho2, m', hm, ho3 with
    | [x0, x1, x2, x3, x4, x5, x6, x7, x8, x9], _, ho2, [y0], _, ho3 =>
      refine (clo_pan _ _ w' u pv rfl (fun a2 hsz hdf hp hq => conc_two hC' ho2 ho3 hsz hdf (by rw [hp, p2]) (by rw [hq, p3]))).mono ?_
      rintro e u' w'' ⟨rfl, rfl, a3, Γ3, hC3⟩
      have q2 : Γ3.ρ 34 = Γ'.ρ 34 := (hC3.ids 34 (by decide)).1
      have q3 : Γ3.ρ 35 = Γ'.ρ 35 := (hC3.ids 35 (by decide)).1
      have hC4 := conc_two (N := 34) (l := ZR) (m := [.s (i6 4)]) (n := s'.n) (p := 2) (q := 3) (a2 := { a' with defers := [] }) hC3 rfl rfl hC'.size rfl (by rw [q2]; exact hp) (by rw [q3]; exact hq)
      have hend := pure_end (P := Tryd.prog) (fn := Tryd.f17) (Γ0 := Γ) (w0 := w) (res := .tup [.agg ZR, tc (i6 4)]) rfl rfl rfl hC4 (by kernel_rfl) rfl
      obtain ⟨v, e1, v1, Γ5, q1, q2, q3⟩ := hend
      exact ⟨v, e1, v1, Γ5, q1, hn hok _ _ _ _ q2, q3⟩
  | _ => exact hR.elim
end AL.Reply
namespace AL.Secret
open Go Go.Proofs AL AL.Fnv
set_option linter.unusedVariables false
set_option linter.unusedSimpArgs false
theorem f35_body : Tryd.f35.body = some (.seq (.region 0 (rg Tryd.f35 0) false) (.seq (.region 1 (rg Tryd.f35 1) false) (.ret))) := by kernel_rfl
set_option maxRecDepth 100000 in
set_option maxHeartbeats 8000000 in
theorem RLoose_c  : Pure Tryd.prog 35 [] (AV.t (TV.agg [.s (i6 loose.1), .s (bo loose.2)])) := by
 refine Pure.of_body Tryd.func35 f35_body (by kernel_rfl) Tryd.ntmps35 (by kernel_rfl) (by kernel_rfl) ?_
 refine gS [] [] 2 [(0, vp 0 0)] [(0, AObj.row [.s (i6 0), .s (bo false)])] trivial ?_
 refine gS [] [] 2 [(0, vp 0 0)] [(0, AObj.row [.s (i6 6), .s (bo false)])] trivial ?_
 exact gT (AV.t (TV.agg [.s (i6 6), .s (bo false)])) rfl
end AL.Secret
namespace AL.Secret
open Go Go.Proofs AL AL.Fnv
set_option linter.unusedVariables false
set_option linter.unusedSimpArgs false
theorem f63_body : Tryd.f63.body = some (.seq (.region 0 (rg Tryd.f63 0) false) (.seq (.seq (.region 1 (rg Tryd.f63 1) false) (.cond (.tmp 10) (.seq (.region 2 (rg Tryd.f63 2) false) (.ret)) (.skip))) (.seq (.seq (.region 3 (rg Tryd.f63 3) false) (.block 0 (.loop (.seq (.region 4 (rg Tryd.f63 4) false) (.seq (.cond (.tmp 14) (.skip) (.exit 0)) (.seq (.block 1 (.seq (.region 5 (rg Tryd.f63 5) false) (.seq (.region 6 (rg Tryd.f63 6) true) (.cond (.tmp 24) (.seq (.region 7 (rg Tryd.f63 7) false) (.ret)) (.skip))))) (.region 8 (rg Tryd.f63 8) false))))))) (.seq (.region 9 (rg Tryd.f63 9) false) (.ret))))) := by kernel_rfl
set_option maxRecDepth 100000 in
set_option maxHeartbeats 8000000 in
theorem EqualR_c (a b : List RowV) : Pure Tryd.prog 63 [tc (slR a), tc (slR b)] (vc (bo (decide (a = b)))) := by
 refine Pure.of_body Tryd.func63 f63_body (by kernel_rfl) Tryd.ntmps63 (by kernel_rfl) (by kernel_rfl) ?_
 refine AMx.sl 0 (l := a) rfl (fun hl => ?_)
 simp only [maxLen] at hl
 refine gS [] [] 26 [(0, vc (slR a)), (1, vc (slR b))] [] trivial ?_
 refine gQ ?_
 refine gS [] [] 26 [(0, vc (slR a)), (1, vc (slR b)), (10, vc (bo (!decide ((List.length a : Int) = (List.length b : Int)))))] [] trivial ?_
 refine gN ((List.length a : Int) = (List.length b : Int)) (fun hc1 => ?_) fun hc1 => ?_
 ·
  refine gS [] [] 26 [(4, vc (bo false))] [] trivial ?_
  exact gT (vc (bo false)) (by rw [decide_eq_false (fun h => by subst h; simp_all)])
 ·
  refine AMx.skip ?_
  refine gQ ?_
  refine gS [] [] 26 [(0, vc (slR a)), (1, vc (slR b)), (12, vc (i6 (List.length a : Int))), (13, vc (i6 0))] [] trivial ?_
  refine AMx.block ?_
  refine AMx.ent (s' := AS.lst 26 [(0, vc (slR a)), (1, vc (slR b)), (12, vc (i6 (List.length a : Int))), (13, vc (i6 0))] []) (ent_proj [0, 1, 12, 13] []) ?_
  refine AMx.loop (fun mm ss => ∃ (i : Nat), (i ≤ a.length ∧ List.take i a = List.take i b) ∧ mm = a.length - i ∧ ss = AS.lst 26 [(0, vc (slR a)), (1, vc (slR b)), (12, vc (i6 (List.length a : Int))), (13, vc (i6 (i : Int)))] []) ⟨0, ?_, rfl, ?_⟩ ?_
  · exact ⟨by omega, rfl⟩
  · rfl
  rintro mm ss ⟨i, ⟨hI, hE⟩, rfl, rfl⟩
  refine gS [] [] 26 [(0, vc (slR a)), (1, vc (slR b)), (12, vc (i6 (List.length a : Int))), (13, vc (i6 (i : Int))), (14, vc (bo (decide ((i : Int) < (List.length a : Int)))))] [] trivial ?_
  refine gQ ?_
  refine gC ((i : Int) < (List.length a : Int)) (fun hc2 => ?_) fun hc2 => ?_
  ·
   refine AMx.skip ?_
   refine gQ ?_
   refine AMx.block ?_
   refine gS [] [] 26 [(0, vc (slR a)), (1, vc (slR b)), (5, vc (i6 (i : Int))), (12, vc (i6 (List.length a : Int))), (13, vc (i6 (i : Int)))] [] trivial ?_
   refine gY [] [] [(0 : Int) ≤ (i : Int), (i : Int) < List.length a, (0 : Int) ≤ (i : Int), (i : Int) < List.length b] 26 [(0, vc (slR a)), (1, vc (slR b)), (12, vc (i6 (List.length a : Int))), (13, vc (i6 (i : Int))), (24, vc (bo (!(decide ((List.getD a i (0, false, false)).1 = (List.getD b i (0, false, false)).1) && ((((List.getD a i (0, false, false)).2.1) == ((List.getD b i (0, false, false)).2.1)) && ((((List.getD a i (0, false, false)).2.2) == ((List.getD b i (0, false, false)).2.2)) && true))))))] [] mixed ⟨(show (0 : Int) ≤ (i : Int) from (by omega)), (show (i : Int) < List.length a from (by omega)), (show (0 : Int) ≤ (i : Int) from (by omega)), (show (i : Int) < List.length b from (by omega))⟩ ?_
   refine gB (!(decide ((List.getD a i (0, false, false)).1 = (List.getD b i (0, false, false)).1) && ((((List.getD a i (0, false, false)).2.1) == ((List.getD b i (0, false, false)).2.1)) && ((((List.getD a i (0, false, false)).2.2) == ((List.getD b i (0, false, false)).2.2)) && true)))) (fun hc3 => ?_) fun hc3 => ?_
   ·
    try simp only [xT, xF, xA, xB, xN, xM] at hc3
    refine gS [] [] 26 [(4, vc (bo false))] [] trivial ?_
    exact gT (vc (bo false)) (by rw [decide_eq_false (fun h => by subst h; simp_all)])
   ·
    try simp only [xT, xF, xA, xB, xN, xM] at hc3
    refine AMx.skip ?_
    refine AMx.blk ?_
    refine gR [] [InR .i64 ((i : Int) + 1)] 26 [(0, vc (slR a)), (1, vc (slR b)), (12, vc (i6 (List.length a : Int))), (13, vc (i6 ((i : Int) + 1)))] [] (show InR .i64 ((i : Int) + 1) from (inR64 (by omega) (by omega))) ?_
    refine AMx.ent_inv (s' := AS.lst 26 [(0, vc (slR a)), (1, vc (slR b)), (12, vc (i6 (List.length a : Int))), (13, vc (i6 ((i : Int) + 1)))] []) (ent_proj [0, 1, 12, 13] []) ?_
    refine AMx.inv ⟨_, ?_, i + 1, ?_, rfl, ?_⟩
    rotate_left
    · exact ⟨by omega, Lib.same_step (0, false, false) a b i (by omega) (by omega) hE (by grind)⟩
    · rfl
    · omega
  ·
   refine AMx.exit ?_
   refine AMx.code_exit ?_
   refine AMx.inv_exit ?_
   refine AMx.blk_exit ?_
   refine gS [] [] 26 [(4, vc (bo true))] [] trivial ?_
   exact gT (vc (bo true)) (by rw [decide_eq_true (Lib.same_end a b i (by omega) (by omega) hE)])
theorem f38_body : Tryd.f38.body = some (.seq (.region 0 (rg Tryd.f38 0) false) (.seq (.region 1 (rg Tryd.f38 1) false) (.ret))) := by kernel_rfl
set_option maxRecDepth 100000 in
set_option maxHeartbeats 8000000 in
theorem Same_c (a b : Sec) : Pure Tryd.prog 38 [TV.agg [.s (i6 a.1), .s (bo a.2.1), .s (i6 a.2.2.1), .s (slR a.2.2.2)], TV.agg [.s (i6 b.1), .s (bo b.2.1), .s (i6 b.2.2.1), .s (slR b.2.2.2)]] (vc (bo (decide (a = b)))) := by
 refine Pure.of_body Tryd.func38 f38_body (by kernel_rfl) Tryd.ntmps38 (by kernel_rfl) (by kernel_rfl) ?_
 refine gS [] [] 31 [(2, vp 2 0), (3, vp 3 0)] [(2, AObj.row [.s (i6 a.1), .s (bo a.2.1), .s (i6 a.2.2.1), .s (slR a.2.2.2)]), (3, AObj.row [.s (i6 b.1), .s (bo b.2.1), .s (i6 b.2.2.1), .s (slR b.2.2.2)])] trivial ?_
 refine gS [(24, CE.call [] [] (vc (bo (decide (a.2.2.2 = b.2.2.2)))) [])] [((decide (a.1 = b.1)) = true) → allP [], ((decide (a.1 = b.1)) = true) → allP [(decide (a.1 = b.1)) = true], ((decide (a.1 = b.1)) = true) → allP [], ((decide (a.1 = b.1)) = true) → allP [(decide (a.1 = b.1)) = true], ((decide (a.1 = b.1)) = true) → allP [(decide (a.1 = b.1)) = true, (decide (a.1 = b.1)) = true], (decide (a.1 = b.1)) = true → allP [(decide (a.1 = b.1)) = true], (((decide (a.1 = b.1)) && (a.2.1 == b.2.1)) = true) → allP [], (((decide (a.1 = b.1)) && (a.2.1 == b.2.1)) = true) → allP [((decide (a.1 = b.1)) && (a.2.1 == b.2.1)) = true], (((decide (a.1 = b.1)) && (a.2.1 == b.2.1)) = true) → allP [], (((decide (a.1 = b.1)) && (a.2.1 == b.2.1)) = true) → allP [((decide (a.1 = b.1)) && (a.2.1 == b.2.1)) = true], (((decide (a.1 = b.1)) && (a.2.1 == b.2.1)) = true) → allP [((decide (a.1 = b.1)) && (a.2.1 == b.2.1)) = true, ((decide (a.1 = b.1)) && (a.2.1 == b.2.1)) = true], ((decide (a.1 = b.1)) && (a.2.1 == b.2.1)) = true → allP [((decide (a.1 = b.1)) && (a.2.1 == b.2.1)) = true], ((((decide (a.1 = b.1)) && (a.2.1 == b.2.1)) && (decide (a.2.2.1 = b.2.2.1))) = true) → allP [], ((((decide (a.1 = b.1)) && (a.2.1 == b.2.1)) && (decide (a.2.2.1 = b.2.2.1))) = true) → allP [(((decide (a.1 = b.1)) && (a.2.1 == b.2.1)) && (decide (a.2.2.1 = b.2.2.1))) = true], ((((decide (a.1 = b.1)) && (a.2.1 == b.2.1)) && (decide (a.2.2.1 = b.2.2.1))) = true) → allP [], ((((decide (a.1 = b.1)) && (a.2.1 == b.2.1)) && (decide (a.2.2.1 = b.2.2.1))) = true) → allP [(((decide (a.1 = b.1)) && (a.2.1 == b.2.1)) && (decide (a.2.2.1 = b.2.2.1))) = true], ((((decide (a.1 = b.1)) && (a.2.1 == b.2.1)) && (decide (a.2.2.1 = b.2.2.1))) = true) → allP [(((decide (a.1 = b.1)) && (a.2.1 == b.2.1)) && (decide (a.2.2.1 = b.2.2.1))) = true, (((decide (a.1 = b.1)) && (a.2.1 == b.2.1)) && (decide (a.2.2.1 = b.2.2.1))) = true, Spec Tryd.prog 63 [tc (slR a.2.2.2), tc (slR b.2.2.2)] (ofH []) (vc (bo (decide (a.2.2.2 = b.2.2.2)))) (ofH [])], (((decide (a.1 = b.1)) && (a.2.1 == b.2.1)) && (decide (a.2.2.1 = b.2.2.1))) = true → allP [(((decide (a.1 = b.1)) && (a.2.1 == b.2.1)) && (decide (a.2.2.1 = b.2.2.1))) = true]] 31 [(4, vc (bo ((((decide (a.1 = b.1)) && (a.2.1 == b.2.1)) && (decide (a.2.2.1 = b.2.2.1))) && (decide (a.2.2.2 = b.2.2.2)))))] [] ⟨(fun _ => trivial), (fun hp => hp), (fun _ => trivial), (fun hp => hp), (fun hp => ⟨hp, hp⟩), (fun hp2 => (by first | exact hp2 | exact ⟨hp, hp2⟩)), (fun _ => trivial), (fun hp => hp), (fun _ => trivial), (fun hp => hp), (fun hp => ⟨hp, hp⟩), (fun hp2 => (by first | exact hp2 | exact ⟨hp, hp2⟩)), (fun _ => trivial), (fun hp => hp), (fun _ => trivial), (fun hp => hp), (fun hp => by have hq := hp; (try simp only [decide_eq_true_eq, decide_eq_false_iff_not, Bool.and_eq_true, Bool.or_eq_true, Bool.and_eq_false_iff, Bool.or_eq_false_iff, Bool.not_eq_true', Bool.not_eq_false', Bool.not_eq_true, Bool.not_eq_false] at hq); exact ⟨hp, hp, (EqualR_c a.2.2.2 b.2.2.2)⟩), (fun hp2 => (by first | exact hp2 | exact ⟨hp, hp2⟩))⟩ ?_
 exact gT (vc (bo ((((decide (a.1 = b.1)) && (a.2.1 == b.2.1)) && (decide (a.2.2.1 = b.2.2.1))) && (decide (a.2.2.2 = b.2.2.2))))) (by rw [show decide (a = b) = ((((decide (a.1 = b.1)) && (a.2.1 == b.2.1)) && (decide (a.2.2.1 = b.2.2.1))) && (decide (a.2.2.2 = b.2.2.2))) from same_eq a b])
theorem f36_body : Tryd.f36.body = some (.seq (.region 0 (rg Tryd.f36 0) false) (.seq (.seq (.region 1 (rg Tryd.f36 1) false) (.cond (.tmp 33) (.seq (.region 2 (rg Tryd.f36 2) false) (.ret)) (.skip))) (.seq (.seq (.region 3 (rg Tryd.f36 3) false) (.block 0 (.loop (.seq (.seq (.region 4 (rg Tryd.f36 4) false) (.cond (.tmp 38) (.skip) (.exit 0))) (.seq (.block 1 (.seq (.region 6 (rg Tryd.f36 6) true) (.cond (.tmp 51) (.seq (.region 7 (rg Tryd.f36 7) false) (.ret)) (.skip)))) (.region 5 (rg Tryd.f36 5) false)))))) (.seq (.region 8 (rg Tryd.f36 8) false) (.ret))))) := by kernel_rfl
set_option maxRecDepth 100000 in
set_option maxHeartbeats 8000000 in
theorem RSame_c (a b : Sec) : Pure Tryd.prog 36 [TV.agg [.s (i6 a.1), .s (bo a.2.1), .s (i6 a.2.2.1), .s (slR a.2.2.2)], TV.agg [.s (i6 b.1), .s (bo b.2.1), .s (i6 b.2.2.1), .s (slR b.2.2.2)]] (vc (bo (decide (a = b)))) := by
 refine Pure.of_body Tryd.func36 f36_body (by kernel_rfl) Tryd.ntmps36 (by kernel_rfl) (by kernel_rfl) ?_
 refine AMx.celln 0 3 rfl rfl (fun hl => ?_)
 simp only [maxLen] at hl
 refine gS [] [] 52 [(2, vp 2 0), (3, vp 3 0)] [(2, AObj.row [.s (i6 a.1), .s (bo a.2.1), .s (i6 a.2.2.1), .s (slR a.2.2.2)]), (3, AObj.row [.s (i6 b.1), .s (bo b.2.1), .s (i6 b.2.2.1), .s (slR b.2.2.2)])] trivial ?_
 refine gQ ?_
 refine gS [] [((!decide (a.1 = b.1)) = false) → allP [], ((!decide (a.1 = b.1)) = false) → allP [(!decide (a.1 = b.1)) = false], ((!decide (a.1 = b.1)) = false) → allP [], ((!decide (a.1 = b.1)) = false) → allP [(!decide (a.1 = b.1)) = false], ((!decide (a.1 = b.1)) = false) → allP [(!decide (a.1 = b.1)) = false, (!decide (a.1 = b.1)) = false], (!decide (a.1 = b.1)) = false → allP [(!decide (a.1 = b.1)) = false], (((!decide (a.1 = b.1)) || (!(a.2.1 == b.2.1))) = false) → allP [], (((!decide (a.1 = b.1)) || (!(a.2.1 == b.2.1))) = false) → allP [((!decide (a.1 = b.1)) || (!(a.2.1 == b.2.1))) = false], (((!decide (a.1 = b.1)) || (!(a.2.1 == b.2.1))) = false) → allP [], (((!decide (a.1 = b.1)) || (!(a.2.1 == b.2.1))) = false) → allP [((!decide (a.1 = b.1)) || (!(a.2.1 == b.2.1))) = false], (((!decide (a.1 = b.1)) || (!(a.2.1 == b.2.1))) = false) → allP [((!decide (a.1 = b.1)) || (!(a.2.1 == b.2.1))) = false, ((!decide (a.1 = b.1)) || (!(a.2.1 == b.2.1))) = false], ((!decide (a.1 = b.1)) || (!(a.2.1 == b.2.1))) = false → allP [((!decide (a.1 = b.1)) || (!(a.2.1 == b.2.1))) = false], ((((!decide (a.1 = b.1)) || (!(a.2.1 == b.2.1))) || (!decide (a.2.2.1 = b.2.2.1))) = false) → allP [], ((((!decide (a.1 = b.1)) || (!(a.2.1 == b.2.1))) || (!decide (a.2.2.1 = b.2.2.1))) = false) → allP [(((!decide (a.1 = b.1)) || (!(a.2.1 == b.2.1))) || (!decide (a.2.2.1 = b.2.2.1))) = false], ((((!decide (a.1 = b.1)) || (!(a.2.1 == b.2.1))) || (!decide (a.2.2.1 = b.2.2.1))) = false) → allP [(((!decide (a.1 = b.1)) || (!(a.2.1 == b.2.1))) || (!decide (a.2.2.1 = b.2.2.1))) = false], ((((!decide (a.1 = b.1)) || (!(a.2.1 == b.2.1))) || (!decide (a.2.2.1 = b.2.2.1))) = false) → allP [], ((((!decide (a.1 = b.1)) || (!(a.2.1 == b.2.1))) || (!decide (a.2.2.1 = b.2.2.1))) = false) → allP [(((!decide (a.1 = b.1)) || (!(a.2.1 == b.2.1))) || (!decide (a.2.2.1 = b.2.2.1))) = false], ((((!decide (a.1 = b.1)) || (!(a.2.1 == b.2.1))) || (!decide (a.2.2.1 = b.2.2.1))) = false) → allP [(((!decide (a.1 = b.1)) || (!(a.2.1 == b.2.1))) || (!decide (a.2.2.1 = b.2.2.1))) = false], ((((!decide (a.1 = b.1)) || (!(a.2.1 == b.2.1))) || (!decide (a.2.2.1 = b.2.2.1))) = false) → allP [(((!decide (a.1 = b.1)) || (!(a.2.1 == b.2.1))) || (!decide (a.2.2.1 = b.2.2.1))) = false, (((!decide (a.1 = b.1)) || (!(a.2.1 == b.2.1))) || (!decide (a.2.2.1 = b.2.2.1))) = false], (((!decide (a.1 = b.1)) || (!(a.2.1 == b.2.1))) || (!decide (a.2.2.1 = b.2.2.1))) = false → allP [(((!decide (a.1 = b.1)) || (!(a.2.1 == b.2.1))) || (!decide (a.2.2.1 = b.2.2.1))) = false]] 52 [(2, vp 2 0), (3, vp 3 0), (33, vc (bo ((((!decide (a.1 = b.1)) || (!(a.2.1 == b.2.1))) || (!decide (a.2.2.1 = b.2.2.1))) || (!decide ((List.length a.2.2.2 : Int) = (List.length b.2.2.2 : Int))))))] [(2, AObj.row [.s (i6 a.1), .s (bo a.2.1), .s (i6 a.2.2.1), .s (slR a.2.2.2)]), (3, AObj.row [.s (i6 b.1), .s (bo b.2.1), .s (i6 b.2.2.1), .s (slR b.2.2.2)])] ⟨(fun _ => trivial), (fun hp => hp), (fun _ => trivial), (fun hp => hp), (fun hp => ⟨hp, hp⟩), (fun hp2 => (by first | exact hp2 | exact ⟨hp, hp2⟩)), (fun _ => trivial), (fun hp => hp), (fun _ => trivial), (fun hp => hp), (fun hp => ⟨hp, hp⟩), (fun hp2 => (by first | exact hp2 | exact ⟨hp, hp2⟩)), (fun _ => trivial), (fun hp => hp), (fun hp => hp), (fun _ => trivial), (fun hp => hp), (fun hp => hp), (fun hp => ⟨hp, hp⟩), (fun hp2 => (by first | exact hp2 | exact ⟨hp, hp2⟩))⟩ ?_
 refine gB (((((!decide (a.1 = b.1)) || (!(a.2.1 == b.2.1))) || (!decide (a.2.2.1 = b.2.2.1))) || (!decide ((List.length a.2.2.2 : Int) = (List.length b.2.2.2 : Int))))) (fun hc1 => ?_) fun hc1 => ?_
 ·
  try simp only [xT, xF, xO, xP, xN, xM] at hc1
  refine gS [] [] 52 [(4, vc (bo false))] [] trivial ?_
  exact gT (vc (bo false)) (by rw [show decide (a = b) = false from decide_eq_false (fun h => by subst h; simp at hc1)])
 ·
  try simp only [xT, xF, xO, xP, xN, xM] at hc1
  refine AMx.skip ?_
  refine gQ ?_
  refine gS [] [] 52 [(2, vp 2 0), (3, vp 3 0), (5, vc (i6 0))] [(2, AObj.row [.s (i6 a.1), .s (bo a.2.1), .s (i6 a.2.2.1), .s (slR a.2.2.2)]), (3, AObj.row [.s (i6 b.1), .s (bo b.2.1), .s (i6 b.2.2.1), .s (slR b.2.2.2)])] trivial ?_
  refine AMx.block ?_
  refine AMx.ent (s' := AS.lst 52 [(2, vp 2 0), (3, vp 3 0), (5, vc (i6 0))] [(2, AObj.row [.s (i6 a.1), .s (bo a.2.1), .s (i6 a.2.2.1), .s (slR a.2.2.2)]), (3, AObj.row [.s (i6 b.1), .s (bo b.2.1), .s (i6 b.2.2.1), .s (slR b.2.2.2)])]) (ent_proj [2, 3, 5] [2, 3]) ?_
  refine AMx.loop (fun mm ss => ∃ (i : Nat), (i ≤ a.2.2.2.length ∧ List.take i a.2.2.2 = List.take i b.2.2.2) ∧ mm = a.2.2.2.length - i ∧ ss = AS.lst 52 [(2, vp 2 0), (3, vp 3 0), (5, vc (i6 (i : Int)))] [(2, AObj.row [.s (i6 a.1), .s (bo a.2.1), .s (i6 a.2.2.1), .s (slR a.2.2.2)]), (3, AObj.row [.s (i6 b.1), .s (bo b.2.1), .s (i6 b.2.2.1), .s (slR b.2.2.2)])]) ⟨0, ?_, rfl, ?_⟩ ?_
  · exact ⟨by omega, rfl⟩
  · rfl
  rintro mm ss ⟨i, ⟨hI, hE⟩, rfl, rfl⟩
  refine gQ ?_
  refine gS [] [] 52 [(2, vp 2 0), (3, vp 3 0), (5, vc (i6 (i : Int))), (38, vc (bo (decide ((i : Int) < (List.length a.2.2.2 : Int)))))] [(2, AObj.row [.s (i6 a.1), .s (bo a.2.1), .s (i6 a.2.2.1), .s (slR a.2.2.2)]), (3, AObj.row [.s (i6 b.1), .s (bo b.2.1), .s (i6 b.2.2.1), .s (slR b.2.2.2)])] trivial ?_
  refine gC ((i : Int) < (List.length a.2.2.2 : Int)) (fun hc2 => ?_) fun hc2 => ?_
  ·
   refine AMx.skip ?_
   refine gQ ?_
   refine AMx.block ?_
   refine gY [] [(1, [2]), (6, [3])] [(0 : Int) ≤ (i : Int), (i : Int) < List.length a.2.2.2, (0 : Int) ≤ (i : Int), (i : Int) < List.length b.2.2.2] 52 [(2, vp 2 0), (3, vp 3 0), (5, vc (i6 (i : Int))), (51, vc (bo (!(decide ((List.getD a.2.2.2 i (0, false, false)).1 = (List.getD b.2.2.2 i (0, false, false)).1) && ((((List.getD a.2.2.2 i (0, false, false)).2.1) == ((List.getD b.2.2.2 i (0, false, false)).2.1)) && ((((List.getD a.2.2.2 i (0, false, false)).2.2) == ((List.getD b.2.2.2 i (0, false, false)).2.2)) && true))))))] [(2, AObj.row [.s (i6 a.1), .s (bo a.2.1), .s (i6 a.2.2.1), .s (slR a.2.2.2)]), (3, AObj.row [.s (i6 b.1), .s (bo b.2.1), .s (i6 b.2.2.1), .s (slR b.2.2.2)])] mixed ⟨(show (0 : Int) ≤ (i : Int) from (by omega)), (show (i : Int) < List.length a.2.2.2 from (by omega)), (show (0 : Int) ≤ (i : Int) from (by omega)), (show (i : Int) < List.length b.2.2.2 from (by omega))⟩ ?_
   refine gB (!(decide ((List.getD a.2.2.2 i (0, false, false)).1 = (List.getD b.2.2.2 i (0, false, false)).1) && ((((List.getD a.2.2.2 i (0, false, false)).2.1) == ((List.getD b.2.2.2 i (0, false, false)).2.1)) && ((((List.getD a.2.2.2 i (0, false, false)).2.2) == ((List.getD b.2.2.2 i (0, false, false)).2.2)) && true)))) (fun hc3 => ?_) fun hc3 => ?_
   ·
    try simp only [xT, xF, xA, xB, xN, xM] at hc3
    refine gS [] [] 52 [(4, vc (bo false))] [] trivial ?_
    exact gT (vc (bo false)) (by rw [show decide (a = b) = false from decide_eq_false (fun h => by subst h; simp at hc3)])
   ·
    try simp only [xT, xF, xA, xB, xN, xM] at hc3
    refine AMx.skip ?_
    refine AMx.blk ?_
    refine gR [] [InR .i64 ((i : Int) + 1)] 52 [(2, vp 2 0), (3, vp 3 0), (5, vc (i6 ((i : Int) + 1)))] [(2, AObj.row [.s (i6 a.1), .s (bo a.2.1), .s (i6 a.2.2.1), .s (slR a.2.2.2)]), (3, AObj.row [.s (i6 b.1), .s (bo b.2.1), .s (i6 b.2.2.1), .s (slR b.2.2.2)])] (show InR .i64 ((i : Int) + 1) from (inR64 (by omega) (by omega))) ?_
    refine AMx.ent_inv (s' := AS.lst 52 [(2, vp 2 0), (3, vp 3 0), (5, vc (i6 ((i : Int) + 1)))] [(2, AObj.row [.s (i6 a.1), .s (bo a.2.1), .s (i6 a.2.2.1), .s (slR a.2.2.2)]), (3, AObj.row [.s (i6 b.1), .s (bo b.2.1), .s (i6 b.2.2.1), .s (slR b.2.2.2)])]) (ent_proj [2, 3, 5] [2, 3]) ?_
    refine AMx.inv ⟨_, ?_, i + 1, ?_, rfl, ?_⟩
    rotate_left
    · exact ⟨by omega, Lib.same_step (0, false, false) _ _ i (by omega) (by omega) hE (by grind)⟩
    · rfl
    · omega
  ·
   refine AMx.exit ?_
   refine AMx.code_exit ?_
   refine AMx.inv_exit ?_
   refine AMx.blk_exit ?_
   refine gS [] [] 52 [(4, vc (bo true))] [] trivial ?_
   exact gT (vc (bo true)) (by rw [show decide (a = b) = true from decide_eq_true (by have q := Lib.same_end _ _ i (by omega) (by omega) hE; exact Prod.ext (by grind) (Prod.ext (by grind) (Prod.ext (by grind) q)))])
theorem f47_body : Tryd.f47.body = some (.seq (.region 0 (rg Tryd.f47 0) false) (.seq (.region 1 (rg Tryd.f47 1) false) (.seq (.seq (.region 2 (rg Tryd.f47 2) false) (.block 0 (.loop (.seq (.seq (.region 3 (rg Tryd.f47 3) false) (.cond (.tmp 16) (.skip) (.exit 0))) (.seq (.block 1 (.region 5 (rg Tryd.f47 5) true)) (.region 4 (rg Tryd.f47 4) false)))))) (.seq (.region 6 (rg Tryd.f47 6) false) (.ret))))) := by kernel_rfl
set_option maxRecDepth 100000 in
set_option maxHeartbeats 8000000 in
theorem Back_c (s : Sec) (hb : s.2.2.2.length ≤ 1000) : Pure Tryd.prog 47 [TV.agg [.s (i6 s.1), .s (bo s.2.1), .s (i6 s.2.2.1), .s (slR s.2.2.2)]] (AV.t (TV.agg [.s (i6 s.1), .s (bo s.2.1), .s (i6 s.2.2.1), .s (slR s.2.2.2)])) := by
 refine Pure.of_body Tryd.func47 f47_body (by kernel_rfl) Tryd.ntmps47 (by kernel_rfl) (by kernel_rfl) ?_
 refine gS [] [] 30 [(1, vp 1 0), (2, vp 2 0)] [(1, AObj.row [.s (i6 s.1), .s (bo s.2.1), .s (i6 s.2.2.1), .s (slR s.2.2.2)]), (2, AObj.row [.s (i6 0), .s (bo false), .s (i6 0), .s (SC.nilsl)])] trivial ?_
 refine gS [] [] 30 [(1, vp 1 0), (2, vp 2 0), (3, vp 3 0)] [(1, AObj.row [.s (i6 s.1), .s (bo s.2.1), .s (i6 s.2.2.1), .s (slR s.2.2.2)]), (2, AObj.row [.s (i6 0), .s (bo false), .s (i6 0), .s (SC.nilsl)]), (3, AObj.row [.s (i6 s.1), .s (bo s.2.1), .s (i6 s.2.2.1), .s (SC.nilsl)])] trivial ?_
 refine gQ ?_
 refine gS [] [] 30 [(1, vp 1 0), (2, vp 2 0), (3, vp 3 0), (4, vc (i6 0))] [(1, AObj.row [.s (i6 s.1), .s (bo s.2.1), .s (i6 s.2.2.1), .s (slR s.2.2.2)]), (2, AObj.row [.s (i6 0), .s (bo false), .s (i6 0), .s (SC.nilsl)]), (3, AObj.row [.s (i6 s.1), .s (bo s.2.1), .s (i6 s.2.2.1), .s (SC.nilsl)])] trivial ?_
 refine AMx.block ?_
 refine AMx.ent (ent_adoptO 3 19 [.s (i6 s.1), .s (bo s.2.1), .s (i6 s.2.2.1)] [] 93 3 RowV (0, false, false) rowR (by kernel_rfl) (by kernel_rfl) (by kernel_rfl) (by kernel_rfl)) ?_
 refine AMx.ent (s' := AS.lst 30 [(1, vp 1 0), (2, vp 2 0), (3, vp 3 0), (4, vc (i6 0))] [(1, AObj.row [.s (i6 s.1), .s (bo s.2.1), .s (i6 s.2.2.1), .s (slR s.2.2.2)]), (2, AObj.row [.s (i6 0), .s (bo false), .s (i6 0), .s (SC.nilsl)]), (3, AObj.row [.s (i6 s.1), .s (bo s.2.1), .s (i6 s.2.2.1), .own 19]), (19, AObj.grow 93 3 RowV (0, false, false) rowR [])]) (ent_proj [1, 2, 3, 4] [1, 2, 3, 19]) ?_
 refine AMx.ent (s' := AS.lst 30 [(1, vp 1 0), (2, vp 2 0), (3, vp 3 0), (4, vc (i6 0))] [(1, AObj.row [.s (i6 s.1), .s (bo s.2.1), .s (i6 s.2.2.1), .s (slR s.2.2.2)]), (2, AObj.row [.s (i6 0), .s (bo false), .s (i6 0), .s (SC.nilsl)]), (3, AObj.row [.s (i6 s.1), .s (bo s.2.1), .s (i6 s.2.2.1), .own 19]), (19, AObj.grow 93 3 RowV (0, false, false) rowR [])]) (ent_proj [1, 2, 3, 4] [1, 2, 3, 19]) ?_
 refine AMx.loop (fun mm ss => ∃ (i : Nat), (i ≤ s.2.2.2.length) ∧ mm = s.2.2.2.length - i ∧ ss = AS.lst 30 [(1, vp 1 0), (2, vp 2 0), (3, vp 3 0), (4, vc (i6 (i : Int)))] [(1, AObj.row [.s (i6 s.1), .s (bo s.2.1), .s (i6 s.2.2.1), .s (slR s.2.2.2)]), (2, AObj.row [.s (i6 0), .s (bo false), .s (i6 0), .s (SC.nilsl)]), (3, AObj.row [.s (i6 s.1), .s (bo s.2.1), .s (i6 s.2.2.1), .own 19]), (19, AObj.grow 93 3 RowV (0, false, false) rowR (List.take i s.2.2.2))]) ⟨0, ?_, rfl, ?_⟩ ?_
 · omega
 · rfl
 rintro mm ss ⟨i, hI, rfl, rfl⟩
 refine gQ ?_
 refine gS [] [] 30 [(1, vp 1 0), (2, vp 2 0), (3, vp 3 0), (4, vc (i6 (i : Int))), (16, vc (bo (decide ((i : Int) < (List.length s.2.2.2 : Int)))))] [(1, AObj.row [.s (i6 s.1), .s (bo s.2.1), .s (i6 s.2.2.1), .s (slR s.2.2.2)]), (2, AObj.row [.s (i6 0), .s (bo false), .s (i6 0), .s (SC.nilsl)]), (3, AObj.row [.s (i6 s.1), .s (bo s.2.1), .s (i6 s.2.2.1), .own 19]), (19, AObj.grow 93 3 RowV (0, false, false) rowR (List.take i s.2.2.2))] trivial ?_
 refine gC ((i : Int) < (List.length s.2.2.2 : Int)) (fun hc1 => ?_) fun hc1 => ?_
 ·
  refine AMx.skip ?_
  refine gQ ?_
  refine AMx.block ?_
  refine gX [(7, CE.obj (AObj.grow 93 3 RowV (0, false, false) rowR [(List.getD s.2.2.2 i (0, false, false))])), (8, CE.obj (AObj.grow 93 3 RowV (0, false, false) rowR ((List.take i s.2.2.2) ++ [(List.getD s.2.2.2 i (0, false, false))])))] [(1, [3]), (3, [1]), (8, [19, 26]), (10, [3])] [(0 : Int) ≤ (i : Int), (i : Int) < List.length s.2.2.2, flat 3 rowR [(List.getD s.2.2.2 i (0, false, false))] = [.s (i6 ((List.getD s.2.2.2 i (0, false, false)).1)), .s (bo ((List.getD s.2.2.2 i (0, false, false)).2.1)), .s (bo ((List.getD s.2.2.2 i (0, false, false)).2.2))], List.length ([(List.getD s.2.2.2 i (0, false, false))] : List RowV) = 1, AppC (flat 3 rowR [(List.getD s.2.2.2 i (0, false, false))]) (List.length ([(List.getD s.2.2.2 i (0, false, false))] : List RowV)) 16 (AObj.grow 93 3 RowV (0, false, false) rowR (List.take i s.2.2.2)) (AObj.grow 93 3 RowV (0, false, false) rowR ((List.take i s.2.2.2) ++ [(List.getD s.2.2.2 i (0, false, false))]))] 30 [(1, vp 1 0), (2, vp 2 0), (3, vp 3 0), (4, vc (i6 (i : Int)))] [(1, AObj.row [.s (i6 s.1), .s (bo s.2.1), .s (i6 s.2.2.1), .s (slR s.2.2.2)]), (2, AObj.row [.s (i6 0), .s (bo false), .s (i6 0), .s (SC.nilsl)]), (3, AObj.row [.s (i6 s.1), .s (bo s.2.1), .s (i6 s.2.2.1), .own 27]), (27, AObj.grow 93 3 RowV (0, false, false) rowR ((List.take i s.2.2.2) ++ [(List.getD s.2.2.2 i (0, false, false))]))] mixed ⟨(show (0 : Int) ≤ (i : Int) from (by omega)), (show (i : Int) < List.length s.2.2.2 from (by omega)), rfl, rfl, (⟨_, rfl, rfl, rfl, by simp only [List.length_take, List.length_cons, List.length_nil]; omega, by simp only [maxLen, List.length_take, List.length_cons, List.length_nil]; omega⟩)⟩ ?_
  refine AMx.blk ?_
  refine gR [] [InR .i64 ((i : Int) + 1)] 30 [(1, vp 1 0), (2, vp 2 0), (3, vp 3 0), (4, vc (i6 ((i : Int) + 1)))] [(1, AObj.row [.s (i6 s.1), .s (bo s.2.1), .s (i6 s.2.2.1), .s (slR s.2.2.2)]), (2, AObj.row [.s (i6 0), .s (bo false), .s (i6 0), .s (SC.nilsl)]), (3, AObj.row [.s (i6 s.1), .s (bo s.2.1), .s (i6 s.2.2.1), .own 27]), (27, AObj.grow 93 3 RowV (0, false, false) rowR ((List.take i s.2.2.2) ++ [(List.getD s.2.2.2 i (0, false, false))]))] (show InR .i64 ((i : Int) + 1) from (inR64 (by omega) (by omega))) ?_
  refine AMx.ent_inv (s' := AS.lst 30 [(1, vp 1 0), (2, vp 2 0), (3, vp 3 0), (4, vc (i6 ((i : Int) + 1)))] [(1, AObj.row [.s (i6 s.1), .s (bo s.2.1), .s (i6 s.2.2.1), .s (slR s.2.2.2)]), (2, AObj.row [.s (i6 0), .s (bo false), .s (i6 0), .s (SC.nilsl)]), (3, AObj.row [.s (i6 s.1), .s (bo s.2.1), .s (i6 s.2.2.1), .own 19]), (19, AObj.grow 93 3 RowV (0, false, false) rowR ((List.take i s.2.2.2) ++ [(List.getD s.2.2.2 i (0, false, false))]))]) (ent_swap 27 19 (by kernel_rfl) (by kernel_rfl)) ?_
  refine AMx.ent_inv (s' := AS.lst 30 [(1, vp 1 0), (2, vp 2 0), (3, vp 3 0), (4, vc (i6 ((i : Int) + 1)))] [(1, AObj.row [.s (i6 s.1), .s (bo s.2.1), .s (i6 s.2.2.1), .s (slR s.2.2.2)]), (2, AObj.row [.s (i6 0), .s (bo false), .s (i6 0), .s (SC.nilsl)]), (3, AObj.row [.s (i6 s.1), .s (bo s.2.1), .s (i6 s.2.2.1), .own 19]), (19, AObj.grow 93 3 RowV (0, false, false) rowR ((List.take i s.2.2.2) ++ [(List.getD s.2.2.2 i (0, false, false))]))]) (ent_proj [1, 2, 3, 4] [1, 2, 3, 19]) ?_
  refine AMx.inv ⟨_, ?_, i + 1, ?_, rfl, ?_⟩
  rotate_left
  · omega
  · rw [Lib.take_succ (0, false, false) s.2.2.2 i (by omega)]; rfl
  · omega
 ·
  refine AMx.exit ?_
  refine AMx.code_exit ?_
  refine AMx.inv_exit ?_
  refine AMx.blk_exit ?_
  refine gS [] [] 30 [(2, vp 2 0)] [(2, AObj.row [.s (i6 s.1), .s (bo s.2.1), .s (i6 s.2.2.1), .own 19]), (19, AObj.grow 93 3 RowV (0, false, false) rowR (List.take i s.2.2.2))] trivial ?_
  refine AMx.ent (s' := AS.lst 30 [(2, vp 2 0)] [(2, AObj.row [.s (i6 s.1), .s (bo s.2.1), .s (i6 s.2.2.1), .s (slR (List.take i s.2.2.2))])]) (ent_freeze (id := 19) (T := 93) (by kernel_rfl)) ?_
  exact gT (AV.t (TV.agg [.s (i6 s.1), .s (bo s.2.1), .s (i6 s.2.2.1), .s (slR (List.take i s.2.2.2))])) (by rw [List.take_of_length_le (by omega)])
end AL.Secret
