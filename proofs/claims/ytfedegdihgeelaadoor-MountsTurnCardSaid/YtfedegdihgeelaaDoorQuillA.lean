/- quill: the contracts of its functions, by their walks. No condition. -/
import Derived.Test.YtfedegdihgeelaaDoorQuillD
import Derived.Test.YtfedegdihgeelaaDoorAL35
namespace AL.Quill
open Go Go.Proofs AL
set_option linter.unusedVariables false
set_option linter.unusedSimpArgs false

theorem f51_body : Tryd.f51.body = some (.seq (.region 0 (rg Tryd.f51 0) false) (.seq (.region 1 (rg Tryd.f51 1) false) (.seq (.region 2 (rg Tryd.f51 2) false) (.seq (.region 3 (rg Tryd.f51 3) false) (.ret))))) := by kernel_rfl

set_option maxRecDepth 100000 in
set_option maxHeartbeats 8000000 in
theorem grown_c (b : Bytes) (m : Int) (h0 : 0 ≤ m) (hm : m ≤ 1000000) (hb : b.length ≤ 1000000) : ∀ d, Spec Tryd.prog 51 [tc (SC.sl 1 UInt8 0 rowU8 b), tc (i6 m)] H0 (vo d) (ofH [(d, AObj.grow 5 1 UInt8 0 rowU8 b)]) := by
 refine Own.of_body Tryd.func51 f51_body (by kernel_rfl) Tryd.ntmps51 (by kernel_rfl) rfl ?_
 refine gS [] [] 17 [(0, vc (SC.sl 1 UInt8 0 rowU8 b)), (1, vc (i6 m))] [] trivial ?_
 refine gS [(6, CE.obj (AObj.grow 5 1 UInt8 0 rowU8 (List.replicate (List.length b) 0)))] [InR .i64 ((List.length b : Int) + m), 0 ≤ (List.length b : Int), (List.length b : Int) ≤ (List.length b : Int) + m, (1 : Int) * ((List.length b : Int) + m) ≤ 281474976710656, (List.length b : Int) + m ≤ 9223372036854775807, MakeC (List.length b) [.s (u8 0)] (AObj.grow 5 1 UInt8 0 rowU8 (List.replicate (List.length b) 0))] 17 [(0, vc (SC.sl 1 UInt8 0 rowU8 b)), (5, vo 12)] [(12, AObj.grow 5 1 UInt8 0 rowU8 (List.replicate (List.length b) 0))] ⟨(show InR .i64 ((List.length b : Int) + m) from (inR64 (by omega) (by omega))), (show 0 ≤ (List.length b : Int) from (by omega)), (show (List.length b : Int) ≤ (List.length b : Int) + m from (by omega)), (show (1 : Int) * ((List.length b : Int) + m) ≤ 281474976710656 from (by omega)), (show (List.length b : Int) + m ≤ 9223372036854775807 from (by omega)), (⟨_, rfl, rfl⟩)⟩ ?_
 refine gS [(2, CE.obj (AObj.grow 5 1 UInt8 0 rowU8 b))] [flat 1 rowU8 b = flat 1 rowU8 b, List.length b = List.length b, List.length (List.replicate (List.length b) 0 : List UInt8) = List.length b] 17 [(5, vo 12)] [(12, AObj.grow 5 1 UInt8 0 rowU8 b)] ⟨rfl, rfl, (show List.length (List.replicate (List.length b) 0 : List UInt8) = List.length b from by simp)⟩ ?_
 refine gS [] [] 17 [(4, vo 12)] [(12, AObj.grow 5 1 UInt8 0 rowU8 b)] trivial ?_
 refine AMx.ret ?_
 exact ⟨.inl rfl, 12, AObj.grow 5 1 UInt8 0 rowU8 b, by kernel_rfl, by kernel_rfl, rfl⟩

theorem f50_body : Tryd.f50.body = some (.seq (.region 0 (rg Tryd.f50 0) false) (.seq (.seq (.region 1 (rg Tryd.f50 1) false) (.block 0 (.loop (.seq (.seq (.region 2 (rg Tryd.f50 2) false) (.cond (.tmp 12) (.skip) (.exit 0))) (.seq (.block 1 (.region 4 (rg Tryd.f50 4) false)) (.region 3 (rg Tryd.f50 3) false)))))) (.seq (.region 5 (rg Tryd.f50 5) false) (.ret)))) := by kernel_rfl

set_option maxRecDepth 100000 in
set_option maxHeartbeats 8000000 in
theorem lay_c (b : Bytes) (m n : Int) (hm : m = n) (h0 : 0 ≤ n) (h1 : n < 65536) (hb : b.length ≤ 1000000) (d d2 : Nat) (hd : Nat.beq d d2 = false) : Spec Tryd.prog 50 [.c (.own d), tc (i6 2), tc (u6 m)] (ofH [(d, AObj.grow 5 1 UInt8 0 rowU8 b)]) (vo d2) (ofH [(d2, AObj.grow 5 1 UInt8 0 rowU8 (b ++ be2 n))]) := by
 refine OwnIO.of_body (D := 0) Tryd.func50 f50_body (by kernel_rfl) Tryd.ntmps50 (by kernel_rfl) (by kernel_rfl) rfl rfl ?_ d d2 hd
 subst hm
 refine gS [] [] 23 [(0, vo 0), (1, vc (i6 2)), (2, vc (u6 m))] [(0, AObj.grow 5 1 UInt8 0 rowU8 b)] trivial ?_
 refine gQ ?_
 refine gS [] [InR .i64 (2 - 1), InR .i64 (8 * (2 - 1))] 23 [(0, vo 0), (2, vc (u6 m)), (7, vc (i6 (8 * (2 - 1))))] [(0, AObj.grow 5 1 UInt8 0 rowU8 b)] ⟨(show InR .i64 (2 - 1) from (inR64 (by omega) (by omega))), (show InR .i64 (8 * (2 - 1)) from (inR64 (by omega) (by omega)))⟩ ?_
 refine AMx.block ?_
 refine AMx.ent (s' := AS.lst 23 [(0, vo 0), (2, vc (u6 m)), (7, vc (i6 (8 * (2 - 1))))] [(0, AObj.grow 5 1 UInt8 0 rowU8 b)]) (ent_proj [0, 2, 7] [0]) ?_
 refine AMx.loop (fun mm ss => ∃ (j : Nat), (j ≤ 2) ∧ mm = 2 - j ∧ ss = AS.lst 23 [(0, vo 0), (2, vc (u6 m)), (7, vc (i6 (8 - 8 * (j : Int))))] [(0, AObj.grow 5 1 UInt8 0 rowU8 (b ++ List.take j (be2 m)))]) ⟨0, ?_, rfl, ?_⟩ ?_
 · omega
 · rw [show List.take 0 (be2 m) = [] from rfl, List.append_nil]; rfl
 rintro mm ss ⟨j, hI, rfl, rfl⟩
 refine gQ ?_
 refine gS [] [] 23 [(0, vo 0), (2, vc (u6 m)), (7, vc (i6 (8 - 8 * (j : Int)))), (12, vc (bo (decide (0 ≤ 8 - 8 * (j : Int)))))] [(0, AObj.grow 5 1 UInt8 0 rowU8 (b ++ List.take j (be2 m)))] trivial ?_
 refine gC (0 ≤ 8 - 8 * (j : Int)) (fun hc1 => ?_) fun hc1 => ?_
 ·
  refine AMx.skip ?_
  refine gQ ?_
  refine AMx.block ?_
  refine gR [(5, CE.obj (AObj.grow 5 1 UInt8 0 rowU8 [List.getD (be2 m) j 0])), (6, CE.obj (AObj.grow 5 1 UInt8 0 rowU8 ((b ++ List.take j (be2 m)) ++ [List.getD (be2 m) j 0])))] [(0 : Int) ≤ 8 - 8 * (j : Int), flat 1 rowU8 [List.getD (be2 m) j 0] = [.s (u8 (IntKind.wrap .u8 (Int.fdiv m (2 ^ (min (8 - 8 * (j : Int) : Int).toNat (IntKind.bits .u64))))))], List.length ([List.getD (be2 m) j 0] : List UInt8) = 1, AppC (flat 1 rowU8 [List.getD (be2 m) j 0]) (List.length ([List.getD (be2 m) j 0] : List UInt8)) 1 (AObj.grow 5 1 UInt8 0 rowU8 (b ++ List.take j (be2 m))) (AObj.grow 5 1 UInt8 0 rowU8 ((b ++ List.take j (be2 m)) ++ [List.getD (be2 m) j 0]))] 23 [(0, vo 21), (2, vc (u6 m)), (7, vc (i6 (8 - 8 * (j : Int))))] [(21, AObj.grow 5 1 UInt8 0 rowU8 ((b ++ List.take j (be2 m)) ++ [List.getD (be2 m) j 0]))] ⟨(show (0 : Int) ≤ 8 - 8 * (j : Int) from (by omega)), (lay_at (by omega)), rfl, (⟨_, rfl, rfl, rfl, by simp only [List.length_append, List.length_cons, List.length_nil, List.length_take, be2_len]; omega, by simp only [maxLen, List.length_append, List.length_cons, List.length_nil, List.length_take, be2_len]; omega⟩)⟩ ?_
  refine AMx.blk ?_
  refine gR [] [InR .i64 ((8 - 8 * (j : Int)) - 8)] 23 [(0, vo 21), (2, vc (u6 m)), (7, vc (i6 ((8 - 8 * (j : Int)) - 8)))] [(21, AObj.grow 5 1 UInt8 0 rowU8 ((b ++ List.take j (be2 m)) ++ [List.getD (be2 m) j 0]))] (show InR .i64 ((8 - 8 * (j : Int)) - 8) from (inR64 (by omega) (by omega))) ?_
  refine AMx.ent_inv (s' := AS.lst 23 [(0, vo 0), (2, vc (u6 m)), (7, vc (i6 ((8 - 8 * (j : Int)) - 8)))] [(0, AObj.grow 5 1 UInt8 0 rowU8 ((b ++ List.take j (be2 m)) ++ [List.getD (be2 m) j 0]))]) (ent_swap 21 0 (by kernel_rfl) (by kernel_rfl)) ?_
  refine AMx.ent_inv (s' := AS.lst 23 [(0, vo 0), (2, vc (u6 m)), (7, vc (i6 ((8 - 8 * (j : Int)) - 8)))] [(0, AObj.grow 5 1 UInt8 0 rowU8 ((b ++ List.take j (be2 m)) ++ [List.getD (be2 m) j 0]))]) (ent_proj [0, 2, 7] [0]) ?_
  refine AMx.inv ⟨_, ?_, j + 1, ?_, rfl, ?_⟩
  rotate_left
  · omega
  · rw [lay_step b m (by omega), show (8 - 8 * (j : Int)) - 8 = 8 - 8 * ((j + 1 : Nat) : Int) by omega]
  · omega
 ·
  refine AMx.exit ?_
  refine AMx.code_exit ?_
  refine AMx.inv_exit ?_
  refine AMx.blk_exit ?_
  refine gS [] [] 23 [(6, vo 0)] [(0, AObj.grow 5 1 UInt8 0 rowU8 (b ++ List.take j (be2 m)))] trivial ?_
  refine AMx.ret ?_
  exact ⟨.inl rfl, 0, AObj.grow 5 1 UInt8 0 rowU8 (b ++ List.take j (be2 m)), by kernel_rfl, by kernel_rfl, by rw [lay_end b m (by omega)]⟩

theorem f32_body : Tryd.f32.body = some (.seq (.region 0 (rg Tryd.f32 0) false) (.seq (.seq (.region 1 (rg Tryd.f32 1) false) (.cond (.tmp 9) (.seq (.region 2 (rg Tryd.f32 2) false) (.ret)) (.skip))) (.seq (.region 3 (rg Tryd.f32 3) false) (.seq (.region 4 (rg Tryd.f32 4) false) (.ret))))) := by kernel_rfl

set_option maxRecDepth 100000 in
set_option maxHeartbeats 8000000 in
theorem QRow_c (b s : Bytes) (hs : s.length ≤ 65535) (hb : b.length ≤ 900000) : ∀ d, Spec Tryd.prog 32 [tc (SC.sl 1 UInt8 0 rowU8 b), tc (st s)] H0 (.tup [.c (.own d), tc (i6 0)]) (ofH [(d, AObj.grow 5 1 UInt8 0 rowU8 (b ++ rowB s))]) := by
 refine OwnT.of_body Tryd.func32 f32_body (by kernel_rfl) Tryd.ntmps32 (by kernel_rfl) rfl (by kernel_rfl) ?_
 refine gS [] [] 22 [(0, vc (SC.sl 1 UInt8 0 rowU8 b)), (1, vc (st s))] [] trivial ?_
 refine gQ ?_
 refine gS [] [] 22 [(0, vc (SC.sl 1 UInt8 0 rowU8 b)), (1, vc (st s)), (9, vc (bo (decide (65535 < (List.length s : Int)))))] [] trivial ?_
 refine gC (65535 < (List.length s : Int)) (fun hc1 => ?_) fun hc1 => ?_
 ·
  refine gS [] [] 22 [(4, vc (SC.nilsl)), (5, vc (i6 5))] [] trivial ?_
  exfalso
  first | omega | (simp only [List.length_append, List.length_cons, List.length_nil, List.length_take, be2_len]; omega)
 ·
  refine AMx.skip ?_
  refine gS [(4, CE.call [] [] (vo 14) [(14, AObj.grow 5 1 UInt8 0 rowU8 b)]), (8, CE.call [] [14] (vo 18) [(18, AObj.grow 5 1 UInt8 0 rowU8 (b ++ be2 ((List.length s : Int))))])] [InR .i64 (2 + (List.length s : Int)), Spec Tryd.prog 51 [tc (SC.sl 1 UInt8 0 rowU8 b), tc (i6 (2 + (List.length s : Int)))] (ofH []) (vo 14) (ofH [(14, AObj.grow 5 1 UInt8 0 rowU8 b)]), Spec Tryd.prog 50 [TV.c (.own 14), tc (i6 2), tc (u6 (IntKind.wrap .u64 ((List.length s : Int))))] (ofH [(14, AObj.grow 5 1 UInt8 0 rowU8 b)]) (vo 18) (ofH [(18, AObj.grow 5 1 UInt8 0 rowU8 (b ++ be2 ((List.length s : Int))))])] 22 [(1, vc (st s)), (6, vo 18)] [(18, AObj.grow 5 1 UInt8 0 rowU8 (b ++ be2 ((List.length s : Int))))] ⟨(show InR .i64 (2 + (List.length s : Int)) from (inR64 (by first | omega | (simp only [List.length_append, List.length_cons, List.length_nil, List.length_take, be2_len]; omega)) (by first | omega | (simp only [List.length_append, List.length_cons, List.length_nil, List.length_take, be2_len]; omega)))), (grown_c b (2 + (List.length s : Int)) (by first | omega | (simp only [List.length_append, List.length_cons, List.length_nil, List.length_take, be2_len]; omega)) (by first | omega | (simp only [List.length_append, List.length_cons, List.length_nil, List.length_take, be2_len]; omega)) (by first | omega | (simp only [List.length_append, List.length_cons, List.length_nil, List.length_take, be2_len]; omega)) 14), (lay_c b (IntKind.wrap .u64 ((List.length s : Int))) ((List.length s : Int)) (AL.Quill.wrap_64 (by omega) (by omega)) (by first | omega | (simp only [List.length_append, List.length_cons, List.length_nil, List.length_take, be2_len]; omega)) (by first | omega | (simp only [List.length_append, List.length_cons, List.length_nil, List.length_take, be2_len]; omega)) (by first | omega | (simp only [List.length_append, List.length_cons, List.length_nil, List.length_take, be2_len]; omega)) 14 18 rfl)⟩ ?_
  refine gS [(2, CE.obj (AObj.grow 5 1 UInt8 0 rowU8 ((b ++ be2 ((List.length s : Int))) ++ s)))] [AppC (flat 1 rowU8 s) (List.length s) 1 (AObj.grow 5 1 UInt8 0 rowU8 (b ++ be2 ((List.length s : Int)))) (AObj.grow 5 1 UInt8 0 rowU8 ((b ++ be2 ((List.length s : Int))) ++ s))] 22 [(4, vo 21), (5, vc (i6 0))] [(21, AObj.grow 5 1 UInt8 0 rowU8 ((b ++ be2 ((List.length s : Int))) ++ s))] (⟨_, rfl, rfl, rfl, by simp only [List.length_append, List.length_cons, List.length_nil, List.length_take, be2_len]; omega, by simp only [maxLen, List.length_append, List.length_cons, List.length_nil, List.length_take, be2_len]; omega⟩) ?_
  refine AMx.ret ?_
  exact ⟨.inl rfl, 21, AObj.grow 5 1 UInt8 0 rowU8 ((b ++ be2 ((List.length s : Int))) ++ s), AV.tup [TV.c (.own 21), tc (i6 0)], by kernel_rfl, rfl, by kernel_rfl, (by rw [List.append_assoc]; rfl)⟩

theorem f69_body : Tryd.f69.body = some (.seq (.region 0 (rg Tryd.f69 0) false) (.seq (.region 1 (rg Tryd.f69 1) false) (.ret))) := by kernel_rfl

set_option maxRecDepth 100000 in
set_option maxHeartbeats 8000000 in
theorem sized_c (n : Int) : Pure Tryd.prog 69 [tc (i6 n)] (vc (bo (decide (1 ≤ n) && decide (n ≤ 8)))) := by
 refine Pure.of_body Tryd.func69 f69_body (by kernel_rfl) Tryd.ntmps69 (by kernel_rfl) (by kernel_rfl) ?_
 refine gS [] [] 9 [(0, vc (i6 n))] [] trivial ?_
 refine gS [] [((decide (1 ≤ n)) = true) → allP [], ((decide (1 ≤ n)) = true) → allP [(decide (1 ≤ n)) = true], (decide (1 ≤ n)) = true → allP [(decide (1 ≤ n)) = true]] 9 [(2, vc (bo ((decide (1 ≤ n)) && (decide (n ≤ 8)))))] [] ⟨(fun _ => trivial), (fun hp => hp), (fun hp2 => (by first | exact hp2 | exact ⟨hp, hp2⟩))⟩ ?_
 exact gT (vc (bo ((decide (1 ≤ n)) && (decide (n ≤ 8))))) rfl

theorem f68_body : Tryd.f68.body = some (.seq (.region 0 (rg Tryd.f68 0) false) (.seq (.region 1 (rg Tryd.f68 1) false) (.ret))) := by kernel_rfl

set_option maxRecDepth 100000 in
set_option maxHeartbeats 8000000 in
theorem stands_c (x : ScanV) : Pure Tryd.prog 68 [TV.agg [.s (st x.1), .s (i6 x.2.1), .s (i6 x.2.2)]] (vc (bo (decide (0 ≤ x.2.1) && decide (x.2.1 ≤ (List.length x.1 : Int))))) := by
 refine Pure.of_body Tryd.func68 f68_body (by kernel_rfl) Tryd.ntmps68 (by kernel_rfl) (by kernel_rfl) ?_
 refine gS [] [] 14 [(1, vp 1 0)] [(1, AObj.row [.s (st x.1), .s (i6 x.2.1), .s (i6 x.2.2)])] trivial ?_
 refine gS [] [((decide (0 ≤ x.2.1)) = true) → allP [], ((decide (0 ≤ x.2.1)) = true) → allP [(decide (0 ≤ x.2.1)) = true], ((decide (0 ≤ x.2.1)) = true) → allP [], ((decide (0 ≤ x.2.1)) = true) → allP [(decide (0 ≤ x.2.1)) = true], ((decide (0 ≤ x.2.1)) = true) → allP [(decide (0 ≤ x.2.1)) = true], ((decide (0 ≤ x.2.1)) = true) → allP [(decide (0 ≤ x.2.1)) = true, (decide (0 ≤ x.2.1)) = true], (decide (0 ≤ x.2.1)) = true → allP [(decide (0 ≤ x.2.1)) = true]] 14 [(2, vc (bo ((decide (0 ≤ x.2.1)) && (decide (x.2.1 ≤ (List.length x.1 : Int))))))] [] ⟨(fun _ => trivial), (fun hp => hp), (fun _ => trivial), (fun hp => hp), (fun hp => hp), (fun hp => ⟨hp, hp⟩), (fun hp2 => (by first | exact hp2 | exact ⟨hp, hp2⟩))⟩ ?_
 exact gT (vc (bo ((decide (0 ≤ x.2.1)) && (decide (x.2.1 ≤ (List.length x.1 : Int)))))) rfl

theorem f66_body : Tryd.f66.body = some (.seq (.region 0 (rg Tryd.f66 0) false) (.seq (.region 1 (rg Tryd.f66 1) false) (.ret))) := by kernel_rfl

set_option maxRecDepth 100000 in
set_option maxHeartbeats 8000000 in
theorem left_c (x : ScanV) (h : 0 ≤ x.2.1 ∧ x.2.1 ≤ x.1.length) (hl : x.1.length ≤ 1000000) : Pure Tryd.prog 66 [TV.agg [.s (st x.1), .s (i6 x.2.1), .s (i6 x.2.2)]] (vc (i6 ((List.length x.1 : Int) - x.2.1))) := by
 refine Pure.of_body Tryd.func66 f66_body (by kernel_rfl) Tryd.ntmps66 (by kernel_rfl) (by kernel_rfl) ?_
 refine gS [] [] 9 [(1, vp 1 0)] [(1, AObj.row [.s (st x.1), .s (i6 x.2.1), .s (i6 x.2.2)])] trivial ?_
 refine gS [] [InR .i64 ((List.length x.1 : Int) - x.2.1)] 9 [(2, vc (i6 ((List.length x.1 : Int) - x.2.1)))] [] (show InR .i64 ((List.length x.1 : Int) - x.2.1) from (inR64 (by omega) (by omega))) ?_
 exact gT (vc (i6 ((List.length x.1 : Int) - x.2.1))) rfl

theorem f67_body : Tryd.f67.body = some (.seq (.region 0 (rg Tryd.f67 0) false) (.seq (.region 1 (rg Tryd.f67 1) false) (.seq (.region 2 (rg Tryd.f67 2) false) (.ret)))) := by kernel_rfl

set_option maxRecDepth 100000 in
set_option maxHeartbeats 8000000 in
theorem fails_c (x : ScanV) (e : Int) : Pure Tryd.prog 67 [TV.agg [.s (st x.1), .s (i6 x.2.1), .s (i6 x.2.2)], tc (i6 e)] (AV.t (TV.agg [.s (st (((x.1, x.2.1, e) : ScanV).1)), .s (i6 (((x.1, x.2.1, e) : ScanV).2.1)), .s (i6 (((x.1, x.2.1, e) : ScanV).2.2))])) := by
 refine Pure.of_body Tryd.func67 f67_body (by kernel_rfl) Tryd.ntmps67 (by kernel_rfl) (by kernel_rfl) ?_
 refine gS [] [] 8 [(1, vc (i6 e)), (2, vp 2 0), (4, vp 4 0)] [(2, AObj.row [.s (st x.1), .s (i6 x.2.1), .s (i6 x.2.2)]), (4, AObj.row [.s (st []), .s (i6 0), .s (i6 0)])] trivial ?_
 refine gS [] [] 8 [(2, vp 2 0), (4, vp 4 0)] [(2, AObj.row [.s (st x.1), .s (i6 x.2.1), .s (i6 e)]), (4, AObj.row [.s (st []), .s (i6 0), .s (i6 0)])] trivial ?_
 refine gS [] [] 8 [(4, vp 4 0)] [(4, AObj.row [.s (st x.1), .s (i6 x.2.1), .s (i6 e)])] trivial ?_
 exact gT (AV.t (TV.agg [.s (st x.1), .s (i6 x.2.1), .s (i6 e)])) rfl

theorem f49_body : Tryd.f49.body = some (.seq (.region 0 (rg Tryd.f49 0) false) (.seq (.block 0 (.seq (.region 1 (rg Tryd.f49 1) false) (.cond (.tmp 9) (.seq (.region 2 (rg Tryd.f49 2) true) (.ret)) (.seq (.region 3 (rg Tryd.f49 3) false) (.cond (.tmp 14) (.seq (.region 4 (rg Tryd.f49 4) false) (.ret)) (.seq (.region 5 (rg Tryd.f49 5) false) (.cond (.tmp 25) (.seq (.region 6 (rg Tryd.f49 6) false) (.ret)) (.skip)))))))) (.seq (.region 7 (rg Tryd.f49 7) false) (.seq (.seq (.region 8 (rg Tryd.f49 8) false) (.block 1 (.loop (.seq (.region 9 (rg Tryd.f49 9) false) (.seq (.cond (.tmp 44) (.skip) (.exit 1)) (.seq (.block 2 (.seq (.region 10 (rg Tryd.f49 10) false) (.region 11 (rg Tryd.f49 11) false))) (.region 12 (rg Tryd.f49 12) false))))))) (.seq (.region 13 (rg Tryd.f49 13) false) (.seq (.region 14 (rg Tryd.f49 14) true) (.ret))))))) := by kernel_rfl

set_option maxRecDepth 100000 in
set_option maxHeartbeats 8000000 in
theorem Num_c (x : ScanV) (n : Int) (h1 : 1 ≤ n) (h2 : n ≤ 2) (hx : x.1.length ≤ 1000000) : Pure Tryd.prog 49 [TV.agg [.s (st x.1), .s (i6 x.2.1), .s (i6 x.2.2)], tc (i6 n)] (AV.tup [tc (u6 ((numQ x n).1)), TV.agg [.s (st (((numQ x n).2).1)), .s (i6 (((numQ x n).2).2.1)), .s (i6 (((numQ x n).2).2.2))]]) := by
 refine Pure.of_body Tryd.func49 f49_body (by kernel_rfl) Tryd.ntmps49 (by kernel_rfl) (by kernel_rfl) ?_
 refine gS [] [] 60 [(1, vc (i6 n)), (2, vp 2 0), (5, vp 5 0)] [(2, AObj.row [.s (st x.1), .s (i6 x.2.1), .s (i6 x.2.2)]), (5, AObj.row [.s (st []), .s (i6 0), .s (i6 0)])] trivial ?_
 refine gQ ?_
 refine AMx.block ?_
 refine gS [] [] 60 [(1, vc (i6 n)), (2, vp 2 0), (5, vp 5 0), (9, vc (bo (!decide (x.2.2 = 0))))] [(2, AObj.row [.s (st x.1), .s (i6 x.2.1), .s (i6 x.2.2)]), (5, AObj.row [.s (st []), .s (i6 0), .s (i6 0)])] trivial ?_
 refine gN (x.2.2 = 0) (fun hc1 => ?_) fun hc1 => ?_
 ·
  refine gY [] [(0, [2]), (2, [5])] [] 60 [(4, vc (u6 0)), (5, vp 5 0)] [(5, AObj.row [.s (st x.1), .s (i6 x.2.1), .s (i6 x.2.2)])] mixed trivial ?_
  exact gT (AV.tup [tc (u6 0), TV.agg [.s (st x.1), .s (i6 x.2.1), .s (i6 x.2.2)]]) (by rw [show numQ x n = (0, x) from by first | rw [num_1 (by assumption)] | rw [num_2 (by assumption) (by omega)] | rw [num_3 (by assumption) (by omega) (by assumption)] | (rw [num_4 (by assumption) (by omega) (by assumption)]; done) | (rw [num_4 (by assumption) (by omega) (by assumption)]; simp_all)])
 ·
  refine gS [(1, CE.call [] [] (vc (bo (decide (0 ≤ x.2.1) && decide (x.2.1 ≤ (List.length x.1 : Int))))) []), (5, CE.call [] [] (vc (bo (decide ((1 : Int) ≤ n) && decide ((n : Int) ≤ 8)))) [])] [Spec Tryd.prog 68 [TV.agg [.s (st x.1), .s (i6 x.2.1), .s (i6 x.2.2)]] (ofH []) (vc (bo (decide (0 ≤ x.2.1) && decide (x.2.1 ≤ (List.length x.1 : Int))))) (ofH []), ((!(decide (0 ≤ x.2.1) && decide (x.2.1 ≤ (List.length x.1 : Int)))) = false) → allP [], ((!(decide (0 ≤ x.2.1) && decide (x.2.1 ≤ (List.length x.1 : Int)))) = false) → allP [(!(decide (0 ≤ x.2.1) && decide (x.2.1 ≤ (List.length x.1 : Int)))) = false, Spec Tryd.prog 69 [tc (i6 n)] (ofH []) (vc (bo (decide ((1 : Int) ≤ n) && decide ((n : Int) ≤ 8)))) (ofH [])], ((!(decide (0 ≤ x.2.1) && decide (x.2.1 ≤ (List.length x.1 : Int)))) = false) → allP [(!(decide (0 ≤ x.2.1) && decide (x.2.1 ≤ (List.length x.1 : Int)))) = false], (!(decide (0 ≤ x.2.1) && decide (x.2.1 ≤ (List.length x.1 : Int)))) = false → allP [(!(decide (0 ≤ x.2.1) && decide (x.2.1 ≤ (List.length x.1 : Int)))) = false]] 60 [(1, vc (i6 n)), (2, vp 2 0), (5, vp 5 0), (14, vc (bo ((!(decide (0 ≤ x.2.1) && decide (x.2.1 ≤ (List.length x.1 : Int)))) || (!(decide ((1 : Int) ≤ n) && decide ((n : Int) ≤ 8))))))] [(2, AObj.row [.s (st x.1), .s (i6 x.2.1), .s (i6 x.2.2)]), (5, AObj.row [.s (st []), .s (i6 0), .s (i6 0)])] ⟨(stands_c x), (fun _ => trivial), (fun hp => by have hq := hp; (try simp only [decide_eq_true_eq, decide_eq_false_iff_not, Bool.and_eq_true, Bool.or_eq_true, Bool.and_eq_false_iff, Bool.or_eq_false_iff, Bool.not_eq_true', Bool.not_eq_false', Bool.not_eq_true, Bool.not_eq_false] at hq); exact ⟨hp, (sized_c n)⟩), (fun hp => hp), (fun hp2 => (by first | exact hp2 | exact ⟨hp, hp2⟩))⟩ ?_
  refine gB (((!(decide (0 ≤ x.2.1) && decide (x.2.1 ≤ (List.length x.1 : Int)))) || (!(decide ((1 : Int) ≤ n) && decide ((n : Int) ≤ 8))))) (fun hc2 => ?_) fun hc2 => ?_
  ·
   try simp only [xT, xF, xA, xB, xO, xP, xN, xM] at hc2
   refine gS [(1, CE.call [] [] (AV.t (TV.agg [.s (st (((x.1, x.2.1, 2) : AL.Quill.ScanV).1)), .s (i6 (((x.1, x.2.1, 2) : AL.Quill.ScanV).2.1)), .s (i6 (((x.1, x.2.1, 2) : AL.Quill.ScanV).2.2))])) [])] [Spec Tryd.prog 67 [TV.agg [.s (st x.1), .s (i6 x.2.1), .s (i6 x.2.2)], tc (i6 2)] (ofH []) (AV.t (TV.agg [.s (st (((x.1, x.2.1, 2) : AL.Quill.ScanV).1)), .s (i6 (((x.1, x.2.1, 2) : AL.Quill.ScanV).2.1)), .s (i6 (((x.1, x.2.1, 2) : AL.Quill.ScanV).2.2))])) (ofH [])] 60 [(4, vc (u6 0)), (5, vp 5 0)] [(5, AObj.row [.s (st (((x.1, x.2.1, 2) : AL.Quill.ScanV).1)), .s (i6 (((x.1, x.2.1, 2) : AL.Quill.ScanV).2.1)), .s (i6 (((x.1, x.2.1, 2) : AL.Quill.ScanV).2.2))])] (fails_c x 2) ?_
   exact gT (AV.tup [tc (u6 0), TV.agg [.s (st (((x.1, x.2.1, 2) : AL.Quill.ScanV).1)), .s (i6 (((x.1, x.2.1, 2) : AL.Quill.ScanV).2.1)), .s (i6 (((x.1, x.2.1, 2) : AL.Quill.ScanV).2.2))]]) (by rw [show numQ x n = (0, ((x.1, x.2.1, 2) : AL.Quill.ScanV)) from by first | rw [num_1 (by assumption)] | rw [num_2 (by assumption) (by omega)] | rw [num_3 (by assumption) (by omega) (by assumption)] | (rw [num_4 (by assumption) (by omega) (by assumption)]; done) | (rw [num_4 (by assumption) (by omega) (by assumption)]; simp_all)])
  ·
   try simp only [xT, xF, xA, xB, xO, xP, xN, xM] at hc2
   refine gS [(1, CE.call [] [] (vc (i6 ((List.length x.1 : Int) - x.2.1))) [])] [Spec Tryd.prog 66 [TV.agg [.s (st x.1), .s (i6 x.2.1), .s (i6 x.2.2)]] (ofH []) (vc (i6 ((List.length x.1 : Int) - x.2.1))) (ofH [])] 60 [(1, vc (i6 n)), (2, vp 2 0), (5, vp 5 0), (25, vc (bo (decide ((List.length x.1 : Int) - x.2.1 < n))))] [(2, AObj.row [.s (st x.1), .s (i6 x.2.1), .s (i6 x.2.2)]), (5, AObj.row [.s (st []), .s (i6 0), .s (i6 0)])] (left_c x (by first | omega | (simp only [List.length_take, List.length_drop] at *; omega)) (by first | omega | (simp only [List.length_take, List.length_drop] at *; omega))) ?_
   refine gC ((List.length x.1 : Int) - x.2.1 < n) (fun hc3 => ?_) fun hc3 => ?_
   ·
    refine gS [(1, CE.call [] [] (AV.t (TV.agg [.s (st (((x.1, x.2.1, 3) : AL.Quill.ScanV).1)), .s (i6 (((x.1, x.2.1, 3) : AL.Quill.ScanV).2.1)), .s (i6 (((x.1, x.2.1, 3) : AL.Quill.ScanV).2.2))])) [])] [Spec Tryd.prog 67 [TV.agg [.s (st x.1), .s (i6 x.2.1), .s (i6 x.2.2)], tc (i6 3)] (ofH []) (AV.t (TV.agg [.s (st (((x.1, x.2.1, 3) : AL.Quill.ScanV).1)), .s (i6 (((x.1, x.2.1, 3) : AL.Quill.ScanV).2.1)), .s (i6 (((x.1, x.2.1, 3) : AL.Quill.ScanV).2.2))])) (ofH [])] 60 [(4, vc (u6 0)), (5, vp 5 0)] [(5, AObj.row [.s (st (((x.1, x.2.1, 3) : AL.Quill.ScanV).1)), .s (i6 (((x.1, x.2.1, 3) : AL.Quill.ScanV).2.1)), .s (i6 (((x.1, x.2.1, 3) : AL.Quill.ScanV).2.2))])] (fails_c x 3) ?_
    exact gT (AV.tup [tc (u6 0), TV.agg [.s (st (((x.1, x.2.1, 3) : AL.Quill.ScanV).1)), .s (i6 (((x.1, x.2.1, 3) : AL.Quill.ScanV).2.1)), .s (i6 (((x.1, x.2.1, 3) : AL.Quill.ScanV).2.2))]]) (by rw [show numQ x n = (0, ((x.1, x.2.1, 3) : AL.Quill.ScanV)) from by first | rw [num_1 (by assumption)] | rw [num_2 (by assumption) (by omega)] | rw [num_3 (by assumption) (by omega) (by assumption)] | (rw [num_4 (by assumption) (by omega) (by assumption)]; done) | (rw [num_4 (by assumption) (by omega) (by assumption)]; simp_all)])
   ·
    refine AMx.skip ?_
    refine AMx.blk ?_
    refine gS [] [] 60 [(1, vc (i6 n)), (2, vp 2 0), (5, vp 5 0), (6, vc (u6 0))] [(2, AObj.row [.s (st x.1), .s (i6 x.2.1), .s (i6 x.2.2)]), (5, AObj.row [.s (st []), .s (i6 0), .s (i6 0)])] trivial ?_
    refine gQ ?_
    refine gS [] [InR .i64 (x.2.1 + n), 0 ≤ x.2.1 + n, x.2.1 + n ≤ List.length x.1, 0 ≤ x.2.1, x.2.1 ≤ x.2.1 + n] 60 [(1, vc (i6 n)), (2, vp 2 0), (5, vp 5 0), (6, vc (u6 0)), (41, vc (SC.sl 1 UInt8 0 rowU8 (List.drop (x.2.1).toNat (List.take (x.2.1 + n).toNat x.1)))), (42, vc (i6 (List.length (List.drop (x.2.1).toNat (List.take (x.2.1 + n).toNat x.1) : List UInt8) : Int))), (43, vc (i6 0))] [(2, AObj.row [.s (st x.1), .s (i6 x.2.1), .s (i6 x.2.2)]), (5, AObj.row [.s (st []), .s (i6 0), .s (i6 0)])] ⟨(show InR .i64 (x.2.1 + n) from (inR64 (by first | omega | (simp only [List.length_take, List.length_drop] at *; omega)) (by first | omega | (simp only [List.length_take, List.length_drop] at *; omega)))), (show 0 ≤ x.2.1 + n from (by first | omega | (simp only [List.length_take, List.length_drop] at *; omega))), (show x.2.1 + n ≤ List.length x.1 from (by first | omega | (simp only [List.length_take, List.length_drop] at *; omega))), (show 0 ≤ x.2.1 from (by first | omega | (simp only [List.length_take, List.length_drop] at *; omega))), (show x.2.1 ≤ x.2.1 + n from (by first | omega | (simp only [List.length_take, List.length_drop] at *; omega)))⟩ ?_
    refine AMx.block ?_
    refine AMx.ent (s' := AS.lst 60 [(1, vc (i6 n)), (2, vp 2 0), (5, vp 5 0), (6, vc (u6 0)), (41, vc (SC.sl 1 UInt8 0 rowU8 (List.drop (x.2.1).toNat (List.take (x.2.1 + n).toNat x.1)))), (42, vc (i6 (List.length (List.drop (x.2.1).toNat (List.take (x.2.1 + n).toNat x.1) : List UInt8) : Int))), (43, vc (i6 0))] [(2, AObj.row [.s (st x.1), .s (i6 x.2.1), .s (i6 x.2.2)]), (5, AObj.row [.s (st []), .s (i6 0), .s (i6 0)])]) (ent_proj [1, 2, 5, 6, 41, 42, 43] [2, 5]) ?_
    refine AMx.loop (fun mm ss => ∃ (k : Nat), (k ≤ List.length (List.drop (x.2.1).toNat (List.take (x.2.1 + n).toNat x.1))) ∧ mm = List.length (List.drop (x.2.1).toNat (List.take (x.2.1 + n).toNat x.1)) - k ∧ ss = AS.lst 60 [(1, vc (i6 n)), (2, vp 2 0), (5, vp 5 0), (6, vc (u6 (bigS (List.take k (List.drop (x.2.1).toNat (List.take (x.2.1 + n).toNat x.1)))))), (41, vc (SC.sl 1 UInt8 0 rowU8 (List.drop (x.2.1).toNat (List.take (x.2.1 + n).toNat x.1)))), (42, vc (i6 (List.length (List.drop (x.2.1).toNat (List.take (x.2.1 + n).toNat x.1) : List UInt8) : Int))), (43, vc (i6 (k : Int)))] [(2, AObj.row [.s (st x.1), .s (i6 x.2.1), .s (i6 x.2.2)]), (5, AObj.row [.s (st []), .s (i6 0), .s (i6 0)])]) ⟨0, ?_, rfl, ?_⟩ ?_
    · omega
    · rfl
    rintro mm ss ⟨k, hI, rfl, rfl⟩
    refine gS [] [] 60 [(1, vc (i6 n)), (2, vp 2 0), (5, vp 5 0), (6, vc (u6 (bigS (List.take k (List.drop (x.2.1).toNat (List.take (x.2.1 + n).toNat x.1)))))), (41, vc (SC.sl 1 UInt8 0 rowU8 (List.drop (x.2.1).toNat (List.take (x.2.1 + n).toNat x.1)))), (42, vc (i6 (List.length (List.drop (x.2.1).toNat (List.take (x.2.1 + n).toNat x.1) : List UInt8) : Int))), (43, vc (i6 (k : Int))), (44, vc (bo (decide ((k : Int) < (List.length (List.drop (x.2.1).toNat (List.take (x.2.1 + n).toNat x.1) : List UInt8) : Int)))))] [(2, AObj.row [.s (st x.1), .s (i6 x.2.1), .s (i6 x.2.2)]), (5, AObj.row [.s (st []), .s (i6 0), .s (i6 0)])] trivial ?_
    refine gQ ?_
    refine gC ((k : Int) < (List.length (List.drop (x.2.1).toNat (List.take (x.2.1 + n).toNat x.1) : List UInt8) : Int)) (fun hc4 => ?_) fun hc4 => ?_
    ·
     refine AMx.skip ?_
     refine gQ ?_
     refine AMx.block ?_
     refine gS [] [(0 : Int) ≤ (k : Int), (k : Int) < List.length (List.drop (x.2.1).toNat (List.take (x.2.1 + n).toNat x.1) : List UInt8)] 60 [(1, vc (i6 n)), (2, vp 2 0), (5, vp 5 0), (6, vc (u6 (bigS (List.take k (List.drop (x.2.1).toNat (List.take (x.2.1 + n).toNat x.1)))))), (8, vc (u8 ((List.getD (List.drop (x.2.1).toNat (List.take (x.2.1 + n).toNat x.1)) k 0).toNat : Int))), (41, vc (SC.sl 1 UInt8 0 rowU8 (List.drop (x.2.1).toNat (List.take (x.2.1 + n).toNat x.1)))), (42, vc (i6 (List.length (List.drop (x.2.1).toNat (List.take (x.2.1 + n).toNat x.1) : List UInt8) : Int))), (43, vc (i6 (k : Int)))] [(2, AObj.row [.s (st x.1), .s (i6 x.2.1), .s (i6 x.2.2)]), (5, AObj.row [.s (st []), .s (i6 0), .s (i6 0)])] ⟨(show (0 : Int) ≤ (k : Int) from (by first | omega | (simp only [List.length_take, List.length_drop] at *; omega))), (show (k : Int) < List.length (List.drop (x.2.1).toNat (List.take (x.2.1 + n).toNat x.1) : List UInt8) from (by first | omega | (simp only [List.length_take, List.length_drop] at *; omega)))⟩ ?_
     refine gR [] [(0 : Int) ≤ 8] 60 [(1, vc (i6 n)), (2, vp 2 0), (5, vp 5 0), (6, vc (u6 (IntKind.wrap .u64 ((BitVec.ofInt 64 (IntKind.wrap .u64 ((bigS (List.take k (List.drop (x.2.1).toNat (List.take (x.2.1 + n).toNat x.1)))) * 2 ^ (min (8 : Int).toNat (IntKind.bits .u64)))) ||| BitVec.ofInt 64 ((List.getD (List.drop (x.2.1).toNat (List.take (x.2.1 + n).toNat x.1)) k 0).toNat : Int)).toNat)))), (41, vc (SC.sl 1 UInt8 0 rowU8 (List.drop (x.2.1).toNat (List.take (x.2.1 + n).toNat x.1)))), (42, vc (i6 (List.length (List.drop (x.2.1).toNat (List.take (x.2.1 + n).toNat x.1) : List UInt8) : Int))), (43, vc (i6 (k : Int)))] [(2, AObj.row [.s (st x.1), .s (i6 x.2.1), .s (i6 x.2.2)]), (5, AObj.row [.s (st []), .s (i6 0), .s (i6 0)])] (show (0 : Int) ≤ 8 from (by first | omega | (simp only [List.length_take, List.length_drop] at *; omega))) ?_
     refine AMx.blk ?_
     refine gR [] [InR .i64 ((k : Int) + 1)] 60 [(1, vc (i6 n)), (2, vp 2 0), (5, vp 5 0), (6, vc (u6 (IntKind.wrap .u64 ((BitVec.ofInt 64 (IntKind.wrap .u64 ((bigS (List.take k (List.drop (x.2.1).toNat (List.take (x.2.1 + n).toNat x.1)))) * 2 ^ (min (8 : Int).toNat (IntKind.bits .u64)))) ||| BitVec.ofInt 64 ((List.getD (List.drop (x.2.1).toNat (List.take (x.2.1 + n).toNat x.1)) k 0).toNat : Int)).toNat)))), (41, vc (SC.sl 1 UInt8 0 rowU8 (List.drop (x.2.1).toNat (List.take (x.2.1 + n).toNat x.1)))), (42, vc (i6 (List.length (List.drop (x.2.1).toNat (List.take (x.2.1 + n).toNat x.1) : List UInt8) : Int))), (43, vc (i6 ((k : Int) + 1)))] [(2, AObj.row [.s (st x.1), .s (i6 x.2.1), .s (i6 x.2.2)]), (5, AObj.row [.s (st []), .s (i6 0), .s (i6 0)])] (show InR .i64 ((k : Int) + 1) from (inR64 (by first | omega | (simp only [List.length_take, List.length_drop] at *; omega)) (by first | omega | (simp only [List.length_take, List.length_drop] at *; omega)))) ?_
     refine AMx.ent_inv (s' := AS.lst 60 [(1, vc (i6 n)), (2, vp 2 0), (5, vp 5 0), (6, vc (u6 (IntKind.wrap .u64 ((BitVec.ofInt 64 (IntKind.wrap .u64 ((bigS (List.take k (List.drop (x.2.1).toNat (List.take (x.2.1 + n).toNat x.1)))) * 2 ^ (min (8 : Int).toNat (IntKind.bits .u64)))) ||| BitVec.ofInt 64 ((List.getD (List.drop (x.2.1).toNat (List.take (x.2.1 + n).toNat x.1)) k 0).toNat : Int)).toNat)))), (41, vc (SC.sl 1 UInt8 0 rowU8 (List.drop (x.2.1).toNat (List.take (x.2.1 + n).toNat x.1)))), (42, vc (i6 (List.length (List.drop (x.2.1).toNat (List.take (x.2.1 + n).toNat x.1) : List UInt8) : Int))), (43, vc (i6 ((k : Int) + 1)))] [(2, AObj.row [.s (st x.1), .s (i6 x.2.1), .s (i6 x.2.2)]), (5, AObj.row [.s (st []), .s (i6 0), .s (i6 0)])]) (ent_proj [1, 2, 5, 6, 41, 42, 43] [2, 5]) ?_
     refine AMx.inv ⟨_, ?_, k + 1, ?_, rfl, ?_⟩
     rotate_left
     · omega
     · have z1 := big_2 (l := List.take k (List.drop (x.2.1).toNat (List.take (x.2.1 + n).toNat x.1))) (by simp only [List.length_take, List.length_drop]; omega); rw [or_big z1.1 (by omega) (Rune.byte_lt _ _), ← big_step _ k (by omega)]; rfl
     · omega
    ·
     refine AMx.exit ?_
     refine AMx.code_exit ?_
     refine AMx.inv_exit ?_
     refine AMx.blk_exit ?_
     rw [show List.take k (List.drop (x.2.1).toNat (List.take (x.2.1 + n).toNat x.1)) = List.drop (x.2.1).toNat (List.take (x.2.1 + n).toNat x.1) from List.take_of_length_le (by simp only [List.length_take, List.length_drop] at *; omega)]
     refine gS [] [InR .i64 (x.2.1 + n)] 60 [(2, vp 2 0), (5, vp 5 0), (6, vc (u6 (bigS (List.drop (x.2.1).toNat (List.take (x.2.1 + n).toNat x.1)))))] [(2, AObj.row [.s (st x.1), .s (i6 (x.2.1 + n)), .s (i6 x.2.2)]), (5, AObj.row [.s (st []), .s (i6 0), .s (i6 0)])] (show InR .i64 (x.2.1 + n) from (inR64 (by first | omega | (simp only [List.length_take, List.length_drop] at *; omega)) (by first | omega | (simp only [List.length_take, List.length_drop] at *; omega)))) ?_
     refine gY [] [(1, [2]), (3, [5])] [] 60 [(4, vc (u6 (bigS (List.drop (x.2.1).toNat (List.take (x.2.1 + n).toNat x.1))))), (5, vp 5 0)] [(5, AObj.row [.s (st x.1), .s (i6 (x.2.1 + n)), .s (i6 x.2.2)])] mixed trivial ?_
     exact gT (AV.tup [tc (u6 (bigS (List.drop (x.2.1).toNat (List.take (x.2.1 + n).toNat x.1)))), TV.agg [.s (st x.1), .s (i6 (x.2.1 + n)), .s (i6 x.2.2)]]) (by rw [show numQ x n = (bigS (List.drop (x.2.1).toNat (List.take (x.2.1 + n).toNat x.1)), ((x.1, x.2.1 + n, x.2.2) : AL.Quill.ScanV)) from by first | rw [num_1 (by assumption)] | rw [num_2 (by assumption) (by omega)] | rw [num_3 (by assumption) (by omega) (by assumption)] | (rw [num_4 (by assumption) (by omega) (by assumption)]; done) | (rw [num_4 (by assumption) (by omega) (by assumption)]; simp_all)])

theorem f48_body : Tryd.f48.body = some (.seq (.region 0 (rg Tryd.f48 0) false) (.seq (.region 1 (rg Tryd.f48 1) false) (.seq (.seq (.region 2 (rg Tryd.f48 2) false) (.cond (.tmp 14) (.seq (.region 3 (rg Tryd.f48 3) true) (.ret)) (.skip))) (.seq (.seq (.region 4 (rg Tryd.f48 4) false) (.cond (.tmp 20) (.seq (.region 5 (rg Tryd.f48 5) false) (.ret)) (.skip))) (.seq (.region 6 (rg Tryd.f48 6) false) (.seq (.region 7 (rg Tryd.f48 7) false) (.seq (.region 8 (rg Tryd.f48 8) true) (.ret)))))))) := by kernel_rfl

set_option maxRecDepth 100000 in
set_option maxHeartbeats 8000000 in
theorem Row_c (x : ScanV) (hx : x.1.length ≤ 1000000) : Pure Tryd.prog 48 [TV.agg [.s (st x.1), .s (i6 x.2.1), .s (i6 x.2.2)]] (AV.tup [tc (st ((rowQ x).1)), TV.agg [.s (st (((rowQ x).2).1)), .s (i6 (((rowQ x).2).2.1)), .s (i6 (((rowQ x).2).2.2))]]) := by
 refine Pure.of_body Tryd.func48 f48_body (by kernel_rfl) Tryd.ntmps48 (by kernel_rfl) (by kernel_rfl) ?_
 have ql := num_len x 2
 have qc : (numQ x 2).1 = 0 ∧ ¬ (numQ x 2).2.2.2 = 0 ∨ (0 ≤ x.2.1 ∧ x.2.1 + 2 ≤ (x.1.length : Int) ∧ (numQ x 2).2.2.1 = x.2.1 + 2 ∧ 0 ≤ (numQ x 2).1 ∧ (numQ x 2).1 < 65536) := by rcases num_cases x (n := 2) (by omega) (by omega) with q | ⟨_, q2, q3, q4, q5⟩; exact .inl q; exact .inr ⟨q2, q3, by rw [q4], q5⟩
 refine gS [] [] 38 [(1, vp 1 0), (3, vp 3 0)] [(1, AObj.row [.s (st x.1), .s (i6 x.2.1), .s (i6 x.2.2)]), (3, AObj.row [.s (st []), .s (i6 0), .s (i6 0)])] trivial ?_
 refine gS [(1, CE.call [] [] (AV.tup [tc (u6 ((numQ x 2).1)), TV.agg [.s (st (((numQ x 2).2).1)), .s (i6 (((numQ x 2).2).2.1)), .s (i6 (((numQ x 2).2).2.2))]]) [])] [Spec Tryd.prog 49 [TV.agg [.s (st x.1), .s (i6 x.2.1), .s (i6 x.2.2)], tc (i6 2)] (ofH []) (AV.tup [tc (u6 ((numQ x 2).1)), TV.agg [.s (st (((numQ x 2).2).1)), .s (i6 (((numQ x 2).2).2.1)), .s (i6 (((numQ x 2).2).2.2))]]) (ofH [])] 38 [(1, vp 1 0), (3, vp 3 0), (4, vc (u6 ((numQ x 2).1))), (5, vp 5 0)] [(1, AObj.row [.s (st x.1), .s (i6 x.2.1), .s (i6 x.2.2)]), (3, AObj.row [.s (st []), .s (i6 0), .s (i6 0)]), (5, AObj.row [.s (st (((numQ x 2).2).1)), .s (i6 (((numQ x 2).2).2.1)), .s (i6 (((numQ x 2).2).2.2))])] (Num_c x 2 (by omega) (by omega) (by first | omega | (rw [ql] at *; omega) | (rw [ql]; omega))) ?_
 refine gQ ?_
 refine gS [] [] 38 [(1, vp 1 0), (3, vp 3 0), (4, vc (u6 ((numQ x 2).1))), (5, vp 5 0), (14, vc (bo (!decide (((numQ x 2).2).2.2 = 0))))] [(1, AObj.row [.s (st x.1), .s (i6 x.2.1), .s (i6 x.2.2)]), (3, AObj.row [.s (st []), .s (i6 0), .s (i6 0)]), (5, AObj.row [.s (st (((numQ x 2).2).1)), .s (i6 (((numQ x 2).2).2.1)), .s (i6 (((numQ x 2).2).2.2))])] trivial ?_
 refine gN (((numQ x 2).2).2.2 = 0) (fun hc1 => ?_) fun hc1 => ?_
 ·
  refine gY [] [(0, [5]), (2, [3])] [] 38 [(2, vc (st [])), (3, vp 3 0)] [(3, AObj.row [.s (st (((numQ x 2).2).1)), .s (i6 (((numQ x 2).2).2.1)), .s (i6 (((numQ x 2).2).2.2))])] mixed trivial ?_
  exact gT (AV.tup [tc (st []), TV.agg [.s (st (((numQ x 2).2).1)), .s (i6 (((numQ x 2).2).2.1)), .s (i6 (((numQ x 2).2).2.2))]]) (by rw [show rowQ x = ([], ((numQ x 2).2)) from by first | rw [row_1 (by assumption)] | rw [row_2 (by assumption) (by assumption)] | (rw [row_3 (by assumption) (by assumption)]; done) | (rw [row_3 (by assumption) (by assumption)]; simp only [num_len, *])])
 ·
  refine AMx.skip ?_
  refine gQ ?_
  refine gS [(1, CE.call [] [] (vc (i6 ((List.length ((numQ x 2).2).1 : Int) - ((numQ x 2).2).2.1))) [])] [Spec Tryd.prog 66 [TV.agg [.s (st (((numQ x 2).2).1)), .s (i6 (((numQ x 2).2).2.1)), .s (i6 (((numQ x 2).2).2.2))]] (ofH []) (vc (i6 ((List.length ((numQ x 2).2).1 : Int) - ((numQ x 2).2).2.1))) (ofH []), InR .i64 ((numQ x 2).1)] 38 [(1, vp 1 0), (3, vp 3 0), (4, vc (u6 ((numQ x 2).1))), (5, vp 5 0), (20, vc (bo (decide ((List.length ((numQ x 2).2).1 : Int) - ((numQ x 2).2).2.1 < (numQ x 2).1))))] [(1, AObj.row [.s (st x.1), .s (i6 x.2.1), .s (i6 x.2.2)]), (3, AObj.row [.s (st []), .s (i6 0), .s (i6 0)]), (5, AObj.row [.s (st (((numQ x 2).2).1)), .s (i6 (((numQ x 2).2).2.1)), .s (i6 (((numQ x 2).2).2.2))])] ⟨(left_c ((numQ x 2).2) (by first | omega | (rw [ql] at *; omega) | (rw [ql]; omega)) (by first | omega | (rw [ql] at *; omega) | (rw [ql]; omega))), (show InR .i64 ((numQ x 2).1) from (inR64 (by first | omega | (rw [ql] at *; omega) | (rw [ql]; omega)) (by first | omega | (rw [ql] at *; omega) | (rw [ql]; omega))))⟩ ?_
  refine gC ((List.length ((numQ x 2).2).1 : Int) - ((numQ x 2).2).2.1 < (numQ x 2).1) (fun hc2 => ?_) fun hc2 => ?_
  ·
   refine gS [(1, CE.call [] [] (AV.t (TV.agg [.s (st (((x.1, x.2.1, 3) : AL.Quill.ScanV).1)), .s (i6 (((x.1, x.2.1, 3) : AL.Quill.ScanV).2.1)), .s (i6 (((x.1, x.2.1, 3) : AL.Quill.ScanV).2.2))])) [])] [Spec Tryd.prog 67 [TV.agg [.s (st x.1), .s (i6 x.2.1), .s (i6 x.2.2)], tc (i6 3)] (ofH []) (AV.t (TV.agg [.s (st (((x.1, x.2.1, 3) : AL.Quill.ScanV).1)), .s (i6 (((x.1, x.2.1, 3) : AL.Quill.ScanV).2.1)), .s (i6 (((x.1, x.2.1, 3) : AL.Quill.ScanV).2.2))])) (ofH [])] 38 [(2, vc (st [])), (3, vp 3 0)] [(3, AObj.row [.s (st (((x.1, x.2.1, 3) : AL.Quill.ScanV).1)), .s (i6 (((x.1, x.2.1, 3) : AL.Quill.ScanV).2.1)), .s (i6 (((x.1, x.2.1, 3) : AL.Quill.ScanV).2.2))])] (fails_c x 3) ?_
   exact gT (AV.tup [tc (st []), TV.agg [.s (st (((x.1, x.2.1, 3) : AL.Quill.ScanV).1)), .s (i6 (((x.1, x.2.1, 3) : AL.Quill.ScanV).2.1)), .s (i6 (((x.1, x.2.1, 3) : AL.Quill.ScanV).2.2))]]) (by rw [show rowQ x = ([], ((x.1, x.2.1, 3) : AL.Quill.ScanV)) from by first | rw [row_1 (by assumption)] | rw [row_2 (by assumption) (by assumption)] | (rw [row_3 (by assumption) (by assumption)]; done) | (rw [row_3 (by assumption) (by assumption)]; simp only [num_len, *])])
  ·
   refine AMx.skip ?_
   refine gS [] [] 38 [(1, vp 1 0), (3, vp 3 0), (4, vc (u6 ((numQ x 2).1))), (5, vp 5 0), (6, vc (i6 (((numQ x 2).2).2.1)))] [(1, AObj.row [.s (st x.1), .s (i6 x.2.1), .s (i6 x.2.2)]), (3, AObj.row [.s (st []), .s (i6 0), .s (i6 0)]), (5, AObj.row [.s (st (((numQ x 2).2).1)), .s (i6 (((numQ x 2).2).2.1)), .s (i6 (((numQ x 2).2).2.2))])] trivial ?_
   refine gS [] [InR .i64 ((numQ x 2).1), InR .i64 ((((numQ x 2).2).2.1) + ((numQ x 2).1))] 38 [(1, vp 1 0), (3, vp 3 0), (5, vp 5 0), (6, vc (i6 (((numQ x 2).2).2.1)))] [(1, AObj.row [.s (st x.1), .s (i6 x.2.1), .s (i6 x.2.2)]), (3, AObj.row [.s (st []), .s (i6 0), .s (i6 0)]), (5, AObj.row [.s (st (((numQ x 2).2).1)), .s (i6 ((((numQ x 2).2).2.1) + ((numQ x 2).1))), .s (i6 (((numQ x 2).2).2.2))])] ⟨(show InR .i64 ((numQ x 2).1) from (inR64 (by first | omega | (rw [ql] at *; omega) | (rw [ql]; omega)) (by first | omega | (rw [ql] at *; omega) | (rw [ql]; omega)))), (show InR .i64 ((((numQ x 2).2).2.1) + ((numQ x 2).1)) from (inR64 (by first | omega | (rw [ql] at *; omega) | (rw [ql]; omega)) (by first | omega | (rw [ql] at *; omega) | (rw [ql]; omega))))⟩ ?_
   refine gY [] [(1, [1]), (4, [5]), (6, [5]), (8, [3])] [0 ≤ (((numQ x 2).2).2.1) + ((numQ x 2).1), (((numQ x 2).2).2.1) + ((numQ x 2).1) ≤ List.length x.1, 0 ≤ ((numQ x 2).2).2.1, ((numQ x 2).2).2.1 ≤ (((numQ x 2).2).2.1) + ((numQ x 2).1)] 38 [(2, vc (st (List.drop (((numQ x 2).2).2.1).toNat (List.take ((((numQ x 2).2).2.1) + ((numQ x 2).1)).toNat x.1)))), (3, vp 3 0)] [(3, AObj.row [.s (st (((numQ x 2).2).1)), .s (i6 ((((numQ x 2).2).2.1) + ((numQ x 2).1))), .s (i6 (((numQ x 2).2).2.2))])] mixed ⟨(show 0 ≤ (((numQ x 2).2).2.1) + ((numQ x 2).1) from (by first | omega | (rw [ql] at *; omega) | (rw [ql]; omega))), (show (((numQ x 2).2).2.1) + ((numQ x 2).1) ≤ List.length x.1 from (by first | omega | (rw [ql] at *; omega) | (rw [ql]; omega))), (show 0 ≤ ((numQ x 2).2).2.1 from (by first | omega | (rw [ql] at *; omega) | (rw [ql]; omega))), (show ((numQ x 2).2).2.1 ≤ (((numQ x 2).2).2.1) + ((numQ x 2).1) from (by first | omega | (rw [ql] at *; omega) | (rw [ql]; omega)))⟩ ?_
   exact gT (AV.tup [tc (st (List.drop (((numQ x 2).2).2.1).toNat (List.take ((((numQ x 2).2).2.1) + ((numQ x 2).1)).toNat x.1))), TV.agg [.s (st (((numQ x 2).2).1)), .s (i6 ((((numQ x 2).2).2.1) + ((numQ x 2).1))), .s (i6 (((numQ x 2).2).2.2))]]) (by rw [show rowQ x = (List.drop (((numQ x 2).2).2.1).toNat (List.take ((((numQ x 2).2).2.1) + ((numQ x 2).1)).toNat x.1), ((((numQ x 2).2).1, (((numQ x 2).2).2.1) + ((numQ x 2).1), ((numQ x 2).2).2.2) : AL.Quill.ScanV)) from by first | rw [row_1 (by assumption)] | rw [row_2 (by assumption) (by assumption)] | (rw [row_3 (by assumption) (by assumption)]; done) | (rw [row_3 (by assumption) (by assumption)]; simp only [num_len, *])])

end AL.Quill
