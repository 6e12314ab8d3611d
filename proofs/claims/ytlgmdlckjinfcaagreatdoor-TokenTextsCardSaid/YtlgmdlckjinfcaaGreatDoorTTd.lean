/- The proof library and the contracts that the law reaches: joined by a program. No condition. -/
import Derived.Test.YtlgmdlckjinfcaaGreatDoorTTc
namespace AL.Quill
open Go Go.Proofs AL
set_option linter.unusedVariables false
set_option linter.unusedSimpArgs false
theorem f89_body : Tryz.f89.body = some (.seq (.region 0 (rg Tryz.f89 0) false) (.seq (.seq (.region 1 (rg Tryz.f89 1) false) (.block 0 (.loop (.seq (.seq (.region 2 (rg Tryz.f89 2) false) (.cond (.tmp 12) (.skip) (.exit 0))) (.seq (.block 1 (.region 4 (rg Tryz.f89 4) false)) (.region 3 (rg Tryz.f89 3) false)))))) (.seq (.region 5 (rg Tryz.f89 5) false) (.ret)))) := by kernel_rfl
set_option maxRecDepth 100000 in
set_option maxHeartbeats 8000000 in
theorem lay_c (b : Bytes) (m n : Int) (hm : m = n) (h0 : 0 ≤ n) (h1 : n < 65536) (hb : b.length ≤ 1000000) (d d2 : Nat) (hd : Nat.beq d d2 = false) : Spec Tryz.prog 89 [.c (.own d), tc (i6 2), tc (u6 m)] (ofH [(d, AObj.grow 5 1 UInt8 0 rowU8 b)]) (vo d2) (ofH [(d2, AObj.grow 5 1 UInt8 0 rowU8 (b ++ be2 n))]) := by
 refine OwnIO.of_body (D := 0) Tryz.func89 f89_body (by kernel_rfl) Tryz.ntmps89 (by kernel_rfl) (by kernel_rfl) rfl rfl ?_ d d2 hd
 subst hm
 refine gS [] [] 23 [(0, vo 0), (1, vc (i6 2)), (2, vc (u6 m))] [(0, AObj.grow 5 1 UInt8 0 rowU8 b)] trivial ?_
 refine gQ ?_
 refine gS [] [InR .i64 (2 - 1), InR .i64 (8 * (2 - 1))] 23 [(0, vo 0), (2, vc (u6 m)), (7, vc (i6 (8 * (2 - 1))))] [(0, AObj.grow 5 1 UInt8 0 rowU8 b)] ⟨(inR64 (by omega) (by omega)), (show InR .i64 (8 * (2 - 1)) from (inR64 (by omega) (by omega)))⟩ ?_
 refine AMx.block ?_
 refine AMx.ent (s' := AS.lst 23 [(0, vo 0), (2, vc (u6 m)), (7, vc (i6 (8 * (2 - 1))))] [(0, AObj.grow 5 1 UInt8 0 rowU8 b)]) (ent_proj [0, 2, 7] [0]) ?_
 refine AMx.loop (fun mm ss => ∃ (j : Nat), (j ≤ 2) ∧ mm = 2 - j ∧ ss = AS.lst 23 [(0, vo 0), (2, vc (u6 m)), (7, vc (i6 (8 - 8 * (j : Int))))] [(0, AObj.grow 5 1 UInt8 0 rowU8 (b ++ List.take j (be2 m)))]) ⟨0, ?_, rfl, ?_⟩ ?_
 · omega
 · rw [show List.take 0 (be2 m) = [] from rfl, List.append_nil]; rfl
 rintro mm ss ⟨j, hI, rfl, rfl⟩
 refine gQ ?_
 refine gS [] [] 23 [(0, vo 0), (2, vc (u6 m)), (7, vc (i6 (8 - 8 * (j : Int)))), (12, vc (bo (decide (0 ≤ 8 - 8 * (j : Int)))))] [(0, AObj.grow 5 1 UInt8 0 rowU8 (b ++ List.take j (be2 m)))] trivial ?_
 refine gC (0 ≤ 8 - 8 * (j : Int)) (fun hc1 => ?_) fun hc1 => ?_
 ·
  refine AMx.skip ?_
  refine gQ ?_
  refine AMx.block ?_
  refine gR [(5, CE.obj (AObj.grow 5 1 UInt8 0 rowU8 [List.getD (be2 m) j 0])), (6, CE.obj (AObj.grow 5 1 UInt8 0 rowU8 ((b ++ List.take j (be2 m)) ++ [List.getD (be2 m) j 0])))] [(0 : Int) ≤ 8 - 8 * (j : Int), flat 1 rowU8 [List.getD (be2 m) j 0] = [.s (u8 (IntKind.wrap .u8 (Int.fdiv m (2 ^ (min (8 - 8 * (j : Int) : Int).toNat (IntKind.bits .u64))))))], List.length ([List.getD (be2 m) j 0] : List UInt8) = 1, AppC (flat 1 rowU8 [List.getD (be2 m) j 0]) (List.length ([List.getD (be2 m) j 0] : List UInt8)) 1 (AObj.grow 5 1 UInt8 0 rowU8 (b ++ List.take j (be2 m))) (AObj.grow 5 1 UInt8 0 rowU8 ((b ++ List.take j (be2 m)) ++ [List.getD (be2 m) j 0]))] 23 [(0, vo 21), (2, vc (u6 m)), (7, vc (i6 (8 - 8 * (j : Int))))] [(21, AObj.grow 5 1 UInt8 0 rowU8 ((b ++ List.take j (be2 m)) ++ [List.getD (be2 m) j 0]))] ⟨(by omega), (lay_at (by omega)), rfl, (⟨_, rfl, rfl, rfl, by simp only [List.length_append, List.length_cons, List.length_nil, List.length_take, be2_len]; omega, by simp only [maxLen, List.length_append, List.length_cons, List.length_nil, List.length_take, be2_len]; omega⟩)⟩ ?_
  refine AMx.blk ?_
  refine gR [] [InR .i64 ((8 - 8 * (j : Int)) - 8)] 23 [(0, vo 21), (2, vc (u6 m)), (7, vc (i6 ((8 - 8 * (j : Int)) - 8)))] [(21, AObj.grow 5 1 UInt8 0 rowU8 ((b ++ List.take j (be2 m)) ++ [List.getD (be2 m) j 0]))] (show InR .i64 ((8 - 8 * (j : Int)) - 8) from (inR64 (by omega) (by omega))) ?_
  refine AMx.ent_inv (s' := AS.lst 23 [(0, vo 0), (2, vc (u6 m)), (7, vc (i6 ((8 - 8 * (j : Int)) - 8)))] [(0, AObj.grow 5 1 UInt8 0 rowU8 ((b ++ List.take j (be2 m)) ++ [List.getD (be2 m) j 0]))]) (ent_swap 21 0 (by kernel_rfl) (by kernel_rfl)) ?_
  refine AMx.ent_inv (s' := AS.lst 23 [(0, vo 0), (2, vc (u6 m)), (7, vc (i6 ((8 - 8 * (j : Int)) - 8)))] [(0, AObj.grow 5 1 UInt8 0 rowU8 ((b ++ List.take j (be2 m)) ++ [List.getD (be2 m) j 0]))]) (ent_proj [0, 2, 7] [0]) ?_
  refine AMx.inv ⟨_, ?_, j + 1, ?_, rfl, ?_⟩
  rotate_left
  · omega
  · rw [lay_step b m (by omega), show (8 - 8 * (j : Int)) - 8 = 8 - 8 * ((j + 1 : Nat) : Int) by omega]
  · omega
 ·
  refine AMx.exit ?_
  refine AMx.code_exit ?_
  refine AMx.inv_exit ?_
  refine AMx.blk_exit ?_
  refine gS [] [] 23 [(6, vo 0)] [(0, AObj.grow 5 1 UInt8 0 rowU8 (b ++ List.take j (be2 m)))] trivial ?_
  refine AMx.ret ?_
  exact ⟨.inl rfl, 0, AObj.grow 5 1 UInt8 0 rowU8 (b ++ List.take j (be2 m)), by kernel_rfl, by kernel_rfl, by rw [lay_end b m (by omega)]⟩
theorem f124_body : Tryz.f124.body = some (.seq (.region 0 (rg Tryz.f124 0) false) (.seq (.region 1 (rg Tryz.f124 1) false) (.seq (.seq (.region 2 (rg Tryz.f124 2) false) (.cond (.tmp 19) (.seq (.region 3 (rg Tryz.f124 3) false) (.ret)) (.skip))) (.seq (.seq (.region 4 (rg Tryz.f124 4) false) (.block 0 (.loop (.seq (.seq (.region 5 (rg Tryz.f124 5) false) (.cond (.tmp 24) (.skip) (.exit 0))) (.seq (.block 1 (.seq (.region 7 (rg Tryz.f124 7) false) (.seq (.seq (.region 8 (rg Tryz.f124 8) false) (.block 2 (.loop (.seq (.seq (.region 9 (rg Tryz.f124 9) false) (.cond (.tmp 30) (.skip) (.exit 2))) (.seq (.block 3 (.region 11 (rg Tryz.f124 11) false)) (.region 10 (rg Tryz.f124 10) false)))))) (.region 12 (rg Tryz.f124 12) false)))) (.region 6 (rg Tryz.f124 6) false)))))) (.seq (.region 13 (rg Tryz.f124 13) false) (.ret)))))) := by kernel_rfl
set_option maxRecDepth 100000 in
set_option maxHeartbeats 8000000 in
theorem RNum_c (b : Bytes) (m n : Int) (hm : m = n) (h0 : 0 ≤ n) (h1 : n < 65536) (hb : b.length ≤ 1000000) : ∀ d, Spec Tryz.prog 124 [tc (SC.sl 1 UInt8 0 rowU8 b), tc (i6 2), tc (u6 m)] H0 (vo d) (ofH [(d, AObj.grow 5 1 UInt8 0 rowU8 (b ++ be2 n))]) := by
 refine Own.of_body Tryz.func124 f124_body (by kernel_rfl) Tryz.ntmps124 (by kernel_rfl) rfl ?_
 subst hm
 refine gS [] [] 42 [(0, vc (SC.sl 1 UInt8 0 rowU8 b)), (1, vc (i6 2)), (2, vc (u6 m))] [] trivial ?_
 refine gS [(0, CE.obj (AObj.grow 5 1 UInt8 0 rowU8 [])), (2, CE.obj (AObj.grow 5 1 UInt8 0 rowU8 ([] ++ b)))] [flat 1 rowU8 [] = [], List.length ([] : List UInt8) = 0, AppC (flat 1 rowU8 b) (List.length b) 1 (AObj.grow 5 1 UInt8 0 rowU8 []) (AObj.grow 5 1 UInt8 0 rowU8 ([] ++ b))] 42 [(1, vc (i6 2)), (2, vc (u6 m)), (7, vo 13)] [(13, AObj.grow 5 1 UInt8 0 rowU8 ([] ++ b))] ⟨rfl, rfl, (⟨_, rfl, rfl, rfl, by simp only [List.length_append, List.length_cons, List.length_nil, List.length_take, be2_len]; omega, by simp only [maxLen, List.length_append, List.length_cons, List.length_nil, List.length_take, be2_len]; omega⟩)⟩ ?_
 refine gQ ?_
 refine gS [] [(false = false) → allP [false = false], false = false → allP [false = false]] 42 [(1, vc (i6 2)), (2, vc (u6 m)), (7, vo 13), (19, vc (bo false))] [(13, AObj.grow 5 1 UInt8 0 rowU8 ([] ++ b))] ⟨(fun hp => hp), (fun hp2 => (by first | exact hp2 | exact ⟨hp, hp2⟩))⟩ ?_
 refine gBf ?_
 refine AMx.skip ?_
 refine gQ ?_
 refine gS [] [InR .i64 (2 - 1)] 42 [(2, vc (u6 m)), (7, vo 13), (8, vc (i6 (2 - 1)))] [(13, AObj.grow 5 1 UInt8 0 rowU8 ([] ++ b))] (show InR .i64 (2 - 1) from (inR64 (by first | omega | (have q := divs_rng h0 h1 k; first | omega | (simp only [List.length_append, List.length_cons, List.length_nil, List.length_take, be2_len]; omega)) | (simp only [List.length_append, List.length_cons, List.length_nil, List.length_take, be2_len]; omega)) (by first | omega | (have q := divs_rng h0 h1 k; first | omega | (simp only [List.length_append, List.length_cons, List.length_nil, List.length_take, be2_len]; omega)) | (simp only [List.length_append, List.length_cons, List.length_nil, List.length_take, be2_len]; omega)))) ?_
 refine AMx.block ?_
 refine AMx.ent (s' := AS.lst 42 [(2, vc (u6 m)), (7, vo 13), (8, vc (i6 (2 - 1)))] [(13, AObj.grow 5 1 UInt8 0 rowU8 ([] ++ b))]) (ent_proj [2, 7, 8] [13]) ?_
 refine AMx.loop (fun mm ss => ∃ (j : Nat), (j ≤ 2) ∧ mm = 2 - j ∧ ss = AS.lst 42 [(2, vc (u6 m)), (7, vo 13), (8, vc (i6 (1 - (j : Int))))] [(13, AObj.grow 5 1 UInt8 0 rowU8 (b ++ List.take j (be2 m)))]) ⟨0, ?_, rfl, ?_⟩ ?_
 · omega
 · rw [show List.take 0 (be2 m) = [] from rfl, List.append_nil]; rfl
 rintro mm ss ⟨j, hI, rfl, rfl⟩
 refine gQ ?_
 refine gS [] [] 42 [(2, vc (u6 m)), (7, vo 13), (8, vc (i6 (1 - (j : Int)))), (24, vc (bo (decide (0 ≤ 1 - (j : Int)))))] [(13, AObj.grow 5 1 UInt8 0 rowU8 (b ++ List.take j (be2 m)))] trivial ?_
 refine gC (0 ≤ 1 - (j : Int)) (fun hc2 => ?_) fun hc2 => ?_
 ·
  refine AMx.skip ?_
  refine gQ ?_
  refine AMx.block ?_
  refine gS [] [] 42 [(2, vc (u6 m)), (7, vo 13), (8, vc (i6 (1 - (j : Int)))), (9, vc (u6 m))] [(13, AObj.grow 5 1 UInt8 0 rowU8 (b ++ List.take j (be2 m)))] trivial ?_
  refine gQ ?_
  refine gS [] [] 42 [(2, vc (u6 m)), (7, vo 13), (8, vc (i6 (1 - (j : Int)))), (9, vc (u6 m)), (10, vc (i6 0))] [(13, AObj.grow 5 1 UInt8 0 rowU8 (b ++ List.take j (be2 m)))] trivial ?_
  refine AMx.block ?_
  refine AMx.ent (s' := AS.lst 42 [(2, vc (u6 m)), (7, vo 13), (8, vc (i6 (1 - (j : Int)))), (9, vc (u6 m)), (10, vc (i6 0))] [(13, AObj.grow 5 1 UInt8 0 rowU8 (b ++ List.take j (be2 m)))]) (ent_proj [2, 7, 8, 9, 10] [13]) ?_
  refine AMx.loop (fun mm ss => ∃ (k : Nat), ((k : Int) ≤ 1 - (j : Int)) ∧ mm = 2 - k ∧ ss = AS.lst 42 [(2, vc (u6 m)), (7, vo 13), (8, vc (i6 (1 - (j : Int)))), (9, vc (u6 (divs m k))), (10, vc (i6 (k : Int)))] [(13, AObj.grow 5 1 UInt8 0 rowU8 (b ++ List.take j (be2 m)))]) ⟨0, ?_, rfl, ?_⟩ ?_
  · omega
  · rfl
  rintro mm ss ⟨k, hI, rfl, rfl⟩
  refine gQ ?_
  refine gS [] [] 42 [(2, vc (u6 m)), (7, vo 13), (8, vc (i6 (1 - (j : Int)))), (9, vc (u6 (divs m k))), (10, vc (i6 (k : Int))), (30, vc (bo (decide ((k : Int) < 1 - (j : Int)))))] [(13, AObj.grow 5 1 UInt8 0 rowU8 (b ++ List.take j (be2 m)))] trivial ?_
  refine gC ((k : Int) < 1 - (j : Int)) (fun hc3 => ?_) fun hc3 => ?_
  ·
   refine AMx.skip ?_
   refine gQ ?_
   refine AMx.block ?_
   refine gR [] [(256 : Int) ≠ 0] 42 [(2, vc (u6 m)), (7, vo 13), (8, vc (i6 (1 - (j : Int)))), (9, vc (u6 (IntKind.wrap .u64 (Int.tdiv (divs m k) 256)))), (10, vc (i6 (k : Int)))] [(13, AObj.grow 5 1 UInt8 0 rowU8 (b ++ List.take j (be2 m)))] (show (256 : Int) ≠ 0 from (by first | omega | (have q := divs_rng h0 h1 k; first | omega | (simp only [List.length_append, List.length_cons, List.length_nil, List.length_take, be2_len]; omega)) | (simp only [List.length_append, List.length_cons, List.length_nil, List.length_take, be2_len]; omega))) ?_
   refine AMx.blk ?_
   refine gR [] [InR .i64 ((k : Int) + 1)] 42 [(2, vc (u6 m)), (7, vo 13), (8, vc (i6 (1 - (j : Int)))), (9, vc (u6 (IntKind.wrap .u64 (Int.tdiv (divs m k) 256)))), (10, vc (i6 ((k : Int) + 1)))] [(13, AObj.grow 5 1 UInt8 0 rowU8 (b ++ List.take j (be2 m)))] (show InR .i64 ((k : Int) + 1) from (inR64 (by first | omega | (have q := divs_rng h0 h1 k; first | omega | (simp only [List.length_append, List.length_cons, List.length_nil, List.length_take, be2_len]; omega)) | (simp only [List.length_append, List.length_cons, List.length_nil, List.length_take, be2_len]; omega)) (by first | omega | (have q := divs_rng h0 h1 k; first | omega | (simp only [List.length_append, List.length_cons, List.length_nil, List.length_take, be2_len]; omega)) | (simp only [List.length_append, List.length_cons, List.length_nil, List.length_take, be2_len]; omega)))) ?_
   refine AMx.ent_inv (s' := AS.lst 42 [(2, vc (u6 m)), (7, vo 13), (8, vc (i6 (1 - (j : Int)))), (9, vc (u6 (IntKind.wrap .u64 (Int.tdiv (divs m k) 256)))), (10, vc (i6 ((k : Int) + 1)))] [(13, AObj.grow 5 1 UInt8 0 rowU8 (b ++ List.take j (be2 m)))]) (ent_proj [2, 7, 8, 9, 10] [13]) ?_
   refine AMx.inv ⟨_, ?_, k + 1, ?_, rfl, ?_⟩
   rotate_left
   · omega
   · rw [show IntKind.wrap .u64 (Int.tdiv (divs m k) 256) = divs m (k + 1) from divs_step h0 h1 k]; rfl
   · omega
  ·
   refine AMx.exit ?_
   refine AMx.code_exit ?_
   refine AMx.inv_exit ?_
   refine AMx.blk_exit ?_
   refine gR [(4, CE.obj (AObj.grow 5 1 UInt8 0 rowU8 [List.getD (be2 m) j 0])), (5, CE.obj (AObj.grow 5 1 UInt8 0 rowU8 ((b ++ List.take j (be2 m)) ++ [List.getD (be2 m) j 0])))] [(256 : Int) ≠ 0, flat 1 rowU8 [List.getD (be2 m) j 0] = [.s (u8 (IntKind.wrap .u8 (Int.tmod (divs m k) 256)))], List.length ([List.getD (be2 m) j 0] : List UInt8) = 1, AppC (flat 1 rowU8 [List.getD (be2 m) j 0]) (List.length ([List.getD (be2 m) j 0] : List UInt8)) 1 (AObj.grow 5 1 UInt8 0 rowU8 (b ++ List.take j (be2 m))) (AObj.grow 5 1 UInt8 0 rowU8 ((b ++ List.take j (be2 m)) ++ [List.getD (be2 m) j 0]))] 42 [(2, vc (u6 m)), (7, vo 40), (8, vc (i6 (1 - (j : Int))))] [(40, AObj.grow 5 1 UInt8 0 rowU8 ((b ++ List.take j (be2 m)) ++ [List.getD (be2 m) j 0]))] ⟨(by first | omega | (have q := divs_rng h0 h1 k; first | omega | (simp only [List.length_append, List.length_cons, List.length_nil, List.length_take, be2_len]; omega)) | (simp only [List.length_append, List.length_cons, List.length_nil, List.length_take, be2_len]; omega)), (divs_at h0 h1 (by omega) (by omega)), rfl, (⟨_, rfl, rfl, rfl, by simp only [List.length_append, List.length_cons, List.length_nil, List.length_take, be2_len]; omega, by simp only [maxLen, List.length_append, List.length_cons, List.length_nil, List.length_take, be2_len]; omega⟩)⟩ ?_
   refine AMx.blk ?_
   refine gR [] [InR .i64 ((1 - (j : Int)) - 1)] 42 [(2, vc (u6 m)), (7, vo 40), (8, vc (i6 ((1 - (j : Int)) - 1)))] [(40, AObj.grow 5 1 UInt8 0 rowU8 ((b ++ List.take j (be2 m)) ++ [List.getD (be2 m) j 0]))] (show InR .i64 ((1 - (j : Int)) - 1) from (inR64 (by first | omega | (have q := divs_rng h0 h1 k; first | omega | (simp only [List.length_append, List.length_cons, List.length_nil, List.length_take, be2_len]; omega)) | (simp only [List.length_append, List.length_cons, List.length_nil, List.length_take, be2_len]; omega)) (by first | omega | (have q := divs_rng h0 h1 k; first | omega | (simp only [List.length_append, List.length_cons, List.length_nil, List.length_take, be2_len]; omega)) | (simp only [List.length_append, List.length_cons, List.length_nil, List.length_take, be2_len]; omega)))) ?_
   refine AMx.ent_inv (s' := AS.lst 42 [(2, vc (u6 m)), (7, vo 13), (8, vc (i6 ((1 - (j : Int)) - 1)))] [(13, AObj.grow 5 1 UInt8 0 rowU8 ((b ++ List.take j (be2 m)) ++ [List.getD (be2 m) j 0]))]) (ent_swap 40 13 (by kernel_rfl) (by kernel_rfl)) ?_
   refine AMx.ent_inv (s' := AS.lst 42 [(2, vc (u6 m)), (7, vo 13), (8, vc (i6 ((1 - (j : Int)) - 1)))] [(13, AObj.grow 5 1 UInt8 0 rowU8 ((b ++ List.take j (be2 m)) ++ [List.getD (be2 m) j 0]))]) (ent_proj [2, 7, 8] [13]) ?_
   refine AMx.inv ⟨_, ?_, j + 1, ?_, rfl, ?_⟩
   rotate_left
   · omega
   · rw [lay_step b m (by omega), show (1 - (j : Int)) - 1 = 1 - ((j + 1 : Nat) : Int) by omega]
   · omega
 ·
  refine AMx.exit ?_
  refine AMx.code_exit ?_
  refine AMx.inv_exit ?_
  refine AMx.blk_exit ?_
  refine gS [] [] 42 [(6, vo 13)] [(13, AObj.grow 5 1 UInt8 0 rowU8 (b ++ List.take j (be2 m)))] trivial ?_
  refine AMx.ret ?_
  exact ⟨.inl rfl, 13, AObj.grow 5 1 UInt8 0 rowU8 (b ++ List.take j (be2 m)), by kernel_rfl, by kernel_rfl, by rw [lay_end b m (by omega)]⟩
theorem f91_body : Tryz.f91.body = some (.seq (.region 0 (rg Tryz.f91 0) false) (.seq (.seq (.region 1 (rg Tryz.f91 1) false) (.cond (.tmp 8) (.seq (.region 2 (rg Tryz.f91 2) false) (.ret)) (.skip))) (.seq (.region 3 (rg Tryz.f91 3) false) (.ret)))) := by kernel_rfl
set_option maxRecDepth 100000 in
set_option maxHeartbeats 8000000 in
theorem RRow_c (b s : Bytes) (hs : s.length ≤ 65535) (hb : b.length ≤ 900000) : ∀ d, Spec Tryz.prog 91 [tc (SC.sl 1 UInt8 0 rowU8 b), tc (st s)] H0 (.tup [.c (.own d), tc (i6 0)]) (ofH [(d, AObj.grow 5 1 UInt8 0 rowU8 (b ++ rowB s))]) := by
 refine OwnT.of_body Tryz.func91 f91_body (by kernel_rfl) Tryz.ntmps91 (by kernel_rfl) rfl (by kernel_rfl) ?_
 refine gS [] [] 16 [(0, vc (SC.sl 1 UInt8 0 rowU8 b)), (1, vc (st s))] [] trivial ?_
 refine gQ ?_
 refine gS [] [] 16 [(0, vc (SC.sl 1 UInt8 0 rowU8 b)), (1, vc (st s)), (8, vc (bo (decide (65535 < (List.length s : Int)))))] [] trivial ?_
 refine gC (65535 < (List.length s : Int)) (fun hc1 => ?_) fun hc1 => ?_
 ·
  refine gS [] [] 16 [(4, vc (SC.nilsl)), (5, vc (i6 5))] [] trivial ?_
  exfalso
  first | omega | (simp only [List.length_append, List.length_cons, List.length_nil, List.length_take, be2_len]; omega)
 ·
  refine AMx.skip ?_
  refine gS [(4, CE.call [] [] (vo 13) [(13, AObj.grow 5 1 UInt8 0 rowU8 (b ++ be2 ((List.length s : Int))))]), (6, CE.obj (AObj.grow 5 1 UInt8 0 rowU8 ((b ++ be2 ((List.length s : Int))) ++ s)))] [Spec Tryz.prog 124 [tc (SC.sl 1 UInt8 0 rowU8 b), tc (i6 2), tc (u6 (IntKind.wrap .u64 ((List.length s : Int))))] (ofH []) (vo 13) (ofH [(13, AObj.grow 5 1 UInt8 0 rowU8 (b ++ be2 ((List.length s : Int))))]), AppC (flat 1 rowU8 s) (List.length s) 1 (AObj.grow 5 1 UInt8 0 rowU8 (b ++ be2 ((List.length s : Int)))) (AObj.grow 5 1 UInt8 0 rowU8 ((b ++ be2 ((List.length s : Int))) ++ s))] 16 [(4, vo 15), (5, vc (i6 0))] [(15, AObj.grow 5 1 UInt8 0 rowU8 ((b ++ be2 ((List.length s : Int))) ++ s))] ⟨(RNum_c b (IntKind.wrap .u64 ((List.length s : Int))) ((List.length s : Int)) (AL.Quill.wrap_64 (by omega) (by omega)) (by first | omega | (simp only [List.length_append, List.length_cons, List.length_nil, List.length_take, be2_len]; omega)) (by first | omega | (simp only [List.length_append, List.length_cons, List.length_nil, List.length_take, be2_len]; omega)) (by first | omega | (simp only [List.length_append, List.length_cons, List.length_nil, List.length_take, be2_len]; omega)) 13), (⟨_, rfl, rfl, rfl, by simp only [List.length_append, List.length_cons, List.length_nil, List.length_take, be2_len]; omega, by simp only [maxLen, List.length_append, List.length_cons, List.length_nil, List.length_take, be2_len]; omega⟩)⟩ ?_
  refine AMx.ret ?_
  exact ⟨.inl rfl, 15, AObj.grow 5 1 UInt8 0 rowU8 ((b ++ be2 ((List.length s : Int))) ++ s), AV.tup [TV.c (.own 15), tc (i6 0)], by kernel_rfl, rfl, by kernel_rfl, (by rw [List.append_assoc]; rfl)⟩
theorem f145_body : Tryz.f145.body = some (.seq (.region 0 (rg Tryz.f145 0) false) (.seq (.region 1 (rg Tryz.f145 1) false) (.ret))) := by kernel_rfl
set_option maxRecDepth 100000 in
set_option maxHeartbeats 8000000 in
theorem sized_c (n : Int) : Pure Tryz.prog 145 [tc (i6 n)] (vc (bo (decide (1 ≤ n) && decide (n ≤ 8)))) := by
 refine Pure.of_body Tryz.func145 f145_body (by kernel_rfl) Tryz.ntmps145 (by kernel_rfl) (by kernel_rfl) ?_
 refine gS [] [] 9 [(0, vc (i6 n))] [] trivial ?_
 refine gS [] [((decide (1 ≤ n)) = true) → allP [(decide (1 ≤ n)) = true], (decide (1 ≤ n)) = true → allP [(decide (1 ≤ n)) = true]] 9 [(2, vc (bo ((decide (1 ≤ n)) && (decide (n ≤ 8)))))] [] ⟨(fun hp => hp), (fun hp2 => (by first | exact hp2 | exact ⟨hp, hp2⟩))⟩ ?_
 exact gT (vc (bo ((decide (1 ≤ n)) && (decide (n ≤ 8))))) rfl
theorem f144_body : Tryz.f144.body = some (.seq (.region 0 (rg Tryz.f144 0) false) (.seq (.region 1 (rg Tryz.f144 1) false) (.ret))) := by kernel_rfl
set_option maxRecDepth 100000 in
set_option maxHeartbeats 8000000 in
theorem stands_c (x : ScanV) : Pure Tryz.prog 144 [TV.agg [.s (st x.1), .s (i6 x.2.1), .s (i6 x.2.2)]] (vc (bo (decide (0 ≤ x.2.1) && decide (x.2.1 ≤ (List.length x.1 : Int))))) := by
 refine Pure.of_body Tryz.func144 f144_body (by kernel_rfl) Tryz.ntmps144 (by kernel_rfl) (by kernel_rfl) ?_
 refine gS [] [] 14 [(1, vp 1 0)] [(1, AObj.row [.s (st x.1), .s (i6 x.2.1), .s (i6 x.2.2)])] trivial ?_
 refine gS [] [((decide (0 ≤ x.2.1)) = true) → allP [(decide (0 ≤ x.2.1)) = true], ((decide (0 ≤ x.2.1)) = true) → allP [(decide (0 ≤ x.2.1)) = true], ((decide (0 ≤ x.2.1)) = true) → allP [(decide (0 ≤ x.2.1)) = true], ((decide (0 ≤ x.2.1)) = true) → allP [(decide (0 ≤ x.2.1)) = true, (decide (0 ≤ x.2.1)) = true], (decide (0 ≤ x.2.1)) = true → allP [(decide (0 ≤ x.2.1)) = true]] 14 [(2, vc (bo ((decide (0 ≤ x.2.1)) && (decide (x.2.1 ≤ (List.length x.1 : Int))))))] [] ⟨(fun hp => hp), (fun hp => hp), (fun hp => hp), (fun hp => ⟨hp, hp⟩), (fun hp2 => (by first | exact hp2 | exact ⟨hp, hp2⟩))⟩ ?_
 exact gT (vc (bo ((decide (0 ≤ x.2.1)) && (decide (x.2.1 ≤ (List.length x.1 : Int)))))) rfl
theorem f150_body : Tryz.f150.body = some (.seq (.region 0 (rg Tryz.f150 0) false) (.seq (.region 1 (rg Tryz.f150 1) false) (.ret))) := by kernel_rfl
set_option maxRecDepth 100000 in
set_option maxHeartbeats 8000000 in
theorem RStands_c (x : ScanV) : Pure Tryz.prog 150 [TV.agg [.s (st x.1), .s (i6 x.2.1), .s (i6 x.2.2)]] (vc (bo (decide (0 ≤ x.2.1) && decide (x.2.1 ≤ (List.length x.1 : Int))))) := by
 refine Pure.of_body Tryz.func150 f150_body (by kernel_rfl) Tryz.ntmps150 (by kernel_rfl) (by kernel_rfl) ?_
 refine gS [] [] 14 [(1, vp 1 0)] [(1, AObj.row [.s (st x.1), .s (i6 x.2.1), .s (i6 x.2.2)])] trivial ?_
 refine gS [] [((decide (0 ≤ x.2.1)) = true) → allP [(decide (0 ≤ x.2.1)) = true], ((decide (0 ≤ x.2.1)) = true) → allP [(decide (0 ≤ x.2.1)) = true], ((decide (0 ≤ x.2.1)) = true) → allP [(decide (0 ≤ x.2.1)) = true], ((decide (0 ≤ x.2.1)) = true) → allP [(decide (0 ≤ x.2.1)) = true, (decide (0 ≤ x.2.1)) = true], (decide (0 ≤ x.2.1)) = true → allP [(decide (0 ≤ x.2.1)) = true]] 14 [(2, vc (bo ((decide (0 ≤ x.2.1)) && (decide (x.2.1 ≤ (List.length x.1 : Int))))))] [] ⟨(fun hp => hp), (fun hp => hp), (fun hp => hp), (fun hp => ⟨hp, hp⟩), (fun hp2 => (by first | exact hp2 | exact ⟨hp, hp2⟩))⟩ ?_
 exact gT (vc (bo ((decide (0 ≤ x.2.1)) && (decide (x.2.1 ≤ (List.length x.1 : Int)))))) rfl
theorem f92_body : Tryz.f92.body = some (.seq (.region 0 (rg Tryz.f92 0) false) (.seq (.region 1 (rg Tryz.f92 1) false) (.ret))) := by kernel_rfl
set_option maxRecDepth 100000 in
set_option maxHeartbeats 8000000 in
theorem left_c (x : ScanV) (h : 0 ≤ x.2.1 ∧ x.2.1 ≤ x.1.length) (hl : x.1.length ≤ 1000000) : Pure Tryz.prog 92 [TV.agg [.s (st x.1), .s (i6 x.2.1), .s (i6 x.2.2)]] (vc (i6 ((List.length x.1 : Int) - x.2.1))) := by
 refine Pure.of_body Tryz.func92 f92_body (by kernel_rfl) Tryz.ntmps92 (by kernel_rfl) (by kernel_rfl) ?_
 refine gS [] [] 9 [(1, vp 1 0)] [(1, AObj.row [.s (st x.1), .s (i6 x.2.1), .s (i6 x.2.2)])] trivial ?_
 refine gS [] [InR .i64 ((List.length x.1 : Int) - x.2.1)] 9 [(2, vc (i6 ((List.length x.1 : Int) - x.2.1)))] [] (show InR .i64 ((List.length x.1 : Int) - x.2.1) from (inR64 (by omega) (by omega))) ?_
 exact gT (vc (i6 ((List.length x.1 : Int) - x.2.1))) rfl
theorem f126_body : Tryz.f126.body = some (.seq (.region 0 (rg Tryz.f126 0) false) (.seq (.region 1 (rg Tryz.f126 1) false) (.seq (.region 2 (rg Tryz.f126 2) false) (.ret)))) := by kernel_rfl
set_option maxRecDepth 100000 in
set_option maxHeartbeats 8000000 in
theorem fails_c (x : ScanV) (e : Int) : Pure Tryz.prog 126 [TV.agg [.s (st x.1), .s (i6 x.2.1), .s (i6 x.2.2)], tc (i6 e)] (AV.t (TV.agg [.s (st (((x.1, x.2.1, e) : ScanV).1)), .s (i6 (((x.1, x.2.1, e) : ScanV).2.1)), .s (i6 (((x.1, x.2.1, e) : ScanV).2.2))])) := by
 refine Pure.of_body Tryz.func126 f126_body (by kernel_rfl) Tryz.ntmps126 (by kernel_rfl) (by kernel_rfl) ?_
 refine gS [] [] 8 [(1, vc (i6 e)), (2, vp 2 0), (4, vp 4 0)] [(2, AObj.row [.s (st x.1), .s (i6 x.2.1), .s (i6 x.2.2)]), (4, AObj.row [.s (st []), .s (i6 0), .s (i6 0)])] trivial ?_
 refine gS [] [] 8 [(2, vp 2 0), (4, vp 4 0)] [(2, AObj.row [.s (st x.1), .s (i6 x.2.1), .s (i6 e)]), (4, AObj.row [.s (st []), .s (i6 0), .s (i6 0)])] trivial ?_
 refine gS [] [] 8 [(4, vp 4 0)] [(4, AObj.row [.s (st x.1), .s (i6 x.2.1), .s (i6 e)])] trivial ?_
 exact gT (AV.t (TV.agg [.s (st x.1), .s (i6 x.2.1), .s (i6 e)])) rfl
theorem f130_body : Tryz.f130.body = some (.seq (.region 0 (rg Tryz.f130 0) false) (.seq (.region 1 (rg Tryz.f130 1) false) (.ret))) := by kernel_rfl
set_option maxRecDepth 100000 in
set_option maxHeartbeats 8000000 in
theorem bad_c (x : ScanV) (e : Int) : Pure Tryz.prog 130 [TV.agg [.s (st x.1), .s (i6 x.2.1), .s (i6 x.2.2)], tc (i6 e)] (AV.t (TV.agg [.s (st (((x.1, x.2.1, e) : ScanV).1)), .s (i6 (((x.1, x.2.1, e) : ScanV).2.1)), .s (i6 (((x.1, x.2.1, e) : ScanV).2.2))])) := by
 refine Pure.of_body Tryz.func130 f130_body (by kernel_rfl) Tryz.ntmps130 (by kernel_rfl) (by kernel_rfl) ?_
 refine gS [] [] 11 [(1, vc (i6 e)), (2, vp 2 0), (4, vp 4 0)] [(2, AObj.row [.s (st x.1), .s (i6 x.2.1), .s (i6 x.2.2)]), (4, AObj.row [.s (st []), .s (i6 0), .s (i6 0)])] trivial ?_
 refine gS [] [] 11 [(4, vp 4 0)] [(4, AObj.row [.s (st x.1), .s (i6 x.2.1), .s (i6 e)])] trivial ?_
 exact gT (AV.t (TV.agg [.s (st x.1), .s (i6 x.2.1), .s (i6 e)])) rfl
theorem f125_body : Tryz.f125.body = some (.seq (.region 0 (rg Tryz.f125 0) false) (.seq (.block 0 (.seq (.region 1 (rg Tryz.f125 1) false) (.cond (.tmp 9) (.seq (.region 2 (rg Tryz.f125 2) true) (.ret)) (.seq (.region 3 (rg Tryz.f125 3) false) (.cond (.tmp 14) (.seq (.region 4 (rg Tryz.f125 4) false) (.ret)) (.seq (.region 5 (rg Tryz.f125 5) false) (.cond (.tmp 25) (.seq (.region 6 (rg Tryz.f125 6) false) (.ret)) (.skip)))))))) (.seq (.region 7 (rg Tryz.f125 7) false) (.seq (.seq (.region 8 (rg Tryz.f125 8) false) (.block 1 (.loop (.seq (.region 9 (rg Tryz.f125 9) false) (.seq (.cond (.tmp 44) (.skip) (.exit 1)) (.seq (.block 2 (.seq (.region 10 (rg Tryz.f125 10) false) (.region 11 (rg Tryz.f125 11) false))) (.region 12 (rg Tryz.f125 12) false))))))) (.seq (.region 13 (rg Tryz.f125 13) false) (.seq (.region 14 (rg Tryz.f125 14) true) (.ret))))))) := by kernel_rfl
set_option maxRecDepth 100000 in
set_option maxHeartbeats 8000000 in
theorem Num_c (x : ScanV) (n : Int) (h1 : 1 ≤ n) (h2 : n ≤ 2) (hx : x.1.length ≤ 1000000) : Pure Tryz.prog 125 [TV.agg [.s (st x.1), .s (i6 x.2.1), .s (i6 x.2.2)], tc (i6 n)] (AV.tup [tc (u6 ((numQ x n).1)), TV.agg [.s (st (((numQ x n).2).1)), .s (i6 (((numQ x n).2).2.1)), .s (i6 (((numQ x n).2).2.2))]]) := by
 refine Pure.of_body Tryz.func125 f125_body (by kernel_rfl) Tryz.ntmps125 (by kernel_rfl) (by kernel_rfl) ?_
 refine gS [] [] 60 [(1, vc (i6 n)), (2, vp 2 0), (5, vp 5 0)] [(2, AObj.row [.s (st x.1), .s (i6 x.2.1), .s (i6 x.2.2)]), (5, AObj.row [.s (st []), .s (i6 0), .s (i6 0)])] trivial ?_
 refine gQ ?_
 refine AMx.block ?_
 refine gS [] [] 60 [(1, vc (i6 n)), (2, vp 2 0), (5, vp 5 0), (9, vc (bo (!decide (x.2.2 = 0))))] [(2, AObj.row [.s (st x.1), .s (i6 x.2.1), .s (i6 x.2.2)]), (5, AObj.row [.s (st []), .s (i6 0), .s (i6 0)])] trivial ?_
 refine gN (x.2.2 = 0) (fun hc1 => ?_) fun hc1 => ?_
 ·
  refine gY [] [(0, [2]), (2, [5])] [] 60 [(4, vc (u6 0)), (5, vp 5 0)] [(5, AObj.row [.s (st x.1), .s (i6 x.2.1), .s (i6 x.2.2)])] mixed trivial ?_
  exact gT (AV.tup [tc (u6 0), TV.agg [.s (st x.1), .s (i6 x.2.1), .s (i6 x.2.2)]]) (by rw [show numQ x n = (0, x) from by first | rw [num_1 (by assumption)] | rw [num_2 (by assumption) (by omega)] | rw [num_3 (by assumption) (by omega) (by assumption)] | (rw [num_4 (by assumption) (by omega) (by assumption)]; done) | (rw [num_4 (by assumption) (by omega) (by assumption)]; simp_all)])
 ·
  refine gS [(1, CE.call [] [] (vc (bo (decide (0 ≤ x.2.1) && decide (x.2.1 ≤ (List.length x.1 : Int))))) []), (5, CE.call [] [] (vc (bo (decide ((1 : Int) ≤ n) && decide ((n : Int) ≤ 8)))) [])] [Spec Tryz.prog 144 [TV.agg [.s (st x.1), .s (i6 x.2.1), .s (i6 x.2.2)]] (ofH []) (vc (bo (decide (0 ≤ x.2.1) && decide (x.2.1 ≤ (List.length x.1 : Int))))) (ofH []), ((!(decide (0 ≤ x.2.1) && decide (x.2.1 ≤ (List.length x.1 : Int)))) = false) → allP [(!(decide (0 ≤ x.2.1) && decide (x.2.1 ≤ (List.length x.1 : Int)))) = false, Spec Tryz.prog 145 [tc (i6 n)] (ofH []) (vc (bo (decide ((1 : Int) ≤ n) && decide ((n : Int) ≤ 8)))) (ofH [])], ((!(decide (0 ≤ x.2.1) && decide (x.2.1 ≤ (List.length x.1 : Int)))) = false) → allP [(!(decide (0 ≤ x.2.1) && decide (x.2.1 ≤ (List.length x.1 : Int)))) = false], (!(decide (0 ≤ x.2.1) && decide (x.2.1 ≤ (List.length x.1 : Int)))) = false → allP [(!(decide (0 ≤ x.2.1) && decide (x.2.1 ≤ (List.length x.1 : Int)))) = false]] 60 [(1, vc (i6 n)), (2, vp 2 0), (5, vp 5 0), (14, vc (bo ((!(decide (0 ≤ x.2.1) && decide (x.2.1 ≤ (List.length x.1 : Int)))) || (!(decide ((1 : Int) ≤ n) && decide ((n : Int) ≤ 8))))))] [(2, AObj.row [.s (st x.1), .s (i6 x.2.1), .s (i6 x.2.2)]), (5, AObj.row [.s (st []), .s (i6 0), .s (i6 0)])] ⟨(stands_c x), (fun hp => by have hq := hp; (try simp only [xT, xF, xA, xO, xB, xP, xN, xM, Bool.not_eq_true, Bool.not_eq_false] at hq); exact ⟨hp, (sized_c n)⟩), (fun hp => hp), (fun hp2 => (by first | exact hp2 | exact ⟨hp, hp2⟩))⟩ ?_
  refine gB (((!(decide (0 ≤ x.2.1) && decide (x.2.1 ≤ (List.length x.1 : Int)))) || (!(decide ((1 : Int) ≤ n) && decide ((n : Int) ≤ 8))))) (fun hc2 => ?_) fun hc2 => ?_
  ·
   try simp only [xT, xF, xA, xB, xO, xP, xN, xM] at hc2
   refine gS [(1, CE.call [] [] (AV.t (TV.agg [.s (st (((x.1, x.2.1, 2) : AL.Quill.ScanV).1)), .s (i6 (((x.1, x.2.1, 2) : AL.Quill.ScanV).2.1)), .s (i6 (((x.1, x.2.1, 2) : AL.Quill.ScanV).2.2))])) [])] [Spec Tryz.prog 126 [TV.agg [.s (st x.1), .s (i6 x.2.1), .s (i6 x.2.2)], tc (i6 2)] (ofH []) (AV.t (TV.agg [.s (st (((x.1, x.2.1, 2) : AL.Quill.ScanV).1)), .s (i6 (((x.1, x.2.1, 2) : AL.Quill.ScanV).2.1)), .s (i6 (((x.1, x.2.1, 2) : AL.Quill.ScanV).2.2))])) (ofH [])] 60 [(4, vc (u6 0)), (5, vp 5 0)] [(5, AObj.row [.s (st (((x.1, x.2.1, 2) : AL.Quill.ScanV).1)), .s (i6 (((x.1, x.2.1, 2) : AL.Quill.ScanV).2.1)), .s (i6 (((x.1, x.2.1, 2) : AL.Quill.ScanV).2.2))])] (fails_c x 2) ?_
   exact gT (AV.tup [tc (u6 0), TV.agg [.s (st (((x.1, x.2.1, 2) : AL.Quill.ScanV).1)), .s (i6 (((x.1, x.2.1, 2) : AL.Quill.ScanV).2.1)), .s (i6 (((x.1, x.2.1, 2) : AL.Quill.ScanV).2.2))]]) (by rw [show numQ x n = (0, ((x.1, x.2.1, 2) : AL.Quill.ScanV)) from by first | rw [num_1 (by assumption)] | rw [num_2 (by assumption) (by omega)] | rw [num_3 (by assumption) (by omega) (by assumption)] | (rw [num_4 (by assumption) (by omega) (by assumption)]; done) | (rw [num_4 (by assumption) (by omega) (by assumption)]; simp_all)])
  ·
   try simp only [xT, xF, xA, xB, xO, xP, xN, xM] at hc2
   refine gS [(1, CE.call [] [] (vc (i6 ((List.length x.1 : Int) - x.2.1))) [])] [Spec Tryz.prog 92 [TV.agg [.s (st x.1), .s (i6 x.2.1), .s (i6 x.2.2)]] (ofH []) (vc (i6 ((List.length x.1 : Int) - x.2.1))) (ofH [])] 60 [(1, vc (i6 n)), (2, vp 2 0), (5, vp 5 0), (25, vc (bo (decide ((List.length x.1 : Int) - x.2.1 < n))))] [(2, AObj.row [.s (st x.1), .s (i6 x.2.1), .s (i6 x.2.2)]), (5, AObj.row [.s (st []), .s (i6 0), .s (i6 0)])] (left_c x (by first | omega | (simp only [List.length_take, List.length_drop] at *; omega)) (by first | omega | (simp only [List.length_take, List.length_drop] at *; omega))) ?_
   refine gC ((List.length x.1 : Int) - x.2.1 < n) (fun hc3 => ?_) fun hc3 => ?_
   ·
    refine gS [(1, CE.call [] [] (AV.t (TV.agg [.s (st (((x.1, x.2.1, 3) : AL.Quill.ScanV).1)), .s (i6 (((x.1, x.2.1, 3) : AL.Quill.ScanV).2.1)), .s (i6 (((x.1, x.2.1, 3) : AL.Quill.ScanV).2.2))])) [])] [Spec Tryz.prog 126 [TV.agg [.s (st x.1), .s (i6 x.2.1), .s (i6 x.2.2)], tc (i6 3)] (ofH []) (AV.t (TV.agg [.s (st (((x.1, x.2.1, 3) : AL.Quill.ScanV).1)), .s (i6 (((x.1, x.2.1, 3) : AL.Quill.ScanV).2.1)), .s (i6 (((x.1, x.2.1, 3) : AL.Quill.ScanV).2.2))])) (ofH [])] 60 [(4, vc (u6 0)), (5, vp 5 0)] [(5, AObj.row [.s (st (((x.1, x.2.1, 3) : AL.Quill.ScanV).1)), .s (i6 (((x.1, x.2.1, 3) : AL.Quill.ScanV).2.1)), .s (i6 (((x.1, x.2.1, 3) : AL.Quill.ScanV).2.2))])] (fails_c x 3) ?_
    exact gT (AV.tup [tc (u6 0), TV.agg [.s (st (((x.1, x.2.1, 3) : AL.Quill.ScanV).1)), .s (i6 (((x.1, x.2.1, 3) : AL.Quill.ScanV).2.1)), .s (i6 (((x.1, x.2.1, 3) : AL.Quill.ScanV).2.2))]]) (by rw [show numQ x n = (0, ((x.1, x.2.1, 3) : AL.Quill.ScanV)) from by first | rw [num_1 (by assumption)] | rw [num_2 (by assumption) (by omega)] | rw [num_3 (by assumption) (by omega) (by assumption)] | (rw [num_4 (by assumption) (by omega) (by assumption)]; done) | (rw [num_4 (by assumption) (by omega) (by assumption)]; simp_all)])
   ·
    refine AMx.skip ?_
    refine AMx.blk ?_
    refine gS [] [] 60 [(1, vc (i6 n)), (2, vp 2 0), (5, vp 5 0), (6, vc (u6 0))] [(2, AObj.row [.s (st x.1), .s (i6 x.2.1), .s (i6 x.2.2)]), (5, AObj.row [.s (st []), .s (i6 0), .s (i6 0)])] trivial ?_
    refine gQ ?_
    refine gS [] [InR .i64 (x.2.1 + n), 0 ≤ x.2.1 + n, x.2.1 + n ≤ List.length x.1, 0 ≤ x.2.1, x.2.1 ≤ x.2.1 + n] 60 [(1, vc (i6 n)), (2, vp 2 0), (5, vp 5 0), (6, vc (u6 0)), (41, vc (SC.sl 1 UInt8 0 rowU8 (List.drop (x.2.1).toNat (List.take (x.2.1 + n).toNat x.1)))), (42, vc (i6 (List.length (List.drop (x.2.1).toNat (List.take (x.2.1 + n).toNat x.1) : List UInt8) : Int))), (43, vc (i6 0))] [(2, AObj.row [.s (st x.1), .s (i6 x.2.1), .s (i6 x.2.2)]), (5, AObj.row [.s (st []), .s (i6 0), .s (i6 0)])] ⟨(inR64 (by first | omega | (simp only [List.length_take, List.length_drop] at *; omega)) (by first | omega | (simp only [List.length_take, List.length_drop] at *; omega))), (by first | omega | (simp only [List.length_take, List.length_drop] at *; omega)), (by first | omega | (simp only [List.length_take, List.length_drop] at *; omega)), (by first | omega | (simp only [List.length_take, List.length_drop] at *; omega)), (show x.2.1 ≤ x.2.1 + n from (by first | omega | (simp only [List.length_take, List.length_drop] at *; omega)))⟩ ?_
    refine AMx.block ?_
    refine AMx.ent (s' := AS.lst 60 [(1, vc (i6 n)), (2, vp 2 0), (5, vp 5 0), (6, vc (u6 0)), (41, vc (SC.sl 1 UInt8 0 rowU8 (List.drop (x.2.1).toNat (List.take (x.2.1 + n).toNat x.1)))), (42, vc (i6 (List.length (List.drop (x.2.1).toNat (List.take (x.2.1 + n).toNat x.1) : List UInt8) : Int))), (43, vc (i6 0))] [(2, AObj.row [.s (st x.1), .s (i6 x.2.1), .s (i6 x.2.2)]), (5, AObj.row [.s (st []), .s (i6 0), .s (i6 0)])]) (ent_proj [1, 2, 5, 6, 41, 42, 43] [2, 5]) ?_
    refine AMx.loop (fun mm ss => ∃ (k : Nat), (k ≤ List.length (List.drop (x.2.1).toNat (List.take (x.2.1 + n).toNat x.1))) ∧ mm = List.length (List.drop (x.2.1).toNat (List.take (x.2.1 + n).toNat x.1)) - k ∧ ss = AS.lst 60 [(1, vc (i6 n)), (2, vp 2 0), (5, vp 5 0), (6, vc (u6 (bigS (List.take k (List.drop (x.2.1).toNat (List.take (x.2.1 + n).toNat x.1)))))), (41, vc (SC.sl 1 UInt8 0 rowU8 (List.drop (x.2.1).toNat (List.take (x.2.1 + n).toNat x.1)))), (42, vc (i6 (List.length (List.drop (x.2.1).toNat (List.take (x.2.1 + n).toNat x.1) : List UInt8) : Int))), (43, vc (i6 (k : Int)))] [(2, AObj.row [.s (st x.1), .s (i6 x.2.1), .s (i6 x.2.2)]), (5, AObj.row [.s (st []), .s (i6 0), .s (i6 0)])]) ⟨0, ?_, rfl, ?_⟩ ?_
    · omega
    · rfl
    rintro mm ss ⟨k, hI, rfl, rfl⟩
    refine gS [] [] 60 [(1, vc (i6 n)), (2, vp 2 0), (5, vp 5 0), (6, vc (u6 (bigS (List.take k (List.drop (x.2.1).toNat (List.take (x.2.1 + n).toNat x.1)))))), (41, vc (SC.sl 1 UInt8 0 rowU8 (List.drop (x.2.1).toNat (List.take (x.2.1 + n).toNat x.1)))), (42, vc (i6 (List.length (List.drop (x.2.1).toNat (List.take (x.2.1 + n).toNat x.1) : List UInt8) : Int))), (43, vc (i6 (k : Int))), (44, vc (bo (decide ((k : Int) < (List.length (List.drop (x.2.1).toNat (List.take (x.2.1 + n).toNat x.1) : List UInt8) : Int)))))] [(2, AObj.row [.s (st x.1), .s (i6 x.2.1), .s (i6 x.2.2)]), (5, AObj.row [.s (st []), .s (i6 0), .s (i6 0)])] trivial ?_
    refine gQ ?_
    refine gC ((k : Int) < (List.length (List.drop (x.2.1).toNat (List.take (x.2.1 + n).toNat x.1) : List UInt8) : Int)) (fun hc4 => ?_) fun hc4 => ?_
    ·
     refine AMx.skip ?_
     refine gQ ?_
     refine AMx.block ?_
     refine gS [] [(0 : Int) ≤ (k : Int), (k : Int) < List.length (List.drop (x.2.1).toNat (List.take (x.2.1 + n).toNat x.1) : List UInt8)] 60 [(1, vc (i6 n)), (2, vp 2 0), (5, vp 5 0), (6, vc (u6 (bigS (List.take k (List.drop (x.2.1).toNat (List.take (x.2.1 + n).toNat x.1)))))), (8, vc (u8 ((List.getD (List.drop (x.2.1).toNat (List.take (x.2.1 + n).toNat x.1)) k 0).toNat : Int))), (41, vc (SC.sl 1 UInt8 0 rowU8 (List.drop (x.2.1).toNat (List.take (x.2.1 + n).toNat x.1)))), (42, vc (i6 (List.length (List.drop (x.2.1).toNat (List.take (x.2.1 + n).toNat x.1) : List UInt8) : Int))), (43, vc (i6 (k : Int)))] [(2, AObj.row [.s (st x.1), .s (i6 x.2.1), .s (i6 x.2.2)]), (5, AObj.row [.s (st []), .s (i6 0), .s (i6 0)])] ⟨(by first | omega | (simp only [List.length_take, List.length_drop] at *; omega)), (show (k : Int) < List.length (List.drop (x.2.1).toNat (List.take (x.2.1 + n).toNat x.1) : List UInt8) from (by first | omega | (simp only [List.length_take, List.length_drop] at *; omega)))⟩ ?_
     refine gR [] [(0 : Int) ≤ 8] 60 [(1, vc (i6 n)), (2, vp 2 0), (5, vp 5 0), (6, vc (u6 (IntKind.wrap .u64 ((BitVec.ofInt 64 (IntKind.wrap .u64 ((bigS (List.take k (List.drop (x.2.1).toNat (List.take (x.2.1 + n).toNat x.1)))) * 2 ^ (min (8 : Int).toNat (IntKind.bits .u64)))) ||| BitVec.ofInt 64 ((List.getD (List.drop (x.2.1).toNat (List.take (x.2.1 + n).toNat x.1)) k 0).toNat : Int)).toNat)))), (41, vc (SC.sl 1 UInt8 0 rowU8 (List.drop (x.2.1).toNat (List.take (x.2.1 + n).toNat x.1)))), (42, vc (i6 (List.length (List.drop (x.2.1).toNat (List.take (x.2.1 + n).toNat x.1) : List UInt8) : Int))), (43, vc (i6 (k : Int)))] [(2, AObj.row [.s (st x.1), .s (i6 x.2.1), .s (i6 x.2.2)]), (5, AObj.row [.s (st []), .s (i6 0), .s (i6 0)])] (show (0 : Int) ≤ 8 from (by first | omega | (simp only [List.length_take, List.length_drop] at *; omega))) ?_
     refine AMx.blk ?_
     refine gR [] [InR .i64 ((k : Int) + 1)] 60 [(1, vc (i6 n)), (2, vp 2 0), (5, vp 5 0), (6, vc (u6 (IntKind.wrap .u64 ((BitVec.ofInt 64 (IntKind.wrap .u64 ((bigS (List.take k (List.drop (x.2.1).toNat (List.take (x.2.1 + n).toNat x.1)))) * 2 ^ (min (8 : Int).toNat (IntKind.bits .u64)))) ||| BitVec.ofInt 64 ((List.getD (List.drop (x.2.1).toNat (List.take (x.2.1 + n).toNat x.1)) k 0).toNat : Int)).toNat)))), (41, vc (SC.sl 1 UInt8 0 rowU8 (List.drop (x.2.1).toNat (List.take (x.2.1 + n).toNat x.1)))), (42, vc (i6 (List.length (List.drop (x.2.1).toNat (List.take (x.2.1 + n).toNat x.1) : List UInt8) : Int))), (43, vc (i6 ((k : Int) + 1)))] [(2, AObj.row [.s (st x.1), .s (i6 x.2.1), .s (i6 x.2.2)]), (5, AObj.row [.s (st []), .s (i6 0), .s (i6 0)])] (show InR .i64 ((k : Int) + 1) from (inR64 (by first | omega | (simp only [List.length_take, List.length_drop] at *; omega)) (by first | omega | (simp only [List.length_take, List.length_drop] at *; omega)))) ?_
     refine AMx.ent_inv (s' := AS.lst 60 [(1, vc (i6 n)), (2, vp 2 0), (5, vp 5 0), (6, vc (u6 (IntKind.wrap .u64 ((BitVec.ofInt 64 (IntKind.wrap .u64 ((bigS (List.take k (List.drop (x.2.1).toNat (List.take (x.2.1 + n).toNat x.1)))) * 2 ^ (min (8 : Int).toNat (IntKind.bits .u64)))) ||| BitVec.ofInt 64 ((List.getD (List.drop (x.2.1).toNat (List.take (x.2.1 + n).toNat x.1)) k 0).toNat : Int)).toNat)))), (41, vc (SC.sl 1 UInt8 0 rowU8 (List.drop (x.2.1).toNat (List.take (x.2.1 + n).toNat x.1)))), (42, vc (i6 (List.length (List.drop (x.2.1).toNat (List.take (x.2.1 + n).toNat x.1) : List UInt8) : Int))), (43, vc (i6 ((k : Int) + 1)))] [(2, AObj.row [.s (st x.1), .s (i6 x.2.1), .s (i6 x.2.2)]), (5, AObj.row [.s (st []), .s (i6 0), .s (i6 0)])]) (ent_proj [1, 2, 5, 6, 41, 42, 43] [2, 5]) ?_
     refine AMx.inv ⟨_, ?_, k + 1, ?_, rfl, ?_⟩
     rotate_left
     · omega
     · have z1 := big_2 (l := List.take k (List.drop (x.2.1).toNat (List.take (x.2.1 + n).toNat x.1))) (by simp only [List.length_take, List.length_drop]; omega); rw [or_big z1.1 (by omega) (Rune.byte_lt _ _), ← big_step _ k (by omega)]; rfl
     · omega
    ·
     refine AMx.exit ?_
     refine AMx.code_exit ?_
     refine AMx.inv_exit ?_
     refine AMx.blk_exit ?_
     rw [show List.take k (List.drop (x.2.1).toNat (List.take (x.2.1 + n).toNat x.1)) = List.drop (x.2.1).toNat (List.take (x.2.1 + n).toNat x.1) from List.take_of_length_le (by simp only [List.length_take, List.length_drop] at *; omega)]
     refine gS [] [InR .i64 (x.2.1 + n)] 60 [(2, vp 2 0), (5, vp 5 0), (6, vc (u6 (bigS (List.drop (x.2.1).toNat (List.take (x.2.1 + n).toNat x.1)))))] [(2, AObj.row [.s (st x.1), .s (i6 (x.2.1 + n)), .s (i6 x.2.2)]), (5, AObj.row [.s (st []), .s (i6 0), .s (i6 0)])] (show InR .i64 (x.2.1 + n) from (inR64 (by first | omega | (simp only [List.length_take, List.length_drop] at *; omega)) (by first | omega | (simp only [List.length_take, List.length_drop] at *; omega)))) ?_
     refine gY [] [(1, [2]), (3, [5])] [] 60 [(4, vc (u6 (bigS (List.drop (x.2.1).toNat (List.take (x.2.1 + n).toNat x.1))))), (5, vp 5 0)] [(5, AObj.row [.s (st x.1), .s (i6 (x.2.1 + n)), .s (i6 x.2.2)])] mixed trivial ?_
     exact gT (AV.tup [tc (u6 (bigS (List.drop (x.2.1).toNat (List.take (x.2.1 + n).toNat x.1)))), TV.agg [.s (st x.1), .s (i6 (x.2.1 + n)), .s (i6 x.2.2)]]) (by rw [show numQ x n = (bigS (List.drop (x.2.1).toNat (List.take (x.2.1 + n).toNat x.1)), ((x.1, x.2.1 + n, x.2.2) : AL.Quill.ScanV)) from by first | rw [num_1 (by assumption)] | rw [num_2 (by assumption) (by omega)] | rw [num_3 (by assumption) (by omega) (by assumption)] | (rw [num_4 (by assumption) (by omega) (by assumption)]; done) | (rw [num_4 (by assumption) (by omega) (by assumption)]; simp_all)])
theorem f129_body : Tryz.f129.body = some (.seq (.region 0 (rg Tryz.f129 0) false) (.seq (.seq (.region 1 (rg Tryz.f129 1) false) (.cond (.tmp 10) (.seq (.region 2 (rg Tryz.f129 2) true) (.ret)) (.skip))) (.seq (.seq (.region 3 (rg Tryz.f129 3) false) (.cond (.tmp 22) (.seq (.region 4 (rg Tryz.f129 4) false) (.ret)) (.skip))) (.seq (.seq (.region 5 (rg Tryz.f129 5) false) (.cond (.tmp 32) (.seq (.region 6 (rg Tryz.f129 6) false) (.ret)) (.skip))) (.seq (.region 7 (rg Tryz.f129 7) false) (.seq (.seq (.region 8 (rg Tryz.f129 8) false) (.block 0 (.loop (.seq (.seq (.region 9 (rg Tryz.f129 9) false) (.cond (.tmp 37) (.skip) (.exit 0))) (.seq (.block 1 (.region 11 (rg Tryz.f129 11) false)) (.region 10 (rg Tryz.f129 10) false)))))) (.seq (.region 12 (rg Tryz.f129 12) true) (.ret)))))))) := by kernel_rfl
set_option maxRecDepth 100000 in
set_option maxHeartbeats 8000000 in
theorem RTakeNum_c (x : ScanV) (n : Int) (h1 : 1 ≤ n) (h2 : n ≤ 2) (hx : x.1.length ≤ 1000000) : Pure Tryz.prog 129 [TV.agg [.s (st x.1), .s (i6 x.2.1), .s (i6 x.2.2)], tc (i6 n)] (AV.tup [tc (u6 ((numQ x n).1)), TV.agg [.s (st (((numQ x n).2).1)), .s (i6 (((numQ x n).2).2.1)), .s (i6 (((numQ x n).2).2.2))]]) := by
 refine Pure.of_body Tryz.func129 f129_body (by kernel_rfl) Tryz.ntmps129 (by kernel_rfl) (by kernel_rfl) ?_
 refine gS [] [] 59 [(1, vc (i6 n)), (2, vp 2 0), (5, vp 5 0)] [(2, AObj.row [.s (st x.1), .s (i6 x.2.1), .s (i6 x.2.2)]), (5, AObj.row [.s (st []), .s (i6 0), .s (i6 0)])] trivial ?_
 refine gQ ?_
 refine gS [] [] 59 [(1, vc (i6 n)), (2, vp 2 0), (5, vp 5 0), (10, vc (bo (!decide (x.2.2 = 0))))] [(2, AObj.row [.s (st x.1), .s (i6 x.2.1), .s (i6 x.2.2)]), (5, AObj.row [.s (st []), .s (i6 0), .s (i6 0)])] trivial ?_
 refine gN (x.2.2 = 0) (fun hc1 => ?_) fun hc1 => ?_
 ·
  refine gY [] [(0, [2]), (2, [5])] [] 59 [(4, vc (u6 0)), (5, vp 5 0)] [(5, AObj.row [.s (st x.1), .s (i6 x.2.1), .s (i6 x.2.2)])] mixed trivial ?_
  exact gT (AV.tup [tc (u6 0), TV.agg [.s (st x.1), .s (i6 x.2.1), .s (i6 x.2.2)]]) (by rw [show numQ x n = (0, x) from by first | rw [num_1 (by assumption)] | rw [num_2 (by assumption) (by omega)] | rw [num_3 (by assumption) (by omega) (by assumption)] | (rw [num_4 (by assumption) (by omega) (by assumption)]; done) | (rw [num_4 (by assumption) (by omega) (by assumption)]; simp_all)])
 ·
  refine AMx.skip ?_
  refine gQ ?_
  refine gS [(1, CE.call [] [] (vc (bo (decide (0 ≤ x.2.1) && decide (x.2.1 ≤ (List.length x.1 : Int))))) [])] [Spec Tryz.prog 150 [TV.agg [.s (st x.1), .s (i6 x.2.1), .s (i6 x.2.2)]] (ofH []) (vc (bo (decide (0 ≤ x.2.1) && decide (x.2.1 ≤ (List.length x.1 : Int))))) (ofH []), ((!(decide (0 ≤ x.2.1) && decide (x.2.1 ≤ (List.length x.1 : Int)))) = false) → allP [(!(decide (0 ≤ x.2.1) && decide (x.2.1 ≤ (List.length x.1 : Int)))) = false], (!(decide (0 ≤ x.2.1) && decide (x.2.1 ≤ (List.length x.1 : Int)))) = false → allP [(!(decide (0 ≤ x.2.1) && decide (x.2.1 ≤ (List.length x.1 : Int)))) = false], (((!(decide (0 ≤ x.2.1) && decide (x.2.1 ≤ (List.length x.1 : Int)))) || (decide (n < 1))) = false) → allP [((!(decide (0 ≤ x.2.1) && decide (x.2.1 ≤ (List.length x.1 : Int)))) || (decide (n < 1))) = false], ((!(decide (0 ≤ x.2.1) && decide (x.2.1 ≤ (List.length x.1 : Int)))) || (decide (n < 1))) = false → allP [((!(decide (0 ≤ x.2.1) && decide (x.2.1 ≤ (List.length x.1 : Int)))) || (decide (n < 1))) = false]] 59 [(1, vc (i6 n)), (2, vp 2 0), (5, vp 5 0), (22, vc (bo (((!(decide (0 ≤ x.2.1) && decide (x.2.1 ≤ (List.length x.1 : Int)))) || (decide (n < 1))) || (decide (8 < n)))))] [(2, AObj.row [.s (st x.1), .s (i6 x.2.1), .s (i6 x.2.2)]), (5, AObj.row [.s (st []), .s (i6 0), .s (i6 0)])] ⟨(RStands_c x), (fun hp => hp), (fun hp2 => (by first | exact hp2 | exact ⟨hp, hp2⟩)), (fun hp => hp), (fun hp2 => (by first | exact hp2 | exact ⟨hp, hp2⟩))⟩ ?_
  refine gB ((((!(decide (0 ≤ x.2.1) && decide (x.2.1 ≤ (List.length x.1 : Int)))) || (decide (n < 1))) || (decide (8 < n)))) (fun hc2 => ?_) fun hc2 => ?_
  ·
   try simp only [xT, xF, xA, xB, xO, xP, xN, xM] at hc2
   refine gS [(1, CE.call [] [] (AV.t (TV.agg [.s (st (((x.1, x.2.1, 2) : AL.Quill.ScanV).1)), .s (i6 (((x.1, x.2.1, 2) : AL.Quill.ScanV).2.1)), .s (i6 (((x.1, x.2.1, 2) : AL.Quill.ScanV).2.2))])) [])] [Spec Tryz.prog 130 [TV.agg [.s (st x.1), .s (i6 x.2.1), .s (i6 x.2.2)], tc (i6 2)] (ofH []) (AV.t (TV.agg [.s (st (((x.1, x.2.1, 2) : AL.Quill.ScanV).1)), .s (i6 (((x.1, x.2.1, 2) : AL.Quill.ScanV).2.1)), .s (i6 (((x.1, x.2.1, 2) : AL.Quill.ScanV).2.2))])) (ofH [])] 59 [(4, vc (u6 0)), (5, vp 5 0)] [(5, AObj.row [.s (st (((x.1, x.2.1, 2) : AL.Quill.ScanV).1)), .s (i6 (((x.1, x.2.1, 2) : AL.Quill.ScanV).2.1)), .s (i6 (((x.1, x.2.1, 2) : AL.Quill.ScanV).2.2))])] (bad_c x 2) ?_
   exact gT (AV.tup [tc (u6 0), TV.agg [.s (st (((x.1, x.2.1, 2) : AL.Quill.ScanV).1)), .s (i6 (((x.1, x.2.1, 2) : AL.Quill.ScanV).2.1)), .s (i6 (((x.1, x.2.1, 2) : AL.Quill.ScanV).2.2))]]) (by rw [show numQ x n = (0, ((x.1, x.2.1, 2) : AL.Quill.ScanV)) from by first | rw [num_1 (by assumption)] | rw [num_2 (by assumption) (by omega)] | rw [num_3 (by assumption) (by omega) (by assumption)] | (rw [num_4 (by assumption) (by omega) (by assumption)]; done) | (rw [num_4 (by assumption) (by omega) (by assumption)]; simp_all)])
  ·
   try simp only [xT, xF, xA, xB, xO, xP, xN, xM] at hc2
   refine AMx.skip ?_
   refine gQ ?_
   refine gS [] [InR .i64 ((List.length x.1 : Int) - x.2.1)] 59 [(1, vc (i6 n)), (2, vp 2 0), (5, vp 5 0), (32, vc (bo (decide ((List.length x.1 : Int) - x.2.1 < n))))] [(2, AObj.row [.s (st x.1), .s (i6 x.2.1), .s (i6 x.2.2)]), (5, AObj.row [.s (st []), .s (i6 0), .s (i6 0)])] (show InR .i64 ((List.length x.1 : Int) - x.2.1) from (inR64 (by first | omega | (simp only [List.length_take, List.length_drop] at *; omega)) (by first | omega | (simp only [List.length_take, List.length_drop] at *; omega)))) ?_
   refine gC ((List.length x.1 : Int) - x.2.1 < n) (fun hc3 => ?_) fun hc3 => ?_
   ·
    refine gS [(1, CE.call [] [] (AV.t (TV.agg [.s (st (((x.1, x.2.1, 3) : AL.Quill.ScanV).1)), .s (i6 (((x.1, x.2.1, 3) : AL.Quill.ScanV).2.1)), .s (i6 (((x.1, x.2.1, 3) : AL.Quill.ScanV).2.2))])) [])] [Spec Tryz.prog 130 [TV.agg [.s (st x.1), .s (i6 x.2.1), .s (i6 x.2.2)], tc (i6 3)] (ofH []) (AV.t (TV.agg [.s (st (((x.1, x.2.1, 3) : AL.Quill.ScanV).1)), .s (i6 (((x.1, x.2.1, 3) : AL.Quill.ScanV).2.1)), .s (i6 (((x.1, x.2.1, 3) : AL.Quill.ScanV).2.2))])) (ofH [])] 59 [(4, vc (u6 0)), (5, vp 5 0)] [(5, AObj.row [.s (st (((x.1, x.2.1, 3) : AL.Quill.ScanV).1)), .s (i6 (((x.1, x.2.1, 3) : AL.Quill.ScanV).2.1)), .s (i6 (((x.1, x.2.1, 3) : AL.Quill.ScanV).2.2))])] (bad_c x 3) ?_
    exact gT (AV.tup [tc (u6 0), TV.agg [.s (st (((x.1, x.2.1, 3) : AL.Quill.ScanV).1)), .s (i6 (((x.1, x.2.1, 3) : AL.Quill.ScanV).2.1)), .s (i6 (((x.1, x.2.1, 3) : AL.Quill.ScanV).2.2))]]) (by rw [show numQ x n = (0, ((x.1, x.2.1, 3) : AL.Quill.ScanV)) from by first | rw [num_1 (by assumption)] | rw [num_2 (by assumption) (by omega)] | rw [num_3 (by assumption) (by omega) (by assumption)] | (rw [num_4 (by assumption) (by omega) (by assumption)]; done) | (rw [num_4 (by assumption) (by omega) (by assumption)]; simp_all)])
   ·
    refine AMx.skip ?_
    refine gS [] [] 59 [(1, vc (i6 n)), (2, vp 2 0), (5, vp 5 0), (6, vc (u6 0))] [(2, AObj.row [.s (st x.1), .s (i6 x.2.1), .s (i6 x.2.2)]), (5, AObj.row [.s (st []), .s (i6 0), .s (i6 0)])] trivial ?_
    refine gQ ?_
    refine gS [] [] 59 [(1, vc (i6 n)), (2, vp 2 0), (5, vp 5 0), (6, vc (u6 0)), (7, vc (i6 0))] [(2, AObj.row [.s (st x.1), .s (i6 x.2.1), .s (i6 x.2.2)]), (5, AObj.row [.s (st []), .s (i6 0), .s (i6 0)])] trivial ?_
    refine AMx.block ?_
    refine AMx.ent (s' := AS.lst 59 [(1, vc (i6 n)), (2, vp 2 0), (5, vp 5 0), (6, vc (u6 0)), (7, vc (i6 0))] [(2, AObj.row [.s (st x.1), .s (i6 x.2.1), .s (i6 x.2.2)]), (5, AObj.row [.s (st []), .s (i6 0), .s (i6 0)])]) (ent_proj [1, 2, 5, 6, 7] [2, 5]) ?_
    refine AMx.loop (fun mm ss => ∃ (i : Nat), ((i : Int) ≤ n) ∧ mm = (n - (i : Int)).toNat ∧ ss = AS.lst 59 [(1, vc (i6 n)), (2, vp 2 0), (5, vp 5 0), (6, vc (u6 (bigS (List.take i (List.drop (x.2.1).toNat (List.take (x.2.1 + n).toNat x.1)))))), (7, vc (i6 (i : Int)))] [(2, AObj.row [.s (st x.1), .s (i6 x.2.1), .s (i6 x.2.2)]), (5, AObj.row [.s (st []), .s (i6 0), .s (i6 0)])]) ⟨0, ?_, rfl, ?_⟩ ?_
    · omega
    · rfl
    rintro mm ss ⟨i, hI, rfl, rfl⟩
    refine gQ ?_
    refine gS [] [] 59 [(1, vc (i6 n)), (2, vp 2 0), (5, vp 5 0), (6, vc (u6 (bigS (List.take i (List.drop (x.2.1).toNat (List.take (x.2.1 + n).toNat x.1)))))), (7, vc (i6 (i : Int))), (37, vc (bo (decide ((i : Int) < n))))] [(2, AObj.row [.s (st x.1), .s (i6 x.2.1), .s (i6 x.2.2)]), (5, AObj.row [.s (st []), .s (i6 0), .s (i6 0)])] trivial ?_
    refine gC ((i : Int) < n) (fun hc4 => ?_) fun hc4 => ?_
    ·
     refine AMx.skip ?_
     refine gQ ?_
     refine AMx.block ?_
     refine gR [] [InR .i64 (x.2.1 + (i : Int)), (0 : Int) ≤ x.2.1 + (i : Int), x.2.1 + (i : Int) < List.length x.1] 59 [(1, vc (i6 n)), (2, vp 2 0), (5, vp 5 0), (6, vc (u6 (IntKind.wrap .u64 ((IntKind.wrap .u64 (256 * (bigS (List.take i (List.drop (x.2.1).toNat (List.take (x.2.1 + n).toNat x.1)))))) + ((List.getD x.1 (x.2.1 + (i : Int)).toNat 0).toNat : Int))))), (7, vc (i6 (i : Int)))] [(2, AObj.row [.s (st x.1), .s (i6 x.2.1), .s (i6 x.2.2)]), (5, AObj.row [.s (st []), .s (i6 0), .s (i6 0)])] ⟨(inR64 (by first | omega | (simp only [List.length_take, List.length_drop] at *; omega)) (by first | omega | (simp only [List.length_take, List.length_drop] at *; omega))), (by first | omega | (simp only [List.length_take, List.length_drop] at *; omega)), (show x.2.1 + (i : Int) < List.length x.1 from (by first | omega | (simp only [List.length_take, List.length_drop] at *; omega)))⟩ ?_
     refine AMx.blk ?_
     refine gR [] [InR .i64 ((i : Int) + 1)] 59 [(1, vc (i6 n)), (2, vp 2 0), (5, vp 5 0), (6, vc (u6 (IntKind.wrap .u64 ((IntKind.wrap .u64 (256 * (bigS (List.take i (List.drop (x.2.1).toNat (List.take (x.2.1 + n).toNat x.1)))))) + ((List.getD x.1 (x.2.1 + (i : Int)).toNat 0).toNat : Int))))), (7, vc (i6 ((i : Int) + 1)))] [(2, AObj.row [.s (st x.1), .s (i6 x.2.1), .s (i6 x.2.2)]), (5, AObj.row [.s (st []), .s (i6 0), .s (i6 0)])] (show InR .i64 ((i : Int) + 1) from (inR64 (by first | omega | (simp only [List.length_take, List.length_drop] at *; omega)) (by first | omega | (simp only [List.length_take, List.length_drop] at *; omega)))) ?_
     refine AMx.ent_inv (s' := AS.lst 59 [(1, vc (i6 n)), (2, vp 2 0), (5, vp 5 0), (6, vc (u6 (IntKind.wrap .u64 ((IntKind.wrap .u64 (256 * (bigS (List.take i (List.drop (x.2.1).toNat (List.take (x.2.1 + n).toNat x.1)))))) + ((List.getD x.1 (x.2.1 + (i : Int)).toNat 0).toNat : Int))))), (7, vc (i6 ((i : Int) + 1)))] [(2, AObj.row [.s (st x.1), .s (i6 x.2.1), .s (i6 x.2.2)]), (5, AObj.row [.s (st []), .s (i6 0), .s (i6 0)])]) (ent_proj [1, 2, 5, 6, 7] [2, 5]) ?_
     refine AMx.inv ⟨_, ?_, i + 1, ?_, rfl, ?_⟩
     rotate_left
     · omega
     · have z1 := big_2 (l := List.take i (List.drop (x.2.1).toNat (List.take (x.2.1 + n).toNat x.1))) (by simp only [List.length_take, List.length_drop]; omega); rw [← slice_at (by omega) (by omega), mul_big z1.1 (by omega) (Rune.byte_lt _ _), ← big_step _ i (by simp only [List.length_take, List.length_drop]; omega)]; rfl
     · omega
    ·
     refine AMx.exit ?_
     refine AMx.code_exit ?_
     refine AMx.inv_exit ?_
     refine AMx.blk_exit ?_
     rw [show List.take i (List.drop (x.2.1).toNat (List.take (x.2.1 + n).toNat x.1)) = List.drop (x.2.1).toNat (List.take (x.2.1 + n).toNat x.1) from List.take_of_length_le (by simp only [List.length_take, List.length_drop] at *; omega)]
     refine gY [] [(2, [2]), (4, [2]), (9, [5])] [InR .i64 (x.2.1 + n)] 59 [(4, vc (u6 (bigS (List.drop (x.2.1).toNat (List.take (x.2.1 + n).toNat x.1))))), (5, vp 5 0)] [(5, AObj.row [.s (st x.1), .s (i6 (x.2.1 + n)), .s (i6 0)])] mixed (show InR .i64 (x.2.1 + n) from (inR64 (by first | omega | (simp only [List.length_take, List.length_drop] at *; omega)) (by first | omega | (simp only [List.length_take, List.length_drop] at *; omega)))) ?_
     exact gT (AV.tup [tc (u6 (bigS (List.drop (x.2.1).toNat (List.take (x.2.1 + n).toNat x.1)))), TV.agg [.s (st x.1), .s (i6 (x.2.1 + n)), .s (i6 0)]]) (by rw [show numQ x n = (bigS (List.drop (x.2.1).toNat (List.take (x.2.1 + n).toNat x.1)), ((x.1, x.2.1 + n, 0) : AL.Quill.ScanV)) from by first | rw [num_1 (by assumption)] | rw [num_2 (by assumption) (by omega)] | rw [num_3 (by assumption) (by omega) (by assumption)] | (rw [num_4 (by assumption) (by omega) (by assumption)]; done) | (rw [num_4 (by assumption) (by omega) (by assumption)]; simp_all)])
theorem f93_body : Tryz.f93.body = some (.seq (.region 0 (rg Tryz.f93 0) false) (.seq (.region 1 (rg Tryz.f93 1) false) (.seq (.seq (.region 2 (rg Tryz.f93 2) false) (.cond (.tmp 14) (.seq (.region 3 (rg Tryz.f93 3) true) (.ret)) (.skip))) (.seq (.seq (.region 4 (rg Tryz.f93 4) false) (.cond (.tmp 20) (.seq (.region 5 (rg Tryz.f93 5) false) (.ret)) (.skip))) (.seq (.region 6 (rg Tryz.f93 6) false) (.seq (.region 7 (rg Tryz.f93 7) false) (.seq (.region 8 (rg Tryz.f93 8) true) (.ret)))))))) := by kernel_rfl
set_option maxRecDepth 100000 in
set_option maxHeartbeats 8000000 in
theorem Row_c (x : ScanV) (hx : x.1.length ≤ 1000000) : Pure Tryz.prog 93 [TV.agg [.s (st x.1), .s (i6 x.2.1), .s (i6 x.2.2)]] (AV.tup [tc (st ((rowQ x).1)), TV.agg [.s (st (((rowQ x).2).1)), .s (i6 (((rowQ x).2).2.1)), .s (i6 (((rowQ x).2).2.2))]]) := by
 refine Pure.of_body Tryz.func93 f93_body (by kernel_rfl) Tryz.ntmps93 (by kernel_rfl) (by kernel_rfl) ?_
 have ql := num_len x 2
 have qc : (numQ x 2).1 = 0 ∧ ¬ (numQ x 2).2.2.2 = 0 ∨ (0 ≤ x.2.1 ∧ x.2.1 + 2 ≤ (x.1.length : Int) ∧ (numQ x 2).2.2.1 = x.2.1 + 2 ∧ 0 ≤ (numQ x 2).1 ∧ (numQ x 2).1 < 65536) := by rcases num_cases x (n := 2) (by omega) (by omega) with q | ⟨_, q2, q3, q4, q5⟩; exact .inl q; exact .inr ⟨q2, q3, by rw [q4], q5⟩
 refine gS [] [] 38 [(1, vp 1 0), (3, vp 3 0)] [(1, AObj.row [.s (st x.1), .s (i6 x.2.1), .s (i6 x.2.2)]), (3, AObj.row [.s (st []), .s (i6 0), .s (i6 0)])] trivial ?_
 refine gS [(1, CE.call [] [] (AV.tup [tc (u6 ((numQ x 2).1)), TV.agg [.s (st (((numQ x 2).2).1)), .s (i6 (((numQ x 2).2).2.1)), .s (i6 (((numQ x 2).2).2.2))]]) [])] [Spec Tryz.prog 125 [TV.agg [.s (st x.1), .s (i6 x.2.1), .s (i6 x.2.2)], tc (i6 2)] (ofH []) (AV.tup [tc (u6 ((numQ x 2).1)), TV.agg [.s (st (((numQ x 2).2).1)), .s (i6 (((numQ x 2).2).2.1)), .s (i6 (((numQ x 2).2).2.2))]]) (ofH [])] 38 [(1, vp 1 0), (3, vp 3 0), (4, vc (u6 ((numQ x 2).1))), (5, vp 5 0)] [(1, AObj.row [.s (st x.1), .s (i6 x.2.1), .s (i6 x.2.2)]), (3, AObj.row [.s (st []), .s (i6 0), .s (i6 0)]), (5, AObj.row [.s (st (((numQ x 2).2).1)), .s (i6 (((numQ x 2).2).2.1)), .s (i6 (((numQ x 2).2).2.2))])] (Num_c x 2 (by omega) (by omega) (by first | omega | (rw [ql] at *; omega) | (rw [ql]; omega))) ?_
 refine gQ ?_
 refine gS [] [] 38 [(1, vp 1 0), (3, vp 3 0), (4, vc (u6 ((numQ x 2).1))), (5, vp 5 0), (14, vc (bo (!decide (((numQ x 2).2).2.2 = 0))))] [(1, AObj.row [.s (st x.1), .s (i6 x.2.1), .s (i6 x.2.2)]), (3, AObj.row [.s (st []), .s (i6 0), .s (i6 0)]), (5, AObj.row [.s (st (((numQ x 2).2).1)), .s (i6 (((numQ x 2).2).2.1)), .s (i6 (((numQ x 2).2).2.2))])] trivial ?_
 refine gN (((numQ x 2).2).2.2 = 0) (fun hc1 => ?_) fun hc1 => ?_
 ·
  refine gY [] [(0, [5]), (2, [3])] [] 38 [(2, vc (st [])), (3, vp 3 0)] [(3, AObj.row [.s (st (((numQ x 2).2).1)), .s (i6 (((numQ x 2).2).2.1)), .s (i6 (((numQ x 2).2).2.2))])] mixed trivial ?_
  exact gT (AV.tup [tc (st []), TV.agg [.s (st (((numQ x 2).2).1)), .s (i6 (((numQ x 2).2).2.1)), .s (i6 (((numQ x 2).2).2.2))]]) (by rw [show rowQ x = ([], ((numQ x 2).2)) from by first | rw [row_1 (by assumption)] | rw [row_2 (by assumption) (by assumption)] | (rw [row_3 (by assumption) (by assumption)]; done) | (rw [row_3 (by assumption) (by assumption)]; simp only [num_len, *])])
 ·
  refine AMx.skip ?_
  refine gQ ?_
  refine gS [(1, CE.call [] [] (vc (i6 ((List.length ((numQ x 2).2).1 : Int) - ((numQ x 2).2).2.1))) [])] [Spec Tryz.prog 92 [TV.agg [.s (st (((numQ x 2).2).1)), .s (i6 (((numQ x 2).2).2.1)), .s (i6 (((numQ x 2).2).2.2))]] (ofH []) (vc (i6 ((List.length ((numQ x 2).2).1 : Int) - ((numQ x 2).2).2.1))) (ofH []), InR .i64 ((numQ x 2).1)] 38 [(1, vp 1 0), (3, vp 3 0), (4, vc (u6 ((numQ x 2).1))), (5, vp 5 0), (20, vc (bo (decide ((List.length ((numQ x 2).2).1 : Int) - ((numQ x 2).2).2.1 < (numQ x 2).1))))] [(1, AObj.row [.s (st x.1), .s (i6 x.2.1), .s (i6 x.2.2)]), (3, AObj.row [.s (st []), .s (i6 0), .s (i6 0)]), (5, AObj.row [.s (st (((numQ x 2).2).1)), .s (i6 (((numQ x 2).2).2.1)), .s (i6 (((numQ x 2).2).2.2))])] ⟨(left_c ((numQ x 2).2) (by first | omega | (rw [ql] at *; omega) | (rw [ql]; omega)) (by first | omega | (rw [ql] at *; omega) | (rw [ql]; omega))), (show InR .i64 ((numQ x 2).1) from (inR64 (by first | omega | (rw [ql] at *; omega) | (rw [ql]; omega)) (by first | omega | (rw [ql] at *; omega) | (rw [ql]; omega))))⟩ ?_
  refine gC ((List.length ((numQ x 2).2).1 : Int) - ((numQ x 2).2).2.1 < (numQ x 2).1) (fun hc2 => ?_) fun hc2 => ?_
  ·
   refine gS [(1, CE.call [] [] (AV.t (TV.agg [.s (st (((x.1, x.2.1, 3) : AL.Quill.ScanV).1)), .s (i6 (((x.1, x.2.1, 3) : AL.Quill.ScanV).2.1)), .s (i6 (((x.1, x.2.1, 3) : AL.Quill.ScanV).2.2))])) [])] [Spec Tryz.prog 126 [TV.agg [.s (st x.1), .s (i6 x.2.1), .s (i6 x.2.2)], tc (i6 3)] (ofH []) (AV.t (TV.agg [.s (st (((x.1, x.2.1, 3) : AL.Quill.ScanV).1)), .s (i6 (((x.1, x.2.1, 3) : AL.Quill.ScanV).2.1)), .s (i6 (((x.1, x.2.1, 3) : AL.Quill.ScanV).2.2))])) (ofH [])] 38 [(2, vc (st [])), (3, vp 3 0)] [(3, AObj.row [.s (st (((x.1, x.2.1, 3) : AL.Quill.ScanV).1)), .s (i6 (((x.1, x.2.1, 3) : AL.Quill.ScanV).2.1)), .s (i6 (((x.1, x.2.1, 3) : AL.Quill.ScanV).2.2))])] (fails_c x 3) ?_
   exact gT (AV.tup [tc (st []), TV.agg [.s (st (((x.1, x.2.1, 3) : AL.Quill.ScanV).1)), .s (i6 (((x.1, x.2.1, 3) : AL.Quill.ScanV).2.1)), .s (i6 (((x.1, x.2.1, 3) : AL.Quill.ScanV).2.2))]]) (by rw [show rowQ x = ([], ((x.1, x.2.1, 3) : AL.Quill.ScanV)) from by first | rw [row_1 (by assumption)] | rw [row_2 (by assumption) (by assumption)] | (rw [row_3 (by assumption) (by assumption)]; done) | (rw [row_3 (by assumption) (by assumption)]; simp only [num_len, *])])
  ·
   refine AMx.skip ?_
   refine gS [] [] 38 [(1, vp 1 0), (3, vp 3 0), (4, vc (u6 ((numQ x 2).1))), (5, vp 5 0), (6, vc (i6 (((numQ x 2).2).2.1)))] [(1, AObj.row [.s (st x.1), .s (i6 x.2.1), .s (i6 x.2.2)]), (3, AObj.row [.s (st []), .s (i6 0), .s (i6 0)]), (5, AObj.row [.s (st (((numQ x 2).2).1)), .s (i6 (((numQ x 2).2).2.1)), .s (i6 (((numQ x 2).2).2.2))])] trivial ?_
   refine gS [] [InR .i64 ((numQ x 2).1), InR .i64 ((((numQ x 2).2).2.1) + ((numQ x 2).1))] 38 [(1, vp 1 0), (3, vp 3 0), (5, vp 5 0), (6, vc (i6 (((numQ x 2).2).2.1)))] [(1, AObj.row [.s (st x.1), .s (i6 x.2.1), .s (i6 x.2.2)]), (3, AObj.row [.s (st []), .s (i6 0), .s (i6 0)]), (5, AObj.row [.s (st (((numQ x 2).2).1)), .s (i6 ((((numQ x 2).2).2.1) + ((numQ x 2).1))), .s (i6 (((numQ x 2).2).2.2))])] ⟨(inR64 (by first | omega | (rw [ql] at *; omega) | (rw [ql]; omega)) (by first | omega | (rw [ql] at *; omega) | (rw [ql]; omega))), (show InR .i64 ((((numQ x 2).2).2.1) + ((numQ x 2).1)) from (inR64 (by first | omega | (rw [ql] at *; omega) | (rw [ql]; omega)) (by first | omega | (rw [ql] at *; omega) | (rw [ql]; omega))))⟩ ?_
   refine gY [] [(1, [1]), (4, [5]), (6, [5]), (8, [3])] [0 ≤ (((numQ x 2).2).2.1) + ((numQ x 2).1), (((numQ x 2).2).2.1) + ((numQ x 2).1) ≤ List.length x.1, 0 ≤ ((numQ x 2).2).2.1, ((numQ x 2).2).2.1 ≤ (((numQ x 2).2).2.1) + ((numQ x 2).1)] 38 [(2, vc (st (List.drop (((numQ x 2).2).2.1).toNat (List.take ((((numQ x 2).2).2.1) + ((numQ x 2).1)).toNat x.1)))), (3, vp 3 0)] [(3, AObj.row [.s (st (((numQ x 2).2).1)), .s (i6 ((((numQ x 2).2).2.1) + ((numQ x 2).1))), .s (i6 (((numQ x 2).2).2.2))])] mixed ⟨(by first | omega | (rw [ql] at *; omega) | (rw [ql]; omega)), (by first | omega | (rw [ql] at *; omega) | (rw [ql]; omega)), (by first | omega | (rw [ql] at *; omega) | (rw [ql]; omega)), (show ((numQ x 2).2).2.1 ≤ (((numQ x 2).2).2.1) + ((numQ x 2).1) from (by first | omega | (rw [ql] at *; omega) | (rw [ql]; omega)))⟩ ?_
   exact gT (AV.tup [tc (st (List.drop (((numQ x 2).2).2.1).toNat (List.take ((((numQ x 2).2).2.1) + ((numQ x 2).1)).toNat x.1))), TV.agg [.s (st (((numQ x 2).2).1)), .s (i6 ((((numQ x 2).2).2.1) + ((numQ x 2).1))), .s (i6 (((numQ x 2).2).2.2))]]) (by rw [show rowQ x = (List.drop (((numQ x 2).2).2.1).toNat (List.take ((((numQ x 2).2).2.1) + ((numQ x 2).1)).toNat x.1), ((((numQ x 2).2).1, (((numQ x 2).2).2.1) + ((numQ x 2).1), ((numQ x 2).2).2.2) : AL.Quill.ScanV)) from by first | rw [row_1 (by assumption)] | rw [row_2 (by assumption) (by assumption)] | (rw [row_3 (by assumption) (by assumption)]; done) | (rw [row_3 (by assumption) (by assumption)]; simp only [num_len, *])])
theorem f97_body : Tryz.f97.body = some (.seq (.region 0 (rg Tryz.f97 0) false) (.seq (.region 1 (rg Tryz.f97 1) false) (.seq (.seq (.region 2 (rg Tryz.f97 2) false) (.cond (.tmp 13) (.seq (.region 3 (rg Tryz.f97 3) true) (.ret)) (.skip))) (.seq (.seq (.region 4 (rg Tryz.f97 4) false) (.cond (.tmp 23) (.seq (.region 5 (rg Tryz.f97 5) false) (.ret)) (.skip))) (.seq (.region 6 (rg Tryz.f97 6) true) (.ret)))))) := by kernel_rfl
set_option maxRecDepth 100000 in
set_option maxHeartbeats 8000000 in
theorem RTakeRow_c (x : ScanV) (hx : x.1.length ≤ 1000000) : Pure Tryz.prog 97 [TV.agg [.s (st x.1), .s (i6 x.2.1), .s (i6 x.2.2)]] (AV.tup [tc (st ((rowQ x).1)), TV.agg [.s (st (((rowQ x).2).1)), .s (i6 (((rowQ x).2).2.1)), .s (i6 (((rowQ x).2).2.2))]]) := by
 refine Pure.of_body Tryz.func97 f97_body (by kernel_rfl) Tryz.ntmps97 (by kernel_rfl) (by kernel_rfl) ?_
 have ql := num_len x 2
 have qc : (numQ x 2).1 = 0 ∧ ¬ (numQ x 2).2.2.2 = 0 ∨ (0 ≤ x.2.1 ∧ x.2.1 + 2 ≤ (x.1.length : Int) ∧ (numQ x 2).2.2.1 = x.2.1 + 2 ∧ 0 ≤ (numQ x 2).1 ∧ (numQ x 2).1 < 65536) := by rcases num_cases x (n := 2) (by omega) (by omega) with q | ⟨_, q2, q3, q4, q5⟩; exact .inl q; exact .inr ⟨q2, q3, by rw [q4], q5⟩
 refine gS [] [] 44 [(1, vp 1 0), (3, vp 3 0)] [(1, AObj.row [.s (st x.1), .s (i6 x.2.1), .s (i6 x.2.2)]), (3, AObj.row [.s (st []), .s (i6 0), .s (i6 0)])] trivial ?_
 refine gS [(1, CE.call [] [] (AV.tup [tc (u6 ((numQ x 2).1)), TV.agg [.s (st (((numQ x 2).2).1)), .s (i6 (((numQ x 2).2).2.1)), .s (i6 (((numQ x 2).2).2.2))]]) [])] [Spec Tryz.prog 129 [TV.agg [.s (st x.1), .s (i6 x.2.1), .s (i6 x.2.2)], tc (i6 2)] (ofH []) (AV.tup [tc (u6 ((numQ x 2).1)), TV.agg [.s (st (((numQ x 2).2).1)), .s (i6 (((numQ x 2).2).2.1)), .s (i6 (((numQ x 2).2).2.2))]]) (ofH [])] 44 [(1, vp 1 0), (3, vp 3 0), (4, vc (u6 ((numQ x 2).1))), (5, vp 5 0)] [(1, AObj.row [.s (st x.1), .s (i6 x.2.1), .s (i6 x.2.2)]), (3, AObj.row [.s (st []), .s (i6 0), .s (i6 0)]), (5, AObj.row [.s (st (((numQ x 2).2).1)), .s (i6 (((numQ x 2).2).2.1)), .s (i6 (((numQ x 2).2).2.2))])] (RTakeNum_c x 2 (by omega) (by omega) (by first | omega | (rw [ql] at *; omega) | (rw [ql]; omega))) ?_
 refine gQ ?_
 refine gS [] [] 44 [(1, vp 1 0), (3, vp 3 0), (4, vc (u6 ((numQ x 2).1))), (5, vp 5 0), (13, vc (bo (!decide (((numQ x 2).2).2.2 = 0))))] [(1, AObj.row [.s (st x.1), .s (i6 x.2.1), .s (i6 x.2.2)]), (3, AObj.row [.s (st []), .s (i6 0), .s (i6 0)]), (5, AObj.row [.s (st (((numQ x 2).2).1)), .s (i6 (((numQ x 2).2).2.1)), .s (i6 (((numQ x 2).2).2.2))])] trivial ?_
 refine gN (((numQ x 2).2).2.2 = 0) (fun hc1 => ?_) fun hc1 => ?_
 ·
  refine gY [] [(0, [5]), (2, [3])] [] 44 [(2, vc (st [])), (3, vp 3 0)] [(3, AObj.row [.s (st (((numQ x 2).2).1)), .s (i6 (((numQ x 2).2).2.1)), .s (i6 (((numQ x 2).2).2.2))])] mixed trivial ?_
  exact gT (AV.tup [tc (st []), TV.agg [.s (st (((numQ x 2).2).1)), .s (i6 (((numQ x 2).2).2.1)), .s (i6 (((numQ x 2).2).2.2))]]) (by rw [show rowQ x = ([], ((numQ x 2).2)) from by first | rw [row_1 (by assumption)] | rw [row_2 (by assumption) (by assumption)] | (rw [row_3 (by assumption) (by assumption)]; done) | (rw [row_3 (by assumption) (by assumption)]; simp only [num_len, *])])
 ·
  refine AMx.skip ?_
  refine gQ ?_
  refine gS [] [InR .i64 ((List.length (((numQ x 2).2).1 : List UInt8) : Int) - (((numQ x 2).2).2.1)), InR .i64 ((numQ x 2).1)] 44 [(1, vp 1 0), (3, vp 3 0), (4, vc (u6 ((numQ x 2).1))), (5, vp 5 0), (23, vc (bo (decide ((List.length (((numQ x 2).2).1 : List UInt8) : Int) - (((numQ x 2).2).2.1) < (numQ x 2).1))))] [(1, AObj.row [.s (st x.1), .s (i6 x.2.1), .s (i6 x.2.2)]), (3, AObj.row [.s (st []), .s (i6 0), .s (i6 0)]), (5, AObj.row [.s (st (((numQ x 2).2).1)), .s (i6 (((numQ x 2).2).2.1)), .s (i6 (((numQ x 2).2).2.2))])] ⟨(inR64 (by first | omega | (rw [ql] at *; omega) | (rw [ql]; omega)) (by first | omega | (rw [ql] at *; omega) | (rw [ql]; omega))), (show InR .i64 ((numQ x 2).1) from (inR64 (by first | omega | (rw [ql] at *; omega) | (rw [ql]; omega)) (by first | omega | (rw [ql] at *; omega) | (rw [ql]; omega))))⟩ ?_
  refine gC ((List.length (((numQ x 2).2).1 : List UInt8) : Int) - (((numQ x 2).2).2.1) < (numQ x 2).1) (fun hc2 => ?_) fun hc2 => ?_
  ·
   refine gS [(1, CE.call [] [] (AV.t (TV.agg [.s (st (((x.1, x.2.1, 3) : AL.Quill.ScanV).1)), .s (i6 (((x.1, x.2.1, 3) : AL.Quill.ScanV).2.1)), .s (i6 (((x.1, x.2.1, 3) : AL.Quill.ScanV).2.2))])) [])] [Spec Tryz.prog 130 [TV.agg [.s (st x.1), .s (i6 x.2.1), .s (i6 x.2.2)], tc (i6 3)] (ofH []) (AV.t (TV.agg [.s (st (((x.1, x.2.1, 3) : AL.Quill.ScanV).1)), .s (i6 (((x.1, x.2.1, 3) : AL.Quill.ScanV).2.1)), .s (i6 (((x.1, x.2.1, 3) : AL.Quill.ScanV).2.2))])) (ofH [])] 44 [(2, vc (st [])), (3, vp 3 0)] [(3, AObj.row [.s (st (((x.1, x.2.1, 3) : AL.Quill.ScanV).1)), .s (i6 (((x.1, x.2.1, 3) : AL.Quill.ScanV).2.1)), .s (i6 (((x.1, x.2.1, 3) : AL.Quill.ScanV).2.2))])] (bad_c x 3) ?_
   exact gT (AV.tup [tc (st []), TV.agg [.s (st (((x.1, x.2.1, 3) : AL.Quill.ScanV).1)), .s (i6 (((x.1, x.2.1, 3) : AL.Quill.ScanV).2.1)), .s (i6 (((x.1, x.2.1, 3) : AL.Quill.ScanV).2.2))]]) (by rw [show rowQ x = ([], ((x.1, x.2.1, 3) : AL.Quill.ScanV)) from by first | rw [row_1 (by assumption)] | rw [row_2 (by assumption) (by assumption)] | (rw [row_3 (by assumption) (by assumption)]; done) | (rw [row_3 (by assumption) (by assumption)]; simp only [num_len, *])])
  ·
   refine AMx.skip ?_
   refine gY [] [(1, [5]), (3, [5]), (5, [5]), (11, [5]), (13, [5]), (19, [3])] [InR .i64 ((numQ x 2).1), InR .i64 ((((numQ x 2).2).2.1) + ((numQ x 2).1)), 0 ≤ (((numQ x 2).2).2.1) + ((numQ x 2).1), (((numQ x 2).2).2.1) + ((numQ x 2).1) ≤ List.length (((numQ x 2).2).1 : List UInt8), 0 ≤ ((numQ x 2).2).2.1, ((numQ x 2).2).2.1 ≤ (((numQ x 2).2).2.1) + ((numQ x 2).1), InR .i64 ((numQ x 2).1), InR .i64 ((((numQ x 2).2).2.1) + ((numQ x 2).1))] 44 [(2, vc (st (List.drop (((numQ x 2).2).2.1).toNat (List.take ((((numQ x 2).2).2.1) + ((numQ x 2).1)).toNat (((numQ x 2).2).1))))), (3, vp 3 0)] [(3, AObj.row [.s (st (((numQ x 2).2).1)), .s (i6 ((((numQ x 2).2).2.1) + ((numQ x 2).1))), .s (i6 0)])] mixed ⟨(inR64 (by first | omega | (rw [ql] at *; omega) | (rw [ql]; omega)) (by first | omega | (rw [ql] at *; omega) | (rw [ql]; omega))), (inR64 (by first | omega | (rw [ql] at *; omega) | (rw [ql]; omega)) (by first | omega | (rw [ql] at *; omega) | (rw [ql]; omega))), (by first | omega | (rw [ql] at *; omega) | (rw [ql]; omega)), (by first | omega | (rw [ql] at *; omega) | (rw [ql]; omega)), (by first | omega | (rw [ql] at *; omega) | (rw [ql]; omega)), (by first | omega | (rw [ql] at *; omega) | (rw [ql]; omega)), (inR64 (by first | omega | (rw [ql] at *; omega) | (rw [ql]; omega)) (by first | omega | (rw [ql] at *; omega) | (rw [ql]; omega))), (show InR .i64 ((((numQ x 2).2).2.1) + ((numQ x 2).1)) from (inR64 (by first | omega | (rw [ql] at *; omega) | (rw [ql]; omega)) (by first | omega | (rw [ql] at *; omega) | (rw [ql]; omega))))⟩ ?_
   exact gT (AV.tup [tc (st (List.drop (((numQ x 2).2).2.1).toNat (List.take ((((numQ x 2).2).2.1) + ((numQ x 2).1)).toNat (((numQ x 2).2).1)))), TV.agg [.s (st (((numQ x 2).2).1)), .s (i6 ((((numQ x 2).2).2.1) + ((numQ x 2).1))), .s (i6 0)]]) (by rw [show rowQ x = (List.drop (((numQ x 2).2).2.1).toNat (List.take ((((numQ x 2).2).2.1) + ((numQ x 2).1)).toNat (((numQ x 2).2).1)), ((((numQ x 2).2).1, (((numQ x 2).2).2.1) + ((numQ x 2).1), 0) : AL.Quill.ScanV)) from by first | rw [row_1 (by assumption)] | rw [row_2 (by assumption) (by assumption)] | (rw [row_3 (by assumption) (by assumption)]; done) | (rw [row_3 (by assumption) (by assumption)]; simp only [num_len, *])])
end AL.Quill
namespace AL.Policy
open Go Go.Proofs AL AL.Rune
set_option linter.unusedVariables false
set_option linter.unusedSimpArgs false
theorem f96_body : Tryz.f96.body = some (.seq (.region 0 (rg Tryz.f96 0) false) (.seq (.region 1 (rg Tryz.f96 1) false) (.seq (.region 2 (rg Tryz.f96 2) false) (.seq (.seq (.region 3 (rg Tryz.f96 3) false) (.block 0 (.loop (.seq (.region 4 (rg Tryz.f96 4) false) (.seq (.cond (.tmp 11) (.skip) (.exit 0)) (.block 1 (.seq (.region 5 (rg Tryz.f96 5) false) (.seq (.block 2 (.loop (.seq (.seq (.region 6 (rg Tryz.f96 6) false) (.cond (.tmp 21) (.skip) (.exit 2))) (.block 3 (.region 7 (rg Tryz.f96 7) false))))) (.seq (.seq (.region 8 (rg Tryz.f96 8) false) (.cond (.tmp 25) (.seq (.region 9 (rg Tryz.f96 9) false) (.ret)) (.skip))) (.seq (.region 10 (rg Tryz.f96 10) false) (.region 11 (rg Tryz.f96 11) false))))))))))) (.seq (.region 12 (rg Tryz.f96 12) false) (.ret)))))) := by kernel_rfl
set_option maxRecDepth 100000 in
set_option maxHeartbeats 8000000 in
theorem caps_c (s : Bytes) : Pure Tryz.prog 96 [tc (st s)] (AV.tup [tc (u8 ((capsR s).1)), tc (bo ((capsR s).2))]) := by
 refine Pure.of_body Tryz.func96 f96_body (by kernel_rfl) Tryz.ntmps96 (by kernel_rfl) (by kernel_rfl) ?_
 refine AMx.str 0 (b := s) rfl (fun hls => ?_)
 simp only [maxLen] at hls
 refine gS [] [] 33 [(0, vc (st s))] [] trivial ?_
 refine gS [] [] 33 [(0, vc (st s)), (4, vc (u8 0))] [] trivial ?_
 refine gS [] [] 33 [(0, vc (st s)), (4, vc (u8 0)), (5, vc (i6 0))] [] trivial ?_
 refine gQ ?_
 refine gS [] [] 33 [(4, vc (u8 0)), (5, vc (i6 0)), (9, vp 9 0)] [(9, AObj.iter s 0)] trivial ?_
 refine AMx.block ?_
 refine AMx.ent (s' := AS.lst 33 [(4, vc (u8 0)), (5, vc (i6 0)), (9, vp 9 0)] [(9, AObj.iter s 0)]) (ent_proj [4, 5, 9] [9]) ?_
 refine AMx.loop (fun mm ss => ∃ (pos : Nat) (out : Nat), (pos ≤ s.length ∧ out < 64 ∧ laysN out = List.take pos s) ∧ mm = s.length - pos ∧ ss = AS.lst 33 [(4, vc (u8 (out : Int))), (5, vc (i6 (atN out : Int))), (9, vp 9 0)] [(9, AObj.iter s pos)]) ⟨0, 0, ?_, rfl, ?_⟩ ?_
 · exact ⟨Nat.zero_le _, by omega, by rw [List.take_zero]; rfl⟩
 · rfl
 rintro mm ss ⟨pos, out, ⟨hI, hO, hS⟩, rfl, rfl⟩
 refine gQ ?_
 rcases Nat.lt_or_ge pos (List.length s) with hn1 | hn1
 ·
  have hd1 := AL.Rune.dec_ok hn1
  refine gR [(0, CE.str [])] [pos < List.length s, ((pos : Nat) : Int) ≤ 9223372036854775807] 33 [(4, vc (u8 (out : Int))), (5, vc (i6 (atN out : Int))), (9, vp 9 0), (10, AV.tup [tc (bo true), tc (i6 (pos : Int)), tc (i3 ((decS s pos).1 : Int))]), (11, vc (bo true))] [(9, AObj.iter s (pos + (decS s pos).2))] ⟨(by first | omega | (simp only [List.length_cons, List.length_nil]; omega)), (show ((pos : Nat) : Int) ≤ 9223372036854775807 from (by first | omega | (simp only [List.length_cons, List.length_nil]; omega)))⟩ ?_
  refine gQ ?_
  refine gBt ?_
  refine AMx.skip ?_
  refine AMx.block ?_
  refine gS [] [] 33 [(4, vc (u8 (out : Int))), (5, vc (i6 (atN out : Int))), (7, vc (i3 ((decS s pos).1 : Int))), (9, vp 9 0)] [(9, AObj.iter s (pos + (decS s pos).2))] trivial ?_
  refine gQ ?_
  refine AMx.block ?_
  refine AMx.ent (s' := AS.lst 33 [(4, vc (u8 (out : Int))), (5, vc (i6 (atN out : Int))), (7, vc (i3 ((decS s pos).1 : Int))), (9, vp 9 0)] [(9, AObj.iter s (pos + (decS s pos).2))]) (ent_proj [4, 5, 7, 9] [9]) ?_
  refine AMx.loop (fun mm ss => ∃ (j : Nat), (atN out ≤ j ∧ j ≤ 6 ∧ ∀ m, atN out ≤ m → m < j → ¬ (List.getD lets m 0).toNat = (decS s pos).1) ∧ mm = 6 - j ∧ ss = AS.lst 33 [(4, vc (u8 (out : Int))), (5, vc (i6 (j : Int))), (7, vc (i3 ((decS s pos).1 : Int))), (9, vp 9 0)] [(9, AObj.iter s (pos + (decS s pos).2))]) ⟨atN out, ?_, rfl, ?_⟩ ?_
  · exact ⟨Nat.le_refl _, at_le out hO, fun m h1 h2 => by omega⟩
  · rfl
  rintro mm ss ⟨j, ⟨hA, hJ, hL⟩, rfl, rfl⟩
  refine gQ ?_
  refine gS [] [((decide ((j : Int) < 6)) = true) → allP [(decide ((j : Int) < 6)) = true, (0 : Int) ≤ (j : Int), (j : Int) < List.length ([114, 119, 100, 120, 108, 115] : List UInt8)], ((decide ((j : Int) < 6)) = true) → allP [(decide ((j : Int) < 6)) = true], ((decide ((j : Int) < 6)) = true) → allP [(decide ((j : Int) < 6)) = true, (decide ((j : Int) < 6)) = true], (decide ((j : Int) < 6)) = true → allP [(decide ((j : Int) < 6)) = true]] 33 [(4, vc (u8 (out : Int))), (5, vc (i6 (j : Int))), (7, vc (i3 ((decS s pos).1 : Int))), (9, vp 9 0), (21, vc (bo ((decide ((j : Int) < 6)) && (!decide (((List.getD ([114, 119, 100, 120, 108, 115] : List UInt8) j 0).toNat : Int) = ((decS s pos).1 : Int))))))] [(9, AObj.iter s (pos + (decS s pos).2))] ⟨(fun hp => by have hq := hp; (try simp only [xT, xF, xA, xO, xB, xP, xN, xM, Bool.not_eq_true, Bool.not_eq_false] at hq); exact ⟨hp, (by first | omega | (simp only [List.length_cons, List.length_nil]; omega)), (show (j : Int) < List.length ([114, 119, 100, 120, 108, 115] : List UInt8) from (by first | omega | (simp only [List.length_cons, List.length_nil]; omega)))⟩), (fun hp => hp), (fun hp => ⟨hp, hp⟩), (fun hp2 => (by first | exact hp2 | exact ⟨hp, hp2⟩))⟩ ?_
  refine gB (((decide ((j : Int) < 6)) && (!decide (((List.getD ([114, 119, 100, 120, 108, 115] : List UInt8) j 0).toNat : Int) = ((decS s pos).1 : Int))))) (fun hc2 => ?_) fun hc2 => ?_
  ·
   try simp only [xT, xF, xA, xB, xN, xM] at hc2
   refine AMx.skip ?_
   refine AMx.block ?_
   refine gR [] [InR .i64 ((j : Int) + 1)] 33 [(4, vc (u8 (out : Int))), (5, vc (i6 ((j : Int) + 1))), (7, vc (i3 ((decS s pos).1 : Int))), (9, vp 9 0)] [(9, AObj.iter s (pos + (decS s pos).2))] (show InR .i64 ((j : Int) + 1) from (inR64 (by first | omega | (simp only [List.length_cons, List.length_nil]; omega)) (by first | omega | (simp only [List.length_cons, List.length_nil]; omega)))) ?_
   refine AMx.blk ?_
   refine AMx.ent_inv (s' := AS.lst 33 [(4, vc (u8 (out : Int))), (5, vc (i6 ((j : Int) + 1))), (7, vc (i3 ((decS s pos).1 : Int))), (9, vp 9 0)] [(9, AObj.iter s (pos + (decS s pos).2))]) (ent_proj [4, 5, 7, 9] [9]) ?_
   refine AMx.inv ⟨_, ?_, j + 1, ?_, rfl, ?_⟩
   rotate_left
   · exact ⟨by omega, by omega, fun m h1 h2 => by rcases Nat.lt_or_ge m j with q | q; exact hL m h1 q; rw [show m = j by omega]; exact fun q2 => hc2.2 (congrArg Int.ofNat q2)⟩
   · rfl
   · omega
  ·
   try simp only [xT, xF, xA, xB, xN, xM] at hc2
   refine AMx.exit ?_
   refine AMx.code_exit ?_
   refine AMx.inv_exit ?_
   refine AMx.blk_exit ?_
   refine gQ ?_
   refine gS [] [] 33 [(4, vc (u8 (out : Int))), (5, vc (i6 (j : Int))), (9, vp 9 0), (25, vc (bo (decide ((j : Int) = 6))))] [(9, AObj.iter s (pos + (decS s pos).2))] trivial ?_
   refine gC ((j : Int) = 6) (fun hc3 => ?_) fun hc3 => ?_
   ·
    refine gS [] [] 33 [(2, vc (u8 0)), (3, vc (bo false))] [] trivial ?_
    exact gT (AV.tup [tc (u8 0), tc (bo false)]) (by rw [show capsR s = (0, false) from by rw [caps_stop hO hS (by omega) (fun m h1 h2 => hL m h1 (by omega))]])
   ·
    refine AMx.skip ?_
    refine gS [] [(0 : Int) ≤ (j : Int)] 33 [(4, vc (u8 (IntKind.wrap .u8 ((BitVec.ofInt 8 (out : Int) ||| BitVec.ofInt 8 (IntKind.wrap .u8 (1 * 2 ^ (min ((j : Int) : Int).toNat (IntKind.bits .u8))))).toNat)))), (5, vc (i6 (j : Int))), (9, vp 9 0)] [(9, AObj.iter s (pos + (decS s pos).2))] (show (0 : Int) ≤ (j : Int) from (by first | omega | (simp only [List.length_cons, List.length_nil]; omega))) ?_
    refine gR [] [InR .i64 ((j : Int) + 1)] 33 [(4, vc (u8 (IntKind.wrap .u8 ((BitVec.ofInt 8 (out : Int) ||| BitVec.ofInt 8 (IntKind.wrap .u8 (1 * 2 ^ (min ((j : Int) : Int).toNat (IntKind.bits .u8))))).toNat)))), (5, vc (i6 ((j : Int) + 1))), (9, vp 9 0)] [(9, AObj.iter s (pos + (decS s pos).2))] (show InR .i64 ((j : Int) + 1) from (inR64 (by first | omega | (simp only [List.length_cons, List.length_nil]; omega)) (by first | omega | (simp only [List.length_cons, List.length_nil]; omega)))) ?_
    refine AMx.blk ?_
    refine AMx.ent_inv (s' := AS.lst 33 [(4, vc (u8 (IntKind.wrap .u8 ((BitVec.ofInt 8 (out : Int) ||| BitVec.ofInt 8 (IntKind.wrap .u8 (1 * 2 ^ (min ((j : Int) : Int).toNat (IntKind.bits .u8))))).toNat)))), (5, vc (i6 ((j : Int) + 1))), (9, vp 9 0)] [(9, AObj.iter s (pos + (decS s pos).2))]) (ent_proj [4, 5, 9] [9]) ?_
    refine AMx.inv ⟨_, ?_, pos + (decS s pos).2, out + 2 ^ j, ?_, rfl, ?_⟩
    rotate_left
    · obtain ⟨g1, g2, _⟩ := caps_next hO hS (by omega) (show j < 6 by omega) hA (by rcases hc2 with q | q; exact absurd q (by omega); exact Int.ofNat.inj q); exact ⟨by omega, g1, g2⟩
    · rw [← (caps_grow out hO j (show j < 6 by omega) hA).2.2.2, (caps_grow out hO j (show j < 6 by omega) hA).2.2.1]; rfl
    · omega
 ·
  refine gR [] [List.length s ≤ pos] 33 [(4, vc (u8 (out : Int))), (5, vc (i6 (atN out : Int))), (9, vp 9 0), (10, AV.tup [tc (bo false)]), (11, vc (bo false))] [(9, AObj.iter s pos)] (show List.length s ≤ pos from (by first | omega | (simp only [List.length_cons, List.length_nil]; omega))) ?_
  refine gQ ?_
  refine gBf ?_
  refine AMx.exit ?_
  refine AMx.code_exit ?_
  refine AMx.inv_exit ?_
  refine AMx.blk_exit ?_
  refine gS [] [] 33 [(2, vc (u8 (out : Int))), (3, vc (bo true))] [] trivial ?_
  exact gT (AV.tup [tc (u8 (out : Int)), tc (bo true)]) (by rw [show capsR s = ((out : Int), true) from by rw [caps_done hO hS (by omega)]])
theorem f66_body : Tryz.f66.body = some (.seq (.region 0 (rg Tryz.f66 0) false) (.seq (.seq (.region 1 (rg Tryz.f66 1) false) (.cond (.tmp 14) (.seq (.region 2 (rg Tryz.f66 2) false) (.ret)) (.skip))) (.seq (.region 3 (rg Tryz.f66 3) false) (.seq (.seq (.region 4 (rg Tryz.f66 4) false) (.block 0 (.loop (.seq (.region 5 (rg Tryz.f66 5) false) (.seq (.cond (.tmp 19) (.skip) (.exit 0)) (.seq (.block 1 (.seq (.region 6 (rg Tryz.f66 6) false) (.seq (.region 7 (rg Tryz.f66 7) false) (.seq (.region 8 (rg Tryz.f66 8) false) (.seq (.seq (.region 9 (rg Tryz.f66 9) false) (.cond (.tmp 38) (.seq (.region 10 (rg Tryz.f66 10) false) (.ret)) (.skip))) (.region 11 (rg Tryz.f66 11) false)))))) (.region 12 (rg Tryz.f66 12) false))))))) (.seq (.seq (.region 13 (rg Tryz.f66 13) false) (.seq (.region 14 (rg Tryz.f66 14) false) (.cond (.tmp 49) (.seq (.region 15 (rg Tryz.f66 15) false) (.ret)) (.skip)))) (.seq (.region 16 (rg Tryz.f66 16) false) (.ret))))))) := by kernel_rfl
set_option maxRecDepth 100000 in
set_option maxHeartbeats 8000000 in
theorem Parse_c (s : Bytes) (hb : s.length ≤ 100000) : Pure Tryz.prog 66 [tc (st s)] (AV.tup [tc (slP ((parseP s).1)), tc (i6 ((parseP s).2))]) := by
 refine Pure.of_body Tryz.func66 f66_body (by kernel_rfl) Tryz.ntmps66 (by kernel_rfl) (by kernel_rfl) ?_
 have hsl := split_le 44 s
 refine gS [] [] 52 [(0, vc (st s))] [] trivial ?_
 refine gQ ?_
 refine gS [] [] 52 [(0, vc (st s)), (14, vc (bo (decide (s = []))))] [] trivial ?_
 refine gC (s = []) (fun hc1 => ?_) fun hc1 => ?_
 ·
  refine gS [] [] 52 [(2, vc (SC.nilsl)), (3, vc (i6 0))] [] trivial ?_
  refine AMx.ent (ent_weak 2 (v' := vc (slP [])) (by kernel_rfl) (AV.le_t (TV.le_c AC.le_nil))) ?_
  exact gT (AV.tup [tc (slP []), tc (i6 0)]) (by rw [show parseP s = ([], 0) from by rw [hc1]; rfl])
 ·
  refine AMx.skip ?_
  refine gS [] [] 52 [(0, vc (st s)), (4, vc (SC.nilsl))] [] trivial ?_
  refine gQ ?_
  refine gS [(1, CE.call [] [] (vc (AL.Fnv.slS (AL.Sep.splitC 44 s))) [])] [Spec Tryz.prog 94 [tc (st s), tc (st [44])] (ofH []) (vc (AL.Fnv.slS (AL.Sep.splitC 44 s))) (ofH [])] 52 [(4, vc (SC.nilsl)), (16, vc (AL.Fnv.slS (AL.Sep.splitC 44 s))), (17, vc (i6 (List.length (AL.Sep.splitC 44 s : List Bytes) : Int))), (18, vc (i6 0))] [] (AL.Sep.Split_c 44 s (by first | omega | ((try simp only [List.length_append, List.length_cons, List.length_nil, List.length_replicate, List.length_map, List.length_take, List.length_drop, pref_len, ruled_len]); omega) | (have hpc := Sep.mem_len (Lib.getD_mem [] (AL.Sep.splitC 44 s) k (by omega)); omega))) ?_
  refine AMx.block ?_
  refine AMx.ent (s' := AS.lst 52 [(4, vo 4), (16, vc (AL.Fnv.slS (AL.Sep.splitC 44 s))), (17, vc (i6 (List.length (AL.Sep.splitC 44 s : List Bytes) : Int))), (18, vc (i6 0))] [(4, AObj.grow 80 2 RuleV ([], 0) rowP [])]) (ent_adopt (t := 4) (d := 4) 80 2 RuleV ([], 0) rowP (by kernel_rfl) (by kernel_rfl) (by kernel_rfl) (by kernel_rfl)) ?_
  refine AMx.ent (s' := AS.lst 52 [(4, vo 4), (16, vc (AL.Fnv.slS (AL.Sep.splitC 44 s))), (17, vc (i6 (List.length (AL.Sep.splitC 44 s : List Bytes) : Int))), (18, vc (i6 0))] [(4, AObj.grow 80 2 RuleV ([], 0) rowP [])]) (ent_proj [4, 16, 17, 18] [4]) ?_
  refine AMx.loop (fun mm ss => ∃ (k : Nat), (k ≤ (AL.Sep.splitC 44 s).length ∧ fineS (List.take k (AL.Sep.splitC 44 s)) = true) ∧ mm = (AL.Sep.splitC 44 s).length - k ∧ ss = AS.lst 52 [(4, vo 4), (16, vc (AL.Fnv.slS (AL.Sep.splitC 44 s))), (17, vc (i6 (List.length (AL.Sep.splitC 44 s : List Bytes) : Int))), (18, vc (i6 (k : Int)))] [(4, AObj.grow 80 2 RuleV ([], 0) rowP (ruled (List.take k (AL.Sep.splitC 44 s))))]) ⟨0, ?_, rfl, ?_⟩ ?_
  · exact ⟨Nat.zero_le _, rfl⟩
  · rfl
  rintro mm ss ⟨k, ⟨hI, hN⟩, rfl, rfl⟩
  refine gS [] [] 52 [(4, vo 4), (16, vc (AL.Fnv.slS (AL.Sep.splitC 44 s))), (17, vc (i6 (List.length (AL.Sep.splitC 44 s : List Bytes) : Int))), (18, vc (i6 (k : Int))), (19, vc (bo (decide ((k : Int) < (List.length (AL.Sep.splitC 44 s : List Bytes) : Int)))))] [(4, AObj.grow 80 2 RuleV ([], 0) rowP (ruled (List.take k (AL.Sep.splitC 44 s))))] trivial ?_
  refine gQ ?_
  refine gC ((k : Int) < (List.length (AL.Sep.splitC 44 s : List Bytes) : Int)) (fun hc2 => ?_) fun hc2 => ?_
  ·
   refine AMx.skip ?_
   refine gQ ?_
   refine AMx.block ?_
   refine gS [] [(0 : Int) ≤ (k : Int), (k : Int) < List.length (AL.Sep.splitC 44 s : List Bytes)] 52 [(4, vo 4), (6, vc (st (List.getD (AL.Sep.splitC 44 s) k []))), (16, vc (AL.Fnv.slS (AL.Sep.splitC 44 s))), (17, vc (i6 (List.length (AL.Sep.splitC 44 s : List Bytes) : Int))), (18, vc (i6 (k : Int)))] [(4, AObj.grow 80 2 RuleV ([], 0) rowP (ruled (List.take k (AL.Sep.splitC 44 s))))] ⟨(by first | omega | ((try simp only [List.length_append, List.length_cons, List.length_nil, List.length_replicate, List.length_map, List.length_take, List.length_drop, pref_len, ruled_len]); omega) | (have hpc := Sep.mem_len (Lib.getD_mem [] (AL.Sep.splitC 44 s) k (by omega)); omega)), (show (k : Int) < List.length (AL.Sep.splitC 44 s : List Bytes) from (by first | omega | ((try simp only [List.length_append, List.length_cons, List.length_nil, List.length_replicate, List.length_map, List.length_take, List.length_drop, pref_len, ruled_len]); omega) | (have hpc := Sep.mem_len (Lib.getD_mem [] (AL.Sep.splitC 44 s) k (by omega)); omega)))⟩ ?_
   refine gS [(1, CE.call [] [] (AV.tup [tc (st ((AL.Sep.cutAt 58 (List.getD (AL.Sep.splitC 44 s) k [])).1)), tc (st ((AL.Sep.cutAt 58 (List.getD (AL.Sep.splitC 44 s) k [])).2.1)), tc (bo ((AL.Sep.cutAt 58 (List.getD (AL.Sep.splitC 44 s) k [])).2.2))]) [])] [Spec Tryz.prog 95 [tc (st (List.getD (AL.Sep.splitC 44 s) k [])), tc (st [58])] (ofH []) (AV.tup [tc (st ((AL.Sep.cutAt 58 (List.getD (AL.Sep.splitC 44 s) k [])).1)), tc (st ((AL.Sep.cutAt 58 (List.getD (AL.Sep.splitC 44 s) k [])).2.1)), tc (bo ((AL.Sep.cutAt 58 (List.getD (AL.Sep.splitC 44 s) k [])).2.2))]) (ofH [])] 52 [(4, vo 4), (7, vc (st ((AL.Sep.cutAt 58 (List.getD (AL.Sep.splitC 44 s) k [])).1))), (8, vc (st ((AL.Sep.cutAt 58 (List.getD (AL.Sep.splitC 44 s) k [])).2.1))), (9, vc (bo ((AL.Sep.cutAt 58 (List.getD (AL.Sep.splitC 44 s) k [])).2.2))), (16, vc (AL.Fnv.slS (AL.Sep.splitC 44 s))), (17, vc (i6 (List.length (AL.Sep.splitC 44 s : List Bytes) : Int))), (18, vc (i6 (k : Int)))] [(4, AObj.grow 80 2 RuleV ([], 0) rowP (ruled (List.take k (AL.Sep.splitC 44 s))))] (AL.Sep.Cut_c 58 (List.getD (AL.Sep.splitC 44 s) k [])) ?_
   refine gS [(1, CE.call [] [] (AV.tup [tc (u8 ((capsR ((AL.Sep.cutAt 58 (List.getD (AL.Sep.splitC 44 s) k [])).2.1)).1)), tc (bo ((capsR ((AL.Sep.cutAt 58 (List.getD (AL.Sep.splitC 44 s) k [])).2.1)).2))]) [])] [Spec Tryz.prog 96 [tc (st ((AL.Sep.cutAt 58 (List.getD (AL.Sep.splitC 44 s) k [])).2.1))] (ofH []) (AV.tup [tc (u8 ((capsR ((AL.Sep.cutAt 58 (List.getD (AL.Sep.splitC 44 s) k [])).2.1)).1)), tc (bo ((capsR ((AL.Sep.cutAt 58 (List.getD (AL.Sep.splitC 44 s) k [])).2.1)).2))]) (ofH [])] 52 [(4, vo 4), (7, vc (st ((AL.Sep.cutAt 58 (List.getD (AL.Sep.splitC 44 s) k [])).1))), (9, vc (bo ((AL.Sep.cutAt 58 (List.getD (AL.Sep.splitC 44 s) k [])).2.2))), (10, vc (u8 ((capsR ((AL.Sep.cutAt 58 (List.getD (AL.Sep.splitC 44 s) k [])).2.1)).1))), (11, vc (bo ((capsR ((AL.Sep.cutAt 58 (List.getD (AL.Sep.splitC 44 s) k [])).2.1)).2))), (16, vc (AL.Fnv.slS (AL.Sep.splitC 44 s))), (17, vc (i6 (List.length (AL.Sep.splitC 44 s : List Bytes) : Int))), (18, vc (i6 (k : Int)))] [(4, AObj.grow 80 2 RuleV ([], 0) rowP (ruled (List.take k (AL.Sep.splitC 44 s))))] (caps_c ((AL.Sep.cutAt 58 (List.getD (AL.Sep.splitC 44 s) k [])).2.1)) ?_
   refine gQ ?_
   refine gS [] [((!((AL.Sep.cutAt 58 (List.getD (AL.Sep.splitC 44 s) k [])).2.2)) = false) → allP [(!((AL.Sep.cutAt 58 (List.getD (AL.Sep.splitC 44 s) k [])).2.2)) = false], (!((AL.Sep.cutAt 58 (List.getD (AL.Sep.splitC 44 s) k [])).2.2)) = false → allP [(!((AL.Sep.cutAt 58 (List.getD (AL.Sep.splitC 44 s) k [])).2.2)) = false]] 52 [(4, vo 4), (7, vc (st ((AL.Sep.cutAt 58 (List.getD (AL.Sep.splitC 44 s) k [])).1))), (10, vc (u8 ((capsR ((AL.Sep.cutAt 58 (List.getD (AL.Sep.splitC 44 s) k [])).2.1)).1))), (16, vc (AL.Fnv.slS (AL.Sep.splitC 44 s))), (17, vc (i6 (List.length (AL.Sep.splitC 44 s : List Bytes) : Int))), (18, vc (i6 (k : Int))), (38, vc (bo ((!((AL.Sep.cutAt 58 (List.getD (AL.Sep.splitC 44 s) k [])).2.2)) || (!((capsR ((AL.Sep.cutAt 58 (List.getD (AL.Sep.splitC 44 s) k [])).2.1)).2)))))] [(4, AObj.grow 80 2 RuleV ([], 0) rowP (ruled (List.take k (AL.Sep.splitC 44 s))))] ⟨(fun hp => hp), (fun hp2 => (by first | exact hp2 | exact ⟨hp, hp2⟩))⟩ ?_
   refine gB (((!((AL.Sep.cutAt 58 (List.getD (AL.Sep.splitC 44 s) k [])).2.2)) || (!((capsR ((AL.Sep.cutAt 58 (List.getD (AL.Sep.splitC 44 s) k [])).2.1)).2)))) (fun hc3 => ?_) fun hc3 => ?_
   ·
    try simp only [xT, xF, xO, xP, xN, xM] at hc3
    refine gS [] [] 52 [(2, vc (SC.nilsl)), (3, vc (i6 4))] [] trivial ?_
    refine AMx.ent (ent_weak 2 (v' := vc (slP [])) (by kernel_rfl) (AV.le_t (TV.le_c AC.le_nil))) ?_
    exact gT (AV.tup [tc (slP []), tc (i6 4)]) (by rw [show parseP s = ([], 4) from by rw [parse_bad hc1 (fine_bad (k := k) (by omega) (by rw [scan_no (fun q => by rcases hc3 with z | z; rw [q.1] at z; cases z; rw [q.2] at z; cases z)]))]])
   ·
    try simp only [xT, xF, xO, xP, xN, xM] at hc3
    refine AMx.skip ?_
    refine gR [(4, CE.obj (AObj.grow 80 2 RuleV ([], 0) rowP [(((AL.Sep.cutAt 58 (List.getD (AL.Sep.splitC 44 s) k [])).1, (capsR ((AL.Sep.cutAt 58 (List.getD (AL.Sep.splitC 44 s) k [])).2.1)).1) : RuleV)])), (5, CE.obj (AObj.grow 80 2 RuleV ([], 0) rowP ((ruled (List.take k (AL.Sep.splitC 44 s))) ++ [(((AL.Sep.cutAt 58 (List.getD (AL.Sep.splitC 44 s) k [])).1, (capsR ((AL.Sep.cutAt 58 (List.getD (AL.Sep.splitC 44 s) k [])).2.1)).1) : RuleV)])))] [flat 2 rowP [(((AL.Sep.cutAt 58 (List.getD (AL.Sep.splitC 44 s) k [])).1, (capsR ((AL.Sep.cutAt 58 (List.getD (AL.Sep.splitC 44 s) k [])).2.1)).1) : RuleV)] = [.s (st ((AL.Sep.cutAt 58 (List.getD (AL.Sep.splitC 44 s) k [])).1)), .s (u8 ((capsR ((AL.Sep.cutAt 58 (List.getD (AL.Sep.splitC 44 s) k [])).2.1)).1))], List.length ([(((AL.Sep.cutAt 58 (List.getD (AL.Sep.splitC 44 s) k [])).1, (capsR ((AL.Sep.cutAt 58 (List.getD (AL.Sep.splitC 44 s) k [])).2.1)).1) : RuleV)] : List RuleV) = 1, AppC (flat 2 rowP [(((AL.Sep.cutAt 58 (List.getD (AL.Sep.splitC 44 s) k [])).1, (capsR ((AL.Sep.cutAt 58 (List.getD (AL.Sep.splitC 44 s) k [])).2.1)).1) : RuleV)]) (List.length ([(((AL.Sep.cutAt 58 (List.getD (AL.Sep.splitC 44 s) k [])).1, (capsR ((AL.Sep.cutAt 58 (List.getD (AL.Sep.splitC 44 s) k [])).2.1)).1) : RuleV)] : List RuleV)) 24 (AObj.grow 80 2 RuleV ([], 0) rowP (ruled (List.take k (AL.Sep.splitC 44 s)))) (AObj.grow 80 2 RuleV ([], 0) rowP ((ruled (List.take k (AL.Sep.splitC 44 s))) ++ [(((AL.Sep.cutAt 58 (List.getD (AL.Sep.splitC 44 s) k [])).1, (capsR ((AL.Sep.cutAt 58 (List.getD (AL.Sep.splitC 44 s) k [])).2.1)).1) : RuleV)]))] 52 [(4, vo 44), (16, vc (AL.Fnv.slS (AL.Sep.splitC 44 s))), (17, vc (i6 (List.length (AL.Sep.splitC 44 s : List Bytes) : Int))), (18, vc (i6 (k : Int)))] [(44, AObj.grow 80 2 RuleV ([], 0) rowP ((ruled (List.take k (AL.Sep.splitC 44 s))) ++ [(((AL.Sep.cutAt 58 (List.getD (AL.Sep.splitC 44 s) k [])).1, (capsR ((AL.Sep.cutAt 58 (List.getD (AL.Sep.splitC 44 s) k [])).2.1)).1) : RuleV)]))] ⟨rfl, rfl, (⟨_, rfl, rfl, rfl, by simp only [List.length_append, List.length_cons, List.length_nil, List.length_replicate, List.length_map, List.length_take, List.length_drop, pref_len, ruled_len]; omega, by simp only [maxLen, List.length_append, List.length_cons, List.length_nil, List.length_replicate, List.length_map, List.length_take, List.length_drop, pref_len, ruled_len]; omega⟩)⟩ ?_
    refine AMx.blk ?_
    refine gR [] [InR .i64 ((k : Int) + 1)] 52 [(4, vo 44), (16, vc (AL.Fnv.slS (AL.Sep.splitC 44 s))), (17, vc (i6 (List.length (AL.Sep.splitC 44 s : List Bytes) : Int))), (18, vc (i6 ((k : Int) + 1)))] [(44, AObj.grow 80 2 RuleV ([], 0) rowP ((ruled (List.take k (AL.Sep.splitC 44 s))) ++ [(((AL.Sep.cutAt 58 (List.getD (AL.Sep.splitC 44 s) k [])).1, (capsR ((AL.Sep.cutAt 58 (List.getD (AL.Sep.splitC 44 s) k [])).2.1)).1) : RuleV)]))] (show InR .i64 ((k : Int) + 1) from (inR64 (by first | omega | ((try simp only [List.length_append, List.length_cons, List.length_nil, List.length_replicate, List.length_map, List.length_take, List.length_drop, pref_len, ruled_len]); omega) | (have hpc := Sep.mem_len (Lib.getD_mem [] (AL.Sep.splitC 44 s) k (by omega)); omega)) (by first | omega | ((try simp only [List.length_append, List.length_cons, List.length_nil, List.length_replicate, List.length_map, List.length_take, List.length_drop, pref_len, ruled_len]); omega) | (have hpc := Sep.mem_len (Lib.getD_mem [] (AL.Sep.splitC 44 s) k (by omega)); omega)))) ?_
    refine AMx.ent_inv (s' := AS.lst 52 [(4, vo 4), (16, vc (AL.Fnv.slS (AL.Sep.splitC 44 s))), (17, vc (i6 (List.length (AL.Sep.splitC 44 s : List Bytes) : Int))), (18, vc (i6 ((k : Int) + 1)))] [(4, AObj.grow 80 2 RuleV ([], 0) rowP ((ruled (List.take k (AL.Sep.splitC 44 s))) ++ [(((AL.Sep.cutAt 58 (List.getD (AL.Sep.splitC 44 s) k [])).1, (capsR ((AL.Sep.cutAt 58 (List.getD (AL.Sep.splitC 44 s) k [])).2.1)).1) : RuleV)]))]) (ent_swap 44 4 (by kernel_rfl) (by kernel_rfl)) ?_
    refine AMx.ent_inv (s' := AS.lst 52 [(4, vo 4), (16, vc (AL.Fnv.slS (AL.Sep.splitC 44 s))), (17, vc (i6 (List.length (AL.Sep.splitC 44 s : List Bytes) : Int))), (18, vc (i6 ((k : Int) + 1)))] [(4, AObj.grow 80 2 RuleV ([], 0) rowP ((ruled (List.take k (AL.Sep.splitC 44 s))) ++ [(((AL.Sep.cutAt 58 (List.getD (AL.Sep.splitC 44 s) k [])).1, (capsR ((AL.Sep.cutAt 58 (List.getD (AL.Sep.splitC 44 s) k [])).2.1)).1) : RuleV)]))]) (ent_proj [4, 16, 17, 18] [4]) ?_
    refine AMx.inv ⟨_, ?_, k + 1, ?_, rfl, ?_⟩
    rotate_left
    · exact ⟨by omega, fine_step (by omega) hN (by rw [scan_ok hc3.1 hc3.2])⟩
    · rw [← ruled_step (AL.Sep.splitC 44 s) k (by omega), scan_ok hc3.1 hc3.2]; rfl
    · omega
  ·
   refine AMx.exit ?_
   refine AMx.code_exit ?_
   refine AMx.inv_exit ?_
   refine AMx.blk_exit ?_
   rw [show List.take k (AL.Sep.splitC 44 s) = AL.Sep.splitC 44 s from List.take_of_length_le (by omega)]
   refine gQ ?_
   refine gQ ?_
   refine AMx.ent (s' := AS.lst 52 [(4, vc (slP (ruled (AL.Sep.splitC 44 s)))), (16, vc (AL.Fnv.slS (AL.Sep.splitC 44 s))), (17, vc (i6 (List.length (AL.Sep.splitC 44 s : List Bytes) : Int))), (18, vc (i6 (k : Int))), (19, vc (bo (decide ((k : Int) < (List.length (AL.Sep.splitC 44 s : List Bytes) : Int)))))] []) (ent_freeze (id := 4) (T := 80) (by kernel_rfl)) ?_
   refine gR [(1, CE.call [] [] (vc (i6 (checkP (ruled (AL.Sep.splitC 44 s))))) [])] [Spec Tryz.prog 41 [tc (slP (ruled (AL.Sep.splitC 44 s)))] (ofH []) (vc (i6 (checkP (ruled (AL.Sep.splitC 44 s))))) (ofH [])] 52 [(4, vc (slP (ruled (AL.Sep.splitC 44 s)))), (12, vc (i6 (checkP (ruled (AL.Sep.splitC 44 s)))))] [] (Check_c (ruled (AL.Sep.splitC 44 s))) ?_
   refine gS [] [] 52 [(4, vc (slP (ruled (AL.Sep.splitC 44 s)))), (12, vc (i6 (checkP (ruled (AL.Sep.splitC 44 s))))), (49, vc (bo (!decide (checkP (ruled (AL.Sep.splitC 44 s)) = 0))))] [] trivial ?_
   refine gN (checkP (ruled (AL.Sep.splitC 44 s)) = 0) (fun hc4 => ?_) fun hc4 => ?_
   ·
    refine gS [] [] 52 [(2, vc (SC.nilsl)), (3, vc (i6 (checkP (ruled (AL.Sep.splitC 44 s)))))] [] trivial ?_
    refine AMx.ent (ent_weak 2 (v' := vc (slP [])) (by kernel_rfl) (AV.le_t (TV.le_c AC.le_nil))) ?_
    exact gT (AV.tup [tc (slP []), tc (i6 (checkP (ruled (AL.Sep.splitC 44 s))))]) (by rw [show parseP s = ([], checkP (ruled (AL.Sep.splitC 44 s))) from by have hf : fineS (Sep.splitC 44 s) = true := (by rw [← hN, List.take_of_length_le (by omega)]); rw [parse_no hc1 hf (by assumption)]])
   ·
    refine AMx.skip ?_
    refine gS [] [] 52 [(2, vc (slP (ruled (AL.Sep.splitC 44 s)))), (3, vc (i6 0))] [] trivial ?_
    exact gT (AV.tup [tc (slP (ruled (AL.Sep.splitC 44 s))), tc (i6 0)]) (by rw [show parseP s = (ruled (AL.Sep.splitC 44 s), 0) from by have hf : fineS (Sep.splitC 44 s) = true := (by rw [← hN, List.take_of_length_le (by omega)]); rw [parse_ok hc1 hf (by assumption)]])
end AL.Policy
namespace AL.Policy
open Go Go.Proofs AL AL.Rune
set_option linter.unusedVariables false
set_option linter.unusedSimpArgs false
theorem f98_body : Tryz.f98.body = some (.seq (.region 0 (rg Tryz.f98 0) false) (.seq (.region 1 (rg Tryz.f98 1) false) (.seq (.seq (.region 2 (rg Tryz.f98 2) false) (.block 0 (.loop (.seq (.seq (.region 3 (rg Tryz.f98 3) false) (.cond (.tmp 12) (.skip) (.exit 0))) (.seq (.block 1 (.seq (.region 5 (rg Tryz.f98 5) false) (.cond (.tmp 18) (.region 6 (rg Tryz.f98 6) false) (.skip)))) (.region 4 (rg Tryz.f98 4) false)))))) (.seq (.seq (.region 7 (rg Tryz.f98 7) false) (.cond (.tmp 21) (.seq (.region 8 (rg Tryz.f98 8) false) (.ret)) (.skip))) (.seq (.seq (.region 9 (rg Tryz.f98 9) false) (.block 2 (.loop (.seq (.seq (.region 10 (rg Tryz.f98 10) false) (.cond (.tmp 24) (.skip) (.exit 2))) (.seq (.block 3 (.seq (.region 12 (rg Tryz.f98 12) false) (.seq (.region 13 (rg Tryz.f98 13) false) (.cond (.tmp 36) (.seq (.region 14 (rg Tryz.f98 14) false) (.ret)) (.skip))))) (.region 11 (rg Tryz.f98 11) false)))))) (.seq (.region 15 (rg Tryz.f98 15) false) (.ret))))))) := by kernel_rfl
set_option maxRecDepth 100000 in
set_option maxHeartbeats 8000000 in
theorem scan_c (s : Bytes) (hb : s.length ≤ 100000) : Pure Tryz.prog 98 [tc (st s)] (AV.tup [TV.agg [.s (st (((scanP s).1).1)), .s (u8 (((scanP s).1).2))], tc (bo ((scanP s).2))]) := by
 refine Pure.of_body Tryz.func98 f98_body (by kernel_rfl) Tryz.ntmps98 (by kernel_rfl) (by kernel_rfl) ?_
 refine gS [] [] 39 [(0, vc (st s)), (2, vp 2 0)] [(2, AObj.row [.s (st []), .s (u8 0)])] trivial ?_
 refine gS [] [] 39 [(0, vc (st s)), (2, vp 2 0), (4, vc (i6 (-1)))] [(2, AObj.row [.s (st []), .s (u8 0)])] trivial ?_
 refine gQ ?_
 refine gS [] [InR .i64 ((List.length s : Int) - 1)] 39 [(0, vc (st s)), (2, vp 2 0), (4, vc (i6 (-1))), (5, vc (i6 ((List.length s : Int) - 1)))] [(2, AObj.row [.s (st []), .s (u8 0)])] (show InR .i64 ((List.length s : Int) - 1) from (inR64 (by first | omega | (have hz := first_rng hF; first | omega | (simp only [List.length_take]; omega))) (by first | omega | (have hz := first_rng hF; first | omega | (simp only [List.length_take]; omega))))) ?_
 refine AMx.block ?_
 refine AMx.ent (s' := AS.lst 39 [(0, vc (st s)), (2, vp 2 0), (4, vc (i6 (-1))), (5, vc (i6 ((List.length s : Int) - 1)))] [(2, AObj.row [.s (st []), .s (u8 0)])]) (ent_proj [0, 2, 4, 5] [2]) ?_
 refine AMx.loop (fun mm ss => ∃ (k : Nat) (a : Int), (k ≤ s.length ∧ FirstAt s k a) ∧ mm = 1 + k ∧ ss = AS.lst 39 [(0, vc (st s)), (2, vp 2 0), (4, vc (i6 a)), (5, vc (i6 ((k : Int) - 1)))] [(2, AObj.row [.s (st []), .s (u8 0)])]) ⟨s.length, -1, ?_, rfl, ?_⟩ ?_
 · exact ⟨Nat.le_refl _, first_start s⟩
 · rfl
 rintro mm ss ⟨k, a, ⟨hI, hF⟩, rfl, rfl⟩
 refine gQ ?_
 refine gS [] [] 39 [(0, vc (st s)), (2, vp 2 0), (4, vc (i6 a)), (5, vc (i6 ((k : Int) - 1))), (12, vc (bo (decide (0 ≤ (k : Int) - 1))))] [(2, AObj.row [.s (st []), .s (u8 0)])] trivial ?_
 refine gC (0 ≤ (k : Int) - 1) (fun hc1 => ?_) fun hc1 => ?_
 ·
  refine AMx.skip ?_
  refine gQ ?_
  refine AMx.block ?_
  refine gS [] [(0 : Int) ≤ (k : Int) - 1, (k : Int) - 1 < List.length s] 39 [(0, vc (st s)), (2, vp 2 0), (4, vc (i6 a)), (5, vc (i6 ((k : Int) - 1))), (18, vc (bo (decide (((List.getD s ((k : Int) - 1).toNat 0).toNat : Int) = 58))))] [(2, AObj.row [.s (st []), .s (u8 0)])] ⟨(by first | omega | (have hz := first_rng hF; first | omega | (simp only [List.length_take]; omega))), (show (k : Int) - 1 < List.length s from (by first | omega | (have hz := first_rng hF; first | omega | (simp only [List.length_take]; omega))))⟩ ?_
  refine gC (((List.getD s ((k : Int) - 1).toNat 0).toNat : Int) = 58) (fun hc2 => ?_) fun hc2 => ?_
  ·
   refine gR [] [] 39 [(0, vc (st s)), (2, vp 2 0), (4, vc (i6 ((k : Int) - 1))), (5, vc (i6 ((k : Int) - 1)))] [(2, AObj.row [.s (st []), .s (u8 0)])] trivial ?_
   refine AMx.blk ?_
   refine gR [] [InR .i64 (((k : Int) - 1) - 1)] 39 [(0, vc (st s)), (2, vp 2 0), (4, vc (i6 ((k : Int) - 1))), (5, vc (i6 (((k : Int) - 1) - 1)))] [(2, AObj.row [.s (st []), .s (u8 0)])] (show InR .i64 (((k : Int) - 1) - 1) from (inR64 (by first | omega | (have hz := first_rng hF; first | omega | (simp only [List.length_take]; omega))) (by first | omega | (have hz := first_rng hF; first | omega | (simp only [List.length_take]; omega))))) ?_
   refine AMx.ent_inv (s' := AS.lst 39 [(0, vc (st s)), (2, vp 2 0), (4, vc (i6 ((k : Int) - 1))), (5, vc (i6 (((k : Int) - 1) - 1)))] [(2, AObj.row [.s (st []), .s (u8 0)])]) (ent_proj [0, 2, 4, 5] [2]) ?_
   refine AMx.inv ⟨_, ?_, k - 1, (k : Int) - 1, ?_, rfl, ?_⟩
   rotate_left
   · exact ⟨by omega, first_hit (a := a) (by omega) hI hc2⟩
   · rw [show ((k - 1 : Nat) : Int) - 1 = (k : Int) - 1 - 1 by omega] <;> rfl
   · omega
  ·
   refine AMx.skip ?_
   refine AMx.blk ?_
   refine gR [] [InR .i64 (((k : Int) - 1) - 1)] 39 [(0, vc (st s)), (2, vp 2 0), (4, vc (i6 a)), (5, vc (i6 (((k : Int) - 1) - 1)))] [(2, AObj.row [.s (st []), .s (u8 0)])] (show InR .i64 (((k : Int) - 1) - 1) from (inR64 (by first | omega | (have hz := first_rng hF; first | omega | (simp only [List.length_take]; omega))) (by first | omega | (have hz := first_rng hF; first | omega | (simp only [List.length_take]; omega))))) ?_
   refine AMx.ent_inv (s' := AS.lst 39 [(0, vc (st s)), (2, vp 2 0), (4, vc (i6 a)), (5, vc (i6 (((k : Int) - 1) - 1)))] [(2, AObj.row [.s (st []), .s (u8 0)])]) (ent_proj [0, 2, 4, 5] [2]) ?_
   refine AMx.inv ⟨_, ?_, k - 1, a, ?_, rfl, ?_⟩
   rotate_left
   · exact ⟨by omega, first_not hF (by omega) hI hc2⟩
   · rw [show ((k - 1 : Nat) : Int) - 1 = (k : Int) - 1 - 1 by omega] <;> rfl
   · omega
 ·
  refine AMx.exit ?_
  refine AMx.code_exit ?_
  refine AMx.inv_exit ?_
  refine AMx.blk_exit ?_
  refine gQ ?_
  refine gS [] [] 39 [(0, vc (st s)), (2, vp 2 0), (4, vc (i6 a)), (21, vc (bo (decide (a < 0))))] [(2, AObj.row [.s (st []), .s (u8 0)])] trivial ?_
  refine gC (a < 0) (fun hc3 => ?_) fun hc3 => ?_
  ·
   refine gS [] [] 39 [(2, vp 2 0), (3, vc (bo false))] [(2, AObj.row [.s (st []), .s (u8 0)])] trivial ?_
   exact gT (AV.tup [TV.agg [.s (st []), .s (u8 0)], tc (bo false)]) (by rw [show scanP s = ((([], 0) : RuleV), false) from by obtain rfl : k = 0 := (by omega); first | (rw [scan_neg hF (by omega)]; done) | (rw [scan_hit (n := n) hF (by omega) (by omega) (by assumption)]; done) | (rw [scan_end hF (by omega) (fun m hm => hM m (by omega))])])
  ·
   refine AMx.skip ?_
   refine gQ ?_
   refine gS [] [] 39 [(0, vc (st s)), (2, vp 2 0), (4, vc (i6 a)), (6, vc (i6 0))] [(2, AObj.row [.s (st []), .s (u8 0)])] trivial ?_
   refine AMx.block ?_
   refine AMx.ent (s' := AS.lst 39 [(0, vc (st s)), (2, vp 2 0), (4, vc (i6 a)), (6, vc (i6 0))] [(2, AObj.row [.s (st []), .s (u8 0)])]) (ent_proj [0, 2, 4, 6] [2]) ?_
   refine AMx.loop (fun mm ss => ∃ (n : Nat), (n ≤ 64 ∧ ∀ m : Nat, m < n → ¬ pieceS (List.take a.toNat s, (m : Int)) = s) ∧ mm = 64 - n ∧ ss = AS.lst 39 [(0, vc (st s)), (2, vp 2 0), (4, vc (i6 a)), (6, vc (i6 (n : Int)))] [(2, AObj.row [.s (st []), .s (u8 0)])]) ⟨0, ?_, rfl, ?_⟩ ?_
   · exact ⟨Nat.zero_le _, fun m hm => by omega⟩
   · rfl
   rintro mm ss ⟨n, ⟨hN, hM⟩, rfl, rfl⟩
   refine gQ ?_
   refine gS [] [] 39 [(0, vc (st s)), (2, vp 2 0), (4, vc (i6 a)), (6, vc (i6 (n : Int))), (24, vc (bo (decide ((n : Int) ≤ 63))))] [(2, AObj.row [.s (st []), .s (u8 0)])] trivial ?_
   refine gC ((n : Int) ≤ 63) (fun hc4 => ?_) fun hc4 => ?_
   ·
    refine AMx.skip ?_
    refine gQ ?_
    refine AMx.block ?_
    refine gS [] [0 ≤ a, a ≤ List.length s] 39 [(0, vc (st s)), (2, vp 2 0), (4, vc (i6 a)), (6, vc (i6 (n : Int))), (7, vp 7 0)] [(2, AObj.row [.s (st []), .s (u8 0)]), (7, AObj.row [.s (st (List.take (a).toNat s)), .s (u8 (IntKind.wrap .u8 ((n : Int))))])] ⟨(by first | omega | (have hz := first_rng hF; first | omega | (simp only [List.length_take]; omega))), (show a ≤ List.length s from (by first | omega | (have hz := first_rng hF; first | omega | (simp only [List.length_take]; omega))))⟩ ?_
    rw [show IntKind.wrap .u8 ((n : Int)) = (n : Int) from wrap_byte (by omega)]
    refine gS [(1, CE.call [] [] (vc (st (pieceS ((List.take (a).toNat s, (n : Int)) : RuleV)))) [])] [Spec Tryz.prog 90 [TV.agg [.s (st (List.take (a).toNat s)), .s (u8 (n : Int))]] (ofH []) (vc (st (pieceS ((List.take (a).toNat s, (n : Int)) : RuleV)))) (ofH [])] 39 [(0, vc (st s)), (2, vp 2 0), (4, vc (i6 a)), (6, vc (i6 (n : Int))), (7, vp 7 0), (36, vc (bo (decide (pieceS ((List.take (a).toNat s, (n : Int)) : RuleV) = s))))] [(2, AObj.row [.s (st []), .s (u8 0)]), (7, AObj.row [.s (st (List.take (a).toNat s)), .s (u8 (n : Int))])] (one_c ((List.take (a).toNat s, (n : Int)) : RuleV) (by first | omega | (have hz := first_rng hF; first | omega | (simp only [List.length_take]; omega)))) ?_
    refine gC (pieceS ((List.take (a).toNat s, (n : Int)) : RuleV) = s) (fun hc5 => ?_) fun hc5 => ?_
    ·
     refine gS [] [] 39 [(2, vp 2 0), (3, vc (bo true))] [(2, AObj.row [.s (st (List.take (a).toNat s)), .s (u8 (n : Int))])] trivial ?_
     exact gT (AV.tup [TV.agg [.s (st (List.take (a).toNat s)), .s (u8 (n : Int))], tc (bo true)]) (by rw [show scanP s = (((List.take (a).toNat s, (n : Int)) : RuleV), true) from by obtain rfl : k = 0 := (by omega); first | (rw [scan_neg hF (by omega)]; done) | (rw [scan_hit (n := n) hF (by omega) (by omega) (by assumption)]; done) | (rw [scan_end hF (by omega) (fun m hm => hM m (by omega))])])
    ·
     refine AMx.skip ?_
     refine AMx.blk ?_
     refine gR [] [InR .i64 ((n : Int) + 1)] 39 [(0, vc (st s)), (2, vp 2 0), (4, vc (i6 a)), (6, vc (i6 ((n : Int) + 1)))] [(2, AObj.row [.s (st []), .s (u8 0)])] (show InR .i64 ((n : Int) + 1) from (inR64 (by first | omega | (have hz := first_rng hF; first | omega | (simp only [List.length_take]; omega))) (by first | omega | (have hz := first_rng hF; first | omega | (simp only [List.length_take]; omega))))) ?_
     refine AMx.ent_inv (s' := AS.lst 39 [(0, vc (st s)), (2, vp 2 0), (4, vc (i6 a)), (6, vc (i6 ((n : Int) + 1)))] [(2, AObj.row [.s (st []), .s (u8 0)])]) (ent_proj [0, 2, 4, 6] [2]) ?_
     refine AMx.inv ⟨_, ?_, n + 1, ?_, rfl, ?_⟩
     rotate_left
     · exact ⟨by omega, fun m hm => by rcases Nat.lt_or_ge m n with q | q; exact hM m q; rw [show m = n by omega]; assumption⟩
     · rfl
     · omega
   ·
    refine AMx.exit ?_
    refine AMx.code_exit ?_
    refine AMx.inv_exit ?_
    refine AMx.blk_exit ?_
    refine gS [] [] 39 [(2, vp 2 0), (3, vc (bo false))] [(2, AObj.row [.s (st []), .s (u8 0)])] trivial ?_
    exact gT (AV.tup [TV.agg [.s (st []), .s (u8 0)], tc (bo false)]) (by rw [show scanP s = ((([], 0) : RuleV), false) from by obtain rfl : k = 0 := (by omega); first | (rw [scan_neg hF (by omega)]; done) | (rw [scan_hit (n := n) hF (by omega) (by omega) (by assumption)]; done) | (rw [scan_end hF (by omega) (fun m hm => hM m (by omega))])])
theorem f68_body : Tryz.f68.body = some (.seq (.region 0 (rg Tryz.f68 0) false) (.seq (.seq (.region 1 (rg Tryz.f68 1) false) (.cond (.tmp 11) (.seq (.region 2 (rg Tryz.f68 2) false) (.ret)) (.skip))) (.seq (.region 3 (rg Tryz.f68 3) false) (.seq (.region 4 (rg Tryz.f68 4) false) (.seq (.seq (.region 5 (rg Tryz.f68 5) false) (.block 0 (.loop (.seq (.seq (.region 6 (rg Tryz.f68 6) false) (.cond (.tmp 15) (.skip) (.exit 0))) (.seq (.block 1 (.seq (.region 8 (rg Tryz.f68 8) false) (.cond (.tmp 27) (.seq (.region 9 (rg Tryz.f68 9) false) (.seq (.seq (.region 10 (rg Tryz.f68 10) false) (.cond (.tmp 37) (.seq (.region 11 (rg Tryz.f68 11) false) (.ret)) (.skip))) (.seq (.region 12 (rg Tryz.f68 12) false) (.region 13 (rg Tryz.f68 13) false)))) (.skip)))) (.region 7 (rg Tryz.f68 7) false)))))) (.seq (.region 14 (rg Tryz.f68 14) false) (.seq (.seq (.region 15 (rg Tryz.f68 15) false) (.cond (.tmp 47) (.seq (.region 16 (rg Tryz.f68 16) false) (.ret)) (.skip))) (.seq (.region 17 (rg Tryz.f68 17) false) (.ret))))))))) := by kernel_rfl
set_option maxRecDepth 100000 in
set_option maxHeartbeats 8000000 in
theorem RParse_c (s : Bytes) (hb : s.length ≤ 100000) : Pure Tryz.prog 68 [tc (st s)] (AV.tup [tc (slP ((parseP s).1)), tc (i6 ((parseP s).2))]) := by
 refine Pure.of_body Tryz.func68 f68_body (by kernel_rfl) Tryz.ntmps68 (by kernel_rfl) (by kernel_rfl) ?_
 refine gS [] [] 50 [(0, vc (st s))] [] trivial ?_
 refine gQ ?_
 refine gS [] [] 50 [(0, vc (st s)), (11, vc (bo (decide (s = []))))] [] trivial ?_
 refine gC (s = []) (fun hc1 => ?_) fun hc1 => ?_
 ·
  refine gS [] [] 50 [(2, vc (SC.nilsl)), (3, vc (i6 0))] [] trivial ?_
  refine AMx.ent (ent_weak 2 (v' := vc (slP [])) (by kernel_rfl) (AV.le_t (TV.le_c AC.le_nil))) ?_
  exact gT (AV.tup [tc (slP []), tc (i6 0)]) (by rw [show parseP s = ([], 0) from by rw [hc1]; rfl])
 ·
  refine AMx.skip ?_
  refine gS [] [] 50 [(0, vc (st s)), (4, vc (SC.nilsl))] [] trivial ?_
  refine gS [] [] 50 [(0, vc (st s)), (4, vc (SC.nilsl)), (5, vc (i6 0))] [] trivial ?_
  refine gQ ?_
  refine gS [] [] 50 [(0, vc (st s)), (4, vc (SC.nilsl)), (5, vc (i6 0)), (6, vc (i6 0))] [] trivial ?_
  refine AMx.block ?_
  refine AMx.ent (s' := AS.lst 50 [(0, vc (st s)), (4, vo 4), (5, vc (i6 0)), (6, vc (i6 0))] [(4, AObj.grow 82 2 RuleV ([], 0) rowP [])]) (ent_adopt (t := 4) (d := 4) 82 2 RuleV ([], 0) rowP (by kernel_rfl) (by kernel_rfl) (by kernel_rfl) (by kernel_rfl)) ?_
  refine AMx.ent (s' := AS.lst 50 [(0, vc (st s)), (4, vo 4), (5, vc (i6 0)), (6, vc (i6 0))] [(4, AObj.grow 82 2 RuleV ([], 0) rowP [])]) (ent_proj [0, 4, 5, 6] [4]) ?_
  refine AMx.loop (fun mm ss => ∃ (i : Nat) (f : Nat) (o : List Bytes), (Sep.SInv 44 s i f o ∧ fineS o = true) ∧ mm = s.length + 1 - i ∧ ss = AS.lst 50 [(0, vc (st s)), (4, vo 4), (5, vc (i6 (f : Int))), (6, vc (i6 (i : Int)))] [(4, AObj.grow 82 2 RuleV ([], 0) rowP (ruled o))]) ⟨0, 0, [], ?_, rfl, ?_⟩ ?_
  · exact ⟨Sep.sinv_0 44 s, rfl⟩
  · rfl
  rintro mm ss ⟨i, f, o, ⟨hP, hN⟩, rfl, rfl⟩
  refine gQ ?_
  refine gS [] [] 50 [(0, vc (st s)), (4, vo 4), (5, vc (i6 (f : Int))), (6, vc (i6 (i : Int))), (15, vc (bo (decide ((i : Int) ≤ (List.length s : Int)))))] [(4, AObj.grow 82 2 RuleV ([], 0) rowP (ruled o))] trivial ?_
  refine gC ((i : Int) ≤ (List.length s : Int)) (fun hc2 => ?_) fun hc2 => ?_
  ·
   refine AMx.skip ?_
   refine gQ ?_
   refine AMx.block ?_
   refine gS [] [((decide ((i : Int) = (List.length s : Int))) = false) → allP [(decide ((i : Int) = (List.length s : Int))) = false, (decide ((i : Int) = (List.length s : Int))) = false, (0 : Int) ≤ (i : Int), (i : Int) < List.length s], ((decide ((i : Int) = (List.length s : Int))) = false) → allP [(decide ((i : Int) = (List.length s : Int))) = false], (decide ((i : Int) = (List.length s : Int))) = false → allP [(decide ((i : Int) = (List.length s : Int))) = false]] 50 [(0, vc (st s)), (4, vo 4), (5, vc (i6 (f : Int))), (6, vc (i6 (i : Int))), (27, vc (bo ((decide ((i : Int) = (List.length s : Int))) || (decide (((List.getD s i 0).toNat : Int) = 44)))))] [(4, AObj.grow 82 2 RuleV ([], 0) rowP (ruled o))] ⟨(fun hp => by have hq := hp; (try simp only [xT, xF, xA, xO, xB, xP, xN, xM, Bool.not_eq_true, Bool.not_eq_false] at hq); exact ⟨hp, hp, (by first | omega | (have hz := Sep.sinv_len hP; first | omega | ((try simp only [List.length_append, List.length_cons, List.length_nil, List.length_replicate, List.length_map, List.length_take, List.length_drop, pref_len, ruled_len]); omega))), (show (i : Int) < List.length s from (by first | omega | (have hz := Sep.sinv_len hP; first | omega | ((try simp only [List.length_append, List.length_cons, List.length_nil, List.length_replicate, List.length_map, List.length_take, List.length_drop, pref_len, ruled_len]); omega))))⟩), (fun hp => hp), (fun hp2 => (by first | exact hp2 | exact ⟨hp, hp2⟩))⟩ ?_
   refine gB (((decide ((i : Int) = (List.length s : Int))) || (decide (((List.getD s i 0).toNat : Int) = 44)))) (fun hc3 => ?_) fun hc3 => ?_
   ·
    try simp only [xT, xF, xO, xP] at hc3
    refine gS [(4, CE.call [] [] (AV.tup [TV.agg [.s (st (((scanP (List.drop f (List.take i s))).1).1)), .s (u8 (((scanP (List.drop f (List.take i s))).1).2))], tc (bo ((scanP (List.drop f (List.take i s))).2))]) [])] [0 ≤ (i : Int), (i : Int) ≤ List.length s, 0 ≤ (f : Int), (f : Int) ≤ (i : Int), Spec Tryz.prog 98 [tc (st (List.drop f (List.take i s)))] (ofH []) (AV.tup [TV.agg [.s (st (((scanP (List.drop f (List.take i s))).1).1)), .s (u8 (((scanP (List.drop f (List.take i s))).1).2))], tc (bo ((scanP (List.drop f (List.take i s))).2))]) (ofH [])] 50 [(0, vc (st s)), (4, vo 4), (6, vc (i6 (i : Int))), (7, vp 7 0), (8, vc (bo ((scanP (List.drop f (List.take i s))).2)))] [(4, AObj.grow 82 2 RuleV ([], 0) rowP (ruled o)), (7, AObj.row [.s (st (((scanP (List.drop f (List.take i s))).1).1)), .s (u8 (((scanP (List.drop f (List.take i s))).1).2))])] ⟨(by first | omega | (have hz := Sep.sinv_len hP; first | omega | ((try simp only [List.length_append, List.length_cons, List.length_nil, List.length_replicate, List.length_map, List.length_take, List.length_drop, pref_len, ruled_len]); omega))), (by first | omega | (have hz := Sep.sinv_len hP; first | omega | ((try simp only [List.length_append, List.length_cons, List.length_nil, List.length_replicate, List.length_map, List.length_take, List.length_drop, pref_len, ruled_len]); omega))), (by first | omega | (have hz := Sep.sinv_len hP; first | omega | ((try simp only [List.length_append, List.length_cons, List.length_nil, List.length_replicate, List.length_map, List.length_take, List.length_drop, pref_len, ruled_len]); omega))), (by first | omega | (have hz := Sep.sinv_len hP; first | omega | ((try simp only [List.length_append, List.length_cons, List.length_nil, List.length_replicate, List.length_map, List.length_take, List.length_drop, pref_len, ruled_len]); omega))), (scan_c (List.drop f (List.take i s)) (by first | omega | (have hz := Sep.sinv_len hP; first | omega | ((try simp only [List.length_append, List.length_cons, List.length_nil, List.length_replicate, List.length_map, List.length_take, List.length_drop, pref_len, ruled_len]); omega))))⟩ ?_
    refine gQ ?_
    refine gS [] [] 50 [(0, vc (st s)), (4, vo 4), (6, vc (i6 (i : Int))), (7, vp 7 0), (37, vc (bo (!((scanP (List.drop f (List.take i s))).2))))] [(4, AObj.grow 82 2 RuleV ([], 0) rowP (ruled o)), (7, AObj.row [.s (st (((scanP (List.drop f (List.take i s))).1).1)), .s (u8 (((scanP (List.drop f (List.take i s))).1).2))])] trivial ?_
    refine gB (!((scanP (List.drop f (List.take i s))).2)) (fun hc4 => ?_) fun hc4 => ?_
    ·
     try simp only [xT, xF, xN, xM] at hc4
     refine gS [] [] 50 [(2, vc (SC.nilsl)), (3, vc (i6 4))] [] trivial ?_
     refine AMx.ent (ent_weak 2 (v' := vc (slP [])) (by kernel_rfl) (AV.le_t (TV.le_c AC.le_nil))) ?_
     exact gT (AV.tup [tc (slP []), tc (i6 4)]) (by rw [show parseP s = ([], 4) from by rw [parse_bad hc1 (fine_bad_in (sinv_in (ref_hit hP (by omega) hc3)) hc4)]])
    ·
     try simp only [xT, xF, xN, xM] at hc4
     refine AMx.skip ?_
     refine gS [(2, CE.obj (AObj.grow 82 2 RuleV ([], 0) rowP [((scanP (List.drop f (List.take i s))).1)])), (3, CE.obj (AObj.grow 82 2 RuleV ([], 0) rowP ((ruled o) ++ [((scanP (List.drop f (List.take i s))).1)])))] [flat 2 rowP [((scanP (List.drop f (List.take i s))).1)] = [.s (st (((scanP (List.drop f (List.take i s))).1).1)), .s (u8 (((scanP (List.drop f (List.take i s))).1).2))], List.length ([((scanP (List.drop f (List.take i s))).1)] : List RuleV) = 1, AppC (flat 2 rowP [((scanP (List.drop f (List.take i s))).1)]) (List.length ([((scanP (List.drop f (List.take i s))).1)] : List RuleV)) 24 (AObj.grow 82 2 RuleV ([], 0) rowP (ruled o)) (AObj.grow 82 2 RuleV ([], 0) rowP ((ruled o) ++ [((scanP (List.drop f (List.take i s))).1)]))] 50 [(0, vc (st s)), (4, vo 41), (6, vc (i6 (i : Int)))] [(41, AObj.grow 82 2 RuleV ([], 0) rowP ((ruled o) ++ [((scanP (List.drop f (List.take i s))).1)]))] ⟨rfl, rfl, (⟨_, rfl, rfl, rfl, by have hz := Sep.sinv_len hP; simp only [List.length_append, List.length_cons, List.length_nil, List.length_replicate, List.length_map, List.length_take, List.length_drop, pref_len, ruled_len]; omega, by have hz := Sep.sinv_len hP; simp only [maxLen, List.length_append, List.length_cons, List.length_nil, List.length_replicate, List.length_map, List.length_take, List.length_drop, pref_len, ruled_len]; omega⟩)⟩ ?_
     refine gR [] [InR .i64 ((i : Int) + 1)] 50 [(0, vc (st s)), (4, vo 41), (5, vc (i6 ((i : Int) + 1))), (6, vc (i6 (i : Int)))] [(41, AObj.grow 82 2 RuleV ([], 0) rowP ((ruled o) ++ [((scanP (List.drop f (List.take i s))).1)]))] (show InR .i64 ((i : Int) + 1) from (inR64 (by first | omega | (have hz := Sep.sinv_len hP; first | omega | ((try simp only [List.length_append, List.length_cons, List.length_nil, List.length_replicate, List.length_map, List.length_take, List.length_drop, pref_len, ruled_len]); omega))) (by first | omega | (have hz := Sep.sinv_len hP; first | omega | ((try simp only [List.length_append, List.length_cons, List.length_nil, List.length_replicate, List.length_map, List.length_take, List.length_drop, pref_len, ruled_len]); omega))))) ?_
     refine AMx.blk ?_
     refine gR [] [InR .i64 ((i : Int) + 1)] 50 [(0, vc (st s)), (4, vo 41), (5, vc (i6 ((i : Int) + 1))), (6, vc (i6 ((i : Int) + 1)))] [(41, AObj.grow 82 2 RuleV ([], 0) rowP ((ruled o) ++ [((scanP (List.drop f (List.take i s))).1)]))] (show InR .i64 ((i : Int) + 1) from (inR64 (by first | omega | (have hz := Sep.sinv_len hP; first | omega | ((try simp only [List.length_append, List.length_cons, List.length_nil, List.length_replicate, List.length_map, List.length_take, List.length_drop, pref_len, ruled_len]); omega))) (by first | omega | (have hz := Sep.sinv_len hP; first | omega | ((try simp only [List.length_append, List.length_cons, List.length_nil, List.length_replicate, List.length_map, List.length_take, List.length_drop, pref_len, ruled_len]); omega))))) ?_
     refine AMx.ent_inv (s' := AS.lst 50 [(0, vc (st s)), (4, vo 4), (5, vc (i6 ((i : Int) + 1))), (6, vc (i6 ((i : Int) + 1)))] [(4, AObj.grow 82 2 RuleV ([], 0) rowP ((ruled o) ++ [((scanP (List.drop f (List.take i s))).1)]))]) (ent_swap 41 4 (by kernel_rfl) (by kernel_rfl)) ?_
     refine AMx.ent_inv (s' := AS.lst 50 [(0, vc (st s)), (4, vo 4), (5, vc (i6 ((i : Int) + 1))), (6, vc (i6 ((i : Int) + 1)))] [(4, AObj.grow 82 2 RuleV ([], 0) rowP ((ruled o) ++ [((scanP (List.drop f (List.take i s))).1)]))]) (ent_proj [0, 4, 5, 6] [4]) ?_
     refine AMx.inv ⟨_, ?_, i + 1, i + 1, o ++ [(List.drop f (List.take i s))], ?_, rfl, ?_⟩
     rotate_left
     · exact ⟨ref_hit hP (by omega) hc3, fine_snoc hN hc4⟩
     · rw [ruled_snoc]; rfl
     · omega
   ·
    try simp only [xT, xF, xO, xP] at hc3
    refine AMx.skip ?_
    refine AMx.blk ?_
    refine gR [] [InR .i64 ((i : Int) + 1)] 50 [(0, vc (st s)), (4, vo 4), (5, vc (i6 (f : Int))), (6, vc (i6 ((i : Int) + 1)))] [(4, AObj.grow 82 2 RuleV ([], 0) rowP (ruled o))] (show InR .i64 ((i : Int) + 1) from (inR64 (by first | omega | (have hz := Sep.sinv_len hP; first | omega | ((try simp only [List.length_append, List.length_cons, List.length_nil, List.length_replicate, List.length_map, List.length_take, List.length_drop, pref_len, ruled_len]); omega))) (by first | omega | (have hz := Sep.sinv_len hP; first | omega | ((try simp only [List.length_append, List.length_cons, List.length_nil, List.length_replicate, List.length_map, List.length_take, List.length_drop, pref_len, ruled_len]); omega))))) ?_
    refine AMx.ent_inv (s' := AS.lst 50 [(0, vc (st s)), (4, vo 4), (5, vc (i6 (f : Int))), (6, vc (i6 ((i : Int) + 1)))] [(4, AObj.grow 82 2 RuleV ([], 0) rowP (ruled o))]) (ent_proj [0, 4, 5, 6] [4]) ?_
    refine AMx.inv ⟨_, ?_, i + 1, f, o, ?_, rfl, ?_⟩
    rotate_left
    · exact ⟨ref_not hP (by omega) hc3, hN⟩
    · rfl
    · omega
  ·
   refine AMx.exit ?_
   refine AMx.code_exit ?_
   refine AMx.inv_exit ?_
   refine AMx.blk_exit ?_
   refine gQ ?_
   refine AMx.ent (s' := AS.lst 50 [(0, vc (st s)), (4, vc (slP (ruled o))), (5, vc (i6 (f : Int))), (6, vc (i6 (i : Int))), (15, vc (bo (decide ((i : Int) ≤ (List.length s : Int)))))] []) (ent_freeze (id := 4) (T := 82) (by kernel_rfl)) ?_
   refine gR [(1, CE.call [] [] (vc (i6 (checkP (ruled o)))) [])] [Spec Tryz.prog 44 [tc (slP (ruled o))] (ofH []) (vc (i6 (checkP (ruled o)))) (ofH [])] 50 [(4, vc (slP (ruled o))), (9, vc (i6 (checkP (ruled o))))] [] (RCheck_c (ruled o)) ?_
   refine gQ ?_
   refine gS [] [] 50 [(4, vc (slP (ruled o))), (9, vc (i6 (checkP (ruled o)))), (47, vc (bo (!decide (checkP (ruled o) = 0))))] [] trivial ?_
   refine gN (checkP (ruled o) = 0) (fun hc5 => ?_) fun hc5 => ?_
   ·
    refine gS [] [] 50 [(2, vc (SC.nilsl)), (3, vc (i6 (checkP (ruled o))))] [] trivial ?_
    refine AMx.ent (ent_weak 2 (v' := vc (slP [])) (by kernel_rfl) (AV.le_t (TV.le_c AC.le_nil))) ?_
    exact gT (AV.tup [tc (slP []), tc (i6 (checkP (ruled o)))]) (by rw [show parseP s = ([], checkP (ruled o)) from by have he := Sep.sinv_end hP (by omega); rw [parse_no hc1 (by rw [he]; exact hN) (by rw [he]; assumption), he]])
   ·
    refine AMx.skip ?_
    refine gS [] [] 50 [(2, vc (slP (ruled o))), (3, vc (i6 0))] [] trivial ?_
    exact gT (AV.tup [tc (slP (ruled o)), tc (i6 0)]) (by rw [show parseP s = (ruled o, 0) from by have he := Sep.sinv_end hP (by omega); rw [parse_ok hc1 (by rw [he]; exact hN) (by rw [he]; assumption), he]])
end AL.Policy
namespace AL.Token
open Go Go.Proofs AL
open AL.Policy (RuleV rowP slP checkP coversS capsP)
set_option linter.unusedVariables false
set_option linter.unusedSimpArgs false
theorem f62_body : Tryz.f62.body = some (.seq (.region 0 (rg Tryz.f62 0) false) (.seq (.seq (.region 1 (rg Tryz.f62 1) false) (.cond (.tmp 12) (.seq (.region 2 (rg Tryz.f62 2) false) (.ret)) (.skip))) (.seq (.region 3 (rg Tryz.f62 3) false) (.seq (.seq (.region 4 (rg Tryz.f62 4) false) (.block 0 (.loop (.seq (.region 5 (rg Tryz.f62 5) false) (.seq (.cond (.tmp 16) (.skip) (.exit 0)) (.seq (.block 1 (.seq (.region 6 (rg Tryz.f62 6) false) (.seq (.seq (.region 7 (rg Tryz.f62 7) false) (.cond (.tmp 21) (.seq (.region 8 (rg Tryz.f62 8) false) (.ret)) (.skip))) (.region 9 (rg Tryz.f62 9) false)))) (.region 10 (rg Tryz.f62 10) false))))))) (.seq (.region 11 (rg Tryz.f62 11) false) (.seq (.seq (.region 12 (rg Tryz.f62 12) false) (.block 2 (.loop (.seq (.region 13 (rg Tryz.f62 13) false) (.seq (.cond (.tmp 33) (.skip) (.exit 2)) (.seq (.block 3 (.seq (.region 14 (rg Tryz.f62 14) false) (.seq (.region 15 (rg Tryz.f62 15) false) (.region 16 (rg Tryz.f62 16) false)))) (.region 17 (rg Tryz.f62 17) false))))))) (.seq (.region 18 (rg Tryz.f62 18) false) (.ret)))))))) := by kernel_rfl
set_option maxRecDepth 100000 in
set_option maxHeartbeats 8000000 in
theorem Rows_c (l : List Bytes) (hl : l.length ≤ 1000) (hs : ∀ s ∈ l, s.length ≤ 65535) (ht : (rowsB l).length ≤ 800000) : ∀ d, Spec Tryz.prog 62 [tc (AL.Fnv.slS l)] H0 (.tup [.c (.own d), tc (i6 0)]) (ofH [(d, AObj.grow 5 1 UInt8 0 rowU8 (rowsB l))]) := by
 refine OwnT.of_body Tryz.func62 f62_body (by kernel_rfl) Tryz.ntmps62 (by kernel_rfl) rfl (by kernel_rfl) ?_
 refine gS [] [] 46 [(0, vc (AL.Fnv.slS l))] [] trivial ?_
 refine gQ ?_
 refine gS [] [] 46 [(0, vc (AL.Fnv.slS l)), (12, vc (bo (decide (1024 < (List.length l : Int)))))] [] trivial ?_
 refine gC (1024 < (List.length l : Int)) (fun hc1 => ?_) fun hc1 => ?_
 ·
  refine gS [] [] 46 [(2, vc (SC.nilsl)), (3, vc (i6 24))] [] trivial ?_
  exfalso
  first | omega | (have z2 := rows_le l k; omega) | (have z1 := rows_len l k (by omega); have z2 := rows_le l (k + 1); have z3 := hs _ (Lib.getD_mem [] l k (by omega)); first | omega | (simp only [List.length_append, List.length_cons, List.length_nil, AL.Quill.be2_len]; omega)) | (have z1 := rows_len l m (by omega); have z2 := rows_le l (m + 1); have z3 := hs _ (Lib.getD_mem [] l m (by omega)); first | omega | (simp only [List.length_append, List.length_cons, List.length_nil, AL.Quill.be2_len]; omega))
 ·
  refine AMx.skip ?_
  refine gS [] [] 46 [(0, vc (AL.Fnv.slS l)), (4, vc (i6 0))] [] trivial ?_
  refine gQ ?_
  refine gS [] [] 46 [(0, vc (AL.Fnv.slS l)), (4, vc (i6 0)), (13, vc (AL.Fnv.slS l)), (14, vc (i6 (List.length l : Int))), (15, vc (i6 0))] [] trivial ?_
  refine AMx.block ?_
  refine AMx.ent (s' := AS.lst 46 [(0, vc (AL.Fnv.slS l)), (4, vc (i6 0)), (13, vc (AL.Fnv.slS l)), (14, vc (i6 (List.length l : Int))), (15, vc (i6 0))] []) (ent_proj [0, 4, 13, 14, 15] []) ?_
  refine AMx.loop (fun mm ss => ∃ (k : Nat), (k ≤ l.length) ∧ mm = l.length - k ∧ ss = AS.lst 46 [(0, vc (AL.Fnv.slS l)), (4, vc (i6 ((rowsB (List.take k l)).length : Int))), (13, vc (AL.Fnv.slS l)), (14, vc (i6 (List.length l : Int))), (15, vc (i6 (k : Int)))] []) ⟨0, ?_, rfl, ?_⟩ ?_
  · omega
  · rfl
  rintro mm ss ⟨k, hI, rfl, rfl⟩
  refine gS [] [] 46 [(0, vc (AL.Fnv.slS l)), (4, vc (i6 ((rowsB (List.take k l)).length : Int))), (13, vc (AL.Fnv.slS l)), (14, vc (i6 (List.length l : Int))), (15, vc (i6 (k : Int))), (16, vc (bo (decide ((k : Int) < (List.length l : Int)))))] [] trivial ?_
  refine gQ ?_
  refine gC ((k : Int) < (List.length l : Int)) (fun hc2 => ?_) fun hc2 => ?_
  ·
   refine AMx.skip ?_
   refine gQ ?_
   refine AMx.block ?_
   refine gS [] [(0 : Int) ≤ (k : Int), (k : Int) < List.length l] 46 [(0, vc (AL.Fnv.slS l)), (4, vc (i6 ((rowsB (List.take k l)).length : Int))), (6, vc (st (List.getD l k []))), (13, vc (AL.Fnv.slS l)), (14, vc (i6 (List.length l : Int))), (15, vc (i6 (k : Int)))] [] ⟨(by first | omega | (have z2 := rows_le l k; omega) | (have z1 := rows_len l k (by omega); have z2 := rows_le l (k + 1); have z3 := hs _ (Lib.getD_mem [] l k (by omega)); first | omega | (simp only [List.length_append, List.length_cons, List.length_nil, AL.Quill.be2_len]; omega)) | (have z1 := rows_len l m (by omega); have z2 := rows_le l (m + 1); have z3 := hs _ (Lib.getD_mem [] l m (by omega)); first | omega | (simp only [List.length_append, List.length_cons, List.length_nil, AL.Quill.be2_len]; omega))), (show (k : Int) < List.length l from (by first | omega | (have z2 := rows_le l k; omega) | (have z1 := rows_len l k (by omega); have z2 := rows_le l (k + 1); have z3 := hs _ (Lib.getD_mem [] l k (by omega)); first | omega | (simp only [List.length_append, List.length_cons, List.length_nil, AL.Quill.be2_len]; omega)) | (have z1 := rows_len l m (by omega); have z2 := rows_le l (m + 1); have z3 := hs _ (Lib.getD_mem [] l m (by omega)); first | omega | (simp only [List.length_append, List.length_cons, List.length_nil, AL.Quill.be2_len]; omega))))⟩ ?_
   refine gQ ?_
   refine gS [] [] 46 [(0, vc (AL.Fnv.slS l)), (4, vc (i6 ((rowsB (List.take k l)).length : Int))), (6, vc (st (List.getD l k []))), (13, vc (AL.Fnv.slS l)), (14, vc (i6 (List.length l : Int))), (15, vc (i6 (k : Int))), (21, vc (bo (decide (65535 < (List.length ((List.getD l k []) : List UInt8) : Int)))))] [] trivial ?_
   refine gC (65535 < (List.length ((List.getD l k []) : List UInt8) : Int)) (fun hc3 => ?_) fun hc3 => ?_
   ·
    refine gS [] [] 46 [(2, vc (SC.nilsl)), (3, vc (i6 5))] [] trivial ?_
    exfalso
    first | omega | (have z2 := rows_le l k; omega) | (have z1 := rows_len l k (by omega); have z2 := rows_le l (k + 1); have z3 := hs _ (Lib.getD_mem [] l k (by omega)); first | omega | (simp only [List.length_append, List.length_cons, List.length_nil, AL.Quill.be2_len]; omega)) | (have z1 := rows_len l m (by omega); have z2 := rows_le l (m + 1); have z3 := hs _ (Lib.getD_mem [] l m (by omega)); first | omega | (simp only [List.length_append, List.length_cons, List.length_nil, AL.Quill.be2_len]; omega))
   ·
    refine AMx.skip ?_
    refine gR [] [InR .i64 (2 + (List.length ((List.getD l k []) : List UInt8) : Int)), InR .i64 (((rowsB (List.take k l)).length : Int) + (2 + (List.length ((List.getD l k []) : List UInt8) : Int)))] 46 [(0, vc (AL.Fnv.slS l)), (4, vc (i6 (((rowsB (List.take k l)).length : Int) + (2 + (List.length ((List.getD l k []) : List UInt8) : Int))))), (13, vc (AL.Fnv.slS l)), (14, vc (i6 (List.length l : Int))), (15, vc (i6 (k : Int)))] [] ⟨(inR64 (by first | omega | (have z2 := rows_le l k; omega) | (have z1 := rows_len l k (by omega); have z2 := rows_le l (k + 1); have z3 := hs _ (Lib.getD_mem [] l k (by omega)); first | omega | (simp only [List.length_append, List.length_cons, List.length_nil, AL.Quill.be2_len]; omega)) | (have z1 := rows_len l m (by omega); have z2 := rows_le l (m + 1); have z3 := hs _ (Lib.getD_mem [] l m (by omega)); first | omega | (simp only [List.length_append, List.length_cons, List.length_nil, AL.Quill.be2_len]; omega))) (by first | omega | (have z2 := rows_le l k; omega) | (have z1 := rows_len l k (by omega); have z2 := rows_le l (k + 1); have z3 := hs _ (Lib.getD_mem [] l k (by omega)); first | omega | (simp only [List.length_append, List.length_cons, List.length_nil, AL.Quill.be2_len]; omega)) | (have z1 := rows_len l m (by omega); have z2 := rows_le l (m + 1); have z3 := hs _ (Lib.getD_mem [] l m (by omega)); first | omega | (simp only [List.length_append, List.length_cons, List.length_nil, AL.Quill.be2_len]; omega)))), (show InR .i64 (((rowsB (List.take k l)).length : Int) + (2 + (List.length ((List.getD l k []) : List UInt8) : Int))) from (inR64 (by first | omega | (have z2 := rows_le l k; omega) | (have z1 := rows_len l k (by omega); have z2 := rows_le l (k + 1); have z3 := hs _ (Lib.getD_mem [] l k (by omega)); first | omega | (simp only [List.length_append, List.length_cons, List.length_nil, AL.Quill.be2_len]; omega)) | (have z1 := rows_len l m (by omega); have z2 := rows_le l (m + 1); have z3 := hs _ (Lib.getD_mem [] l m (by omega)); first | omega | (simp only [List.length_append, List.length_cons, List.length_nil, AL.Quill.be2_len]; omega))) (by first | omega | (have z2 := rows_le l k; omega) | (have z1 := rows_len l k (by omega); have z2 := rows_le l (k + 1); have z3 := hs _ (Lib.getD_mem [] l k (by omega)); first | omega | (simp only [List.length_append, List.length_cons, List.length_nil, AL.Quill.be2_len]; omega)) | (have z1 := rows_len l m (by omega); have z2 := rows_le l (m + 1); have z3 := hs _ (Lib.getD_mem [] l m (by omega)); first | omega | (simp only [List.length_append, List.length_cons, List.length_nil, AL.Quill.be2_len]; omega)))))⟩ ?_
    refine AMx.blk ?_
    refine gR [] [InR .i64 ((k : Int) + 1)] 46 [(0, vc (AL.Fnv.slS l)), (4, vc (i6 (((rowsB (List.take k l)).length : Int) + (2 + (List.length ((List.getD l k []) : List UInt8) : Int))))), (13, vc (AL.Fnv.slS l)), (14, vc (i6 (List.length l : Int))), (15, vc (i6 ((k : Int) + 1)))] [] (show InR .i64 ((k : Int) + 1) from (inR64 (by first | omega | (have z2 := rows_le l k; omega) | (have z1 := rows_len l k (by omega); have z2 := rows_le l (k + 1); have z3 := hs _ (Lib.getD_mem [] l k (by omega)); first | omega | (simp only [List.length_append, List.length_cons, List.length_nil, AL.Quill.be2_len]; omega)) | (have z1 := rows_len l m (by omega); have z2 := rows_le l (m + 1); have z3 := hs _ (Lib.getD_mem [] l m (by omega)); first | omega | (simp only [List.length_append, List.length_cons, List.length_nil, AL.Quill.be2_len]; omega))) (by first | omega | (have z2 := rows_le l k; omega) | (have z1 := rows_len l k (by omega); have z2 := rows_le l (k + 1); have z3 := hs _ (Lib.getD_mem [] l k (by omega)); first | omega | (simp only [List.length_append, List.length_cons, List.length_nil, AL.Quill.be2_len]; omega)) | (have z1 := rows_len l m (by omega); have z2 := rows_le l (m + 1); have z3 := hs _ (Lib.getD_mem [] l m (by omega)); first | omega | (simp only [List.length_append, List.length_cons, List.length_nil, AL.Quill.be2_len]; omega))))) ?_
    refine AMx.ent_inv (s' := AS.lst 46 [(0, vc (AL.Fnv.slS l)), (4, vc (i6 (((rowsB (List.take k l)).length : Int) + (2 + (List.length ((List.getD l k []) : List UInt8) : Int))))), (13, vc (AL.Fnv.slS l)), (14, vc (i6 (List.length l : Int))), (15, vc (i6 ((k : Int) + 1)))] []) (ent_proj [0, 4, 13, 14, 15] []) ?_
    refine AMx.inv ⟨_, ?_, k + 1, ?_, rfl, ?_⟩
    rotate_left
    · omega
    · rw [rows_len l k (by omega), show (((rowsB (List.take k l)).length + (2 + (List.getD l k []).length) : Nat) : Int) = ((rowsB (List.take k l)).length : Int) + (2 + ((List.getD l k []).length : Int)) by omega]; rfl
    · omega
  ·
   refine AMx.exit ?_
   refine AMx.code_exit ?_
   refine AMx.inv_exit ?_
   refine AMx.blk_exit ?_
   refine gS [(1, CE.obj (AObj.grow 5 1 UInt8 0 rowU8 (List.replicate 0 0)))] [0 ≤ (0 : Int), (0 : Int) ≤ ((rowsB (List.take k l)).length : Int), (1 : Int) * ((rowsB (List.take k l)).length : Int) ≤ 281474976710656, ((rowsB (List.take k l)).length : Int) ≤ 9223372036854775807, MakeC 0 [.s (u8 0)] (AObj.grow 5 1 UInt8 0 rowU8 (List.replicate 0 0))] 46 [(0, vc (AL.Fnv.slS l)), (7, vo 29)] [(29, AObj.grow 5 1 UInt8 0 rowU8 (List.replicate 0 0))] ⟨(by first | omega | (have z2 := rows_le l k; omega) | (have z1 := rows_len l k (by omega); have z2 := rows_le l (k + 1); have z3 := hs _ (Lib.getD_mem [] l k (by omega)); first | omega | (simp only [List.length_append, List.length_cons, List.length_nil, AL.Quill.be2_len]; omega)) | (have z1 := rows_len l m (by omega); have z2 := rows_le l (m + 1); have z3 := hs _ (Lib.getD_mem [] l m (by omega)); first | omega | (simp only [List.length_append, List.length_cons, List.length_nil, AL.Quill.be2_len]; omega))), (by first | omega | (have z2 := rows_le l k; omega) | (have z1 := rows_len l k (by omega); have z2 := rows_le l (k + 1); have z3 := hs _ (Lib.getD_mem [] l k (by omega)); first | omega | (simp only [List.length_append, List.length_cons, List.length_nil, AL.Quill.be2_len]; omega)) | (have z1 := rows_len l m (by omega); have z2 := rows_le l (m + 1); have z3 := hs _ (Lib.getD_mem [] l m (by omega)); first | omega | (simp only [List.length_append, List.length_cons, List.length_nil, AL.Quill.be2_len]; omega))), (by first | omega | (have z2 := rows_le l k; omega) | (have z1 := rows_len l k (by omega); have z2 := rows_le l (k + 1); have z3 := hs _ (Lib.getD_mem [] l k (by omega)); first | omega | (simp only [List.length_append, List.length_cons, List.length_nil, AL.Quill.be2_len]; omega)) | (have z1 := rows_len l m (by omega); have z2 := rows_le l (m + 1); have z3 := hs _ (Lib.getD_mem [] l m (by omega)); first | omega | (simp only [List.length_append, List.length_cons, List.length_nil, AL.Quill.be2_len]; omega))), (by first | omega | (have z2 := rows_le l k; omega) | (have z1 := rows_len l k (by omega); have z2 := rows_le l (k + 1); have z3 := hs _ (Lib.getD_mem [] l k (by omega)); first | omega | (simp only [List.length_append, List.length_cons, List.length_nil, AL.Quill.be2_len]; omega)) | (have z1 := rows_len l m (by omega); have z2 := rows_le l (m + 1); have z3 := hs _ (Lib.getD_mem [] l m (by omega)); first | omega | (simp only [List.length_append, List.length_cons, List.length_nil, AL.Quill.be2_len]; omega))), (⟨_, rfl, rfl⟩)⟩ ?_
   refine gQ ?_
   refine gS [] [] 46 [(7, vo 29), (30, vc (AL.Fnv.slS l)), (31, vc (i6 (List.length l : Int))), (32, vc (i6 0))] [(29, AObj.grow 5 1 UInt8 0 rowU8 (List.replicate 0 0))] trivial ?_
   refine AMx.block ?_
   refine AMx.ent (s' := AS.lst 46 [(7, vo 29), (30, vc (AL.Fnv.slS l)), (31, vc (i6 (List.length l : Int))), (32, vc (i6 0))] [(29, AObj.grow 5 1 UInt8 0 rowU8 (List.replicate 0 0))]) (ent_proj [7, 30, 31, 32] [29]) ?_
   refine AMx.loop (fun mm ss => ∃ (m : Nat), (m ≤ l.length) ∧ mm = l.length - m ∧ ss = AS.lst 46 [(7, vo 29), (30, vc (AL.Fnv.slS l)), (31, vc (i6 (List.length l : Int))), (32, vc (i6 (m : Int)))] [(29, AObj.grow 5 1 UInt8 0 rowU8 (rowsB (List.take m l)))]) ⟨0, ?_, rfl, ?_⟩ ?_
   · omega
   · rfl
   rintro mm ss ⟨m, hI, rfl, rfl⟩
   refine gS [] [] 46 [(7, vo 29), (30, vc (AL.Fnv.slS l)), (31, vc (i6 (List.length l : Int))), (32, vc (i6 (m : Int))), (33, vc (bo (decide ((m : Int) < (List.length l : Int)))))] [(29, AObj.grow 5 1 UInt8 0 rowU8 (rowsB (List.take m l)))] trivial ?_
   refine gQ ?_
   refine gC ((m : Int) < (List.length l : Int)) (fun hc4 => ?_) fun hc4 => ?_
   ·
    refine AMx.skip ?_
    refine gQ ?_
    refine AMx.block ?_
    refine gS [] [(0 : Int) ≤ (m : Int), (m : Int) < List.length l] 46 [(7, vo 29), (9, vc (st (List.getD l m []))), (30, vc (AL.Fnv.slS l)), (31, vc (i6 (List.length l : Int))), (32, vc (i6 (m : Int)))] [(29, AObj.grow 5 1 UInt8 0 rowU8 (rowsB (List.take m l)))] ⟨(by first | omega | (have z2 := rows_le l k; omega) | (have z1 := rows_len l k (by omega); have z2 := rows_le l (k + 1); have z3 := hs _ (Lib.getD_mem [] l k (by omega)); first | omega | (simp only [List.length_append, List.length_cons, List.length_nil, AL.Quill.be2_len]; omega)) | (have z1 := rows_len l m (by omega); have z2 := rows_le l (m + 1); have z3 := hs _ (Lib.getD_mem [] l m (by omega)); first | omega | (simp only [List.length_append, List.length_cons, List.length_nil, AL.Quill.be2_len]; omega))), (show (m : Int) < List.length l from (by first | omega | (have z2 := rows_le l k; omega) | (have z1 := rows_len l k (by omega); have z2 := rows_le l (k + 1); have z3 := hs _ (Lib.getD_mem [] l k (by omega)); first | omega | (simp only [List.length_append, List.length_cons, List.length_nil, AL.Quill.be2_len]; omega)) | (have z1 := rows_len l m (by omega); have z2 := rows_le l (m + 1); have z3 := hs _ (Lib.getD_mem [] l m (by omega)); first | omega | (simp only [List.length_append, List.length_cons, List.length_nil, AL.Quill.be2_len]; omega))))⟩ ?_
    refine gS [(4, CE.call [] [29] (vo 40) [(40, AObj.grow 5 1 UInt8 0 rowU8 ((rowsB (List.take m l)) ++ AL.Quill.be2 ((List.length ((List.getD l m []) : List UInt8) : Int))))])] [Spec Tryz.prog 89 [TV.c (.own 29), tc (i6 2), tc (u6 (IntKind.wrap .u64 ((List.length ((List.getD l m []) : List UInt8) : Int))))] (ofH [(29, AObj.grow 5 1 UInt8 0 rowU8 (rowsB (List.take m l)))]) (vo 40) (ofH [(40, AObj.grow 5 1 UInt8 0 rowU8 ((rowsB (List.take m l)) ++ AL.Quill.be2 ((List.length ((List.getD l m []) : List UInt8) : Int))))])] 46 [(7, vo 40), (9, vc (st (List.getD l m []))), (30, vc (AL.Fnv.slS l)), (31, vc (i6 (List.length l : Int))), (32, vc (i6 (m : Int)))] [(40, AObj.grow 5 1 UInt8 0 rowU8 ((rowsB (List.take m l)) ++ AL.Quill.be2 ((List.length ((List.getD l m []) : List UInt8) : Int))))] (AL.Quill.lay_c (rowsB (List.take m l)) (IntKind.wrap .u64 ((List.length ((List.getD l m []) : List UInt8) : Int))) ((List.length ((List.getD l m []) : List UInt8) : Int)) (AL.Quill.wrap_64 (by first | omega | (have z2 := rows_le l k; omega) | (have z1 := rows_len l k (by omega); have z2 := rows_le l (k + 1); have z3 := hs _ (Lib.getD_mem [] l k (by omega)); first | omega | (simp only [List.length_append, List.length_cons, List.length_nil, AL.Quill.be2_len]; omega)) | (have z1 := rows_len l m (by omega); have z2 := rows_le l (m + 1); have z3 := hs _ (Lib.getD_mem [] l m (by omega)); first | omega | (simp only [List.length_append, List.length_cons, List.length_nil, AL.Quill.be2_len]; omega))) (by first | omega | (have z2 := rows_le l k; omega) | (have z1 := rows_len l k (by omega); have z2 := rows_le l (k + 1); have z3 := hs _ (Lib.getD_mem [] l k (by omega)); first | omega | (simp only [List.length_append, List.length_cons, List.length_nil, AL.Quill.be2_len]; omega)) | (have z1 := rows_len l m (by omega); have z2 := rows_le l (m + 1); have z3 := hs _ (Lib.getD_mem [] l m (by omega)); first | omega | (simp only [List.length_append, List.length_cons, List.length_nil, AL.Quill.be2_len]; omega)))) (by first | omega | (have z2 := rows_le l k; omega) | (have z1 := rows_len l k (by omega); have z2 := rows_le l (k + 1); have z3 := hs _ (Lib.getD_mem [] l k (by omega)); first | omega | (simp only [List.length_append, List.length_cons, List.length_nil, AL.Quill.be2_len]; omega)) | (have z1 := rows_len l m (by omega); have z2 := rows_le l (m + 1); have z3 := hs _ (Lib.getD_mem [] l m (by omega)); first | omega | (simp only [List.length_append, List.length_cons, List.length_nil, AL.Quill.be2_len]; omega))) (by first | omega | (have z2 := rows_le l k; omega) | (have z1 := rows_len l k (by omega); have z2 := rows_le l (k + 1); have z3 := hs _ (Lib.getD_mem [] l k (by omega)); first | omega | (simp only [List.length_append, List.length_cons, List.length_nil, AL.Quill.be2_len]; omega)) | (have z1 := rows_len l m (by omega); have z2 := rows_le l (m + 1); have z3 := hs _ (Lib.getD_mem [] l m (by omega)); first | omega | (simp only [List.length_append, List.length_cons, List.length_nil, AL.Quill.be2_len]; omega))) (by first | omega | (have z2 := rows_le l k; omega) | (have z1 := rows_len l k (by omega); have z2 := rows_le l (k + 1); have z3 := hs _ (Lib.getD_mem [] l k (by omega)); first | omega | (simp only [List.length_append, List.length_cons, List.length_nil, AL.Quill.be2_len]; omega)) | (have z1 := rows_len l m (by omega); have z2 := rows_le l (m + 1); have z3 := hs _ (Lib.getD_mem [] l m (by omega)); first | omega | (simp only [List.length_append, List.length_cons, List.length_nil, AL.Quill.be2_len]; omega))) 29 40 rfl) ?_
    refine gR [(2, CE.obj (AObj.grow 5 1 UInt8 0 rowU8 (((rowsB (List.take m l)) ++ AL.Quill.be2 ((List.length ((List.getD l m []) : List UInt8) : Int))) ++ (List.getD l m []))))] [AppC (flat 1 rowU8 (List.getD l m [])) (List.length ((List.getD l m []) : List UInt8)) 1 (AObj.grow 5 1 UInt8 0 rowU8 ((rowsB (List.take m l)) ++ AL.Quill.be2 ((List.length ((List.getD l m []) : List UInt8) : Int)))) (AObj.grow 5 1 UInt8 0 rowU8 (((rowsB (List.take m l)) ++ AL.Quill.be2 ((List.length ((List.getD l m []) : List UInt8) : Int))) ++ (List.getD l m [])))] 46 [(7, vo 43), (30, vc (AL.Fnv.slS l)), (31, vc (i6 (List.length l : Int))), (32, vc (i6 (m : Int)))] [(43, AObj.grow 5 1 UInt8 0 rowU8 (((rowsB (List.take m l)) ++ AL.Quill.be2 ((List.length ((List.getD l m []) : List UInt8) : Int))) ++ (List.getD l m [])))] (⟨_, rfl, rfl, rfl, by have z1 := rows_len l m (by omega); have z2 := rows_le l (m + 1); have z3 := hs _ (Lib.getD_mem [] l m (by omega)); simp only [List.length_append, List.length_cons, List.length_nil, AL.Quill.be2_len]; omega, by have z1 := rows_len l m (by omega); have z2 := rows_le l (m + 1); have z3 := hs _ (Lib.getD_mem [] l m (by omega)); simp only [maxLen, List.length_append, List.length_cons, List.length_nil, AL.Quill.be2_len]; omega⟩) ?_
    refine AMx.blk ?_
    refine gR [] [InR .i64 ((m : Int) + 1)] 46 [(7, vo 43), (30, vc (AL.Fnv.slS l)), (31, vc (i6 (List.length l : Int))), (32, vc (i6 ((m : Int) + 1)))] [(43, AObj.grow 5 1 UInt8 0 rowU8 (((rowsB (List.take m l)) ++ AL.Quill.be2 ((List.length ((List.getD l m []) : List UInt8) : Int))) ++ (List.getD l m [])))] (show InR .i64 ((m : Int) + 1) from (inR64 (by first | omega | (have z2 := rows_le l k; omega) | (have z1 := rows_len l k (by omega); have z2 := rows_le l (k + 1); have z3 := hs _ (Lib.getD_mem [] l k (by omega)); first | omega | (simp only [List.length_append, List.length_cons, List.length_nil, AL.Quill.be2_len]; omega)) | (have z1 := rows_len l m (by omega); have z2 := rows_le l (m + 1); have z3 := hs _ (Lib.getD_mem [] l m (by omega)); first | omega | (simp only [List.length_append, List.length_cons, List.length_nil, AL.Quill.be2_len]; omega))) (by first | omega | (have z2 := rows_le l k; omega) | (have z1 := rows_len l k (by omega); have z2 := rows_le l (k + 1); have z3 := hs _ (Lib.getD_mem [] l k (by omega)); first | omega | (simp only [List.length_append, List.length_cons, List.length_nil, AL.Quill.be2_len]; omega)) | (have z1 := rows_len l m (by omega); have z2 := rows_le l (m + 1); have z3 := hs _ (Lib.getD_mem [] l m (by omega)); first | omega | (simp only [List.length_append, List.length_cons, List.length_nil, AL.Quill.be2_len]; omega))))) ?_
    refine AMx.ent_inv (s' := AS.lst 46 [(7, vo 29), (30, vc (AL.Fnv.slS l)), (31, vc (i6 (List.length l : Int))), (32, vc (i6 ((m : Int) + 1)))] [(29, AObj.grow 5 1 UInt8 0 rowU8 (((rowsB (List.take m l)) ++ AL.Quill.be2 ((List.length ((List.getD l m []) : List UInt8) : Int))) ++ (List.getD l m [])))]) (ent_swap 43 29 (by kernel_rfl) (by kernel_rfl)) ?_
    refine AMx.ent_inv (s' := AS.lst 46 [(7, vo 29), (30, vc (AL.Fnv.slS l)), (31, vc (i6 (List.length l : Int))), (32, vc (i6 ((m : Int) + 1)))] [(29, AObj.grow 5 1 UInt8 0 rowU8 (((rowsB (List.take m l)) ++ AL.Quill.be2 ((List.length ((List.getD l m []) : List UInt8) : Int))) ++ (List.getD l m [])))]) (ent_proj [7, 30, 31, 32] [29]) ?_
    refine AMx.inv ⟨_, ?_, m + 1, ?_, rfl, ?_⟩
    rotate_left
    · omega
    · rw [rows_succ l m (by omega), List.append_assoc]; rfl
    · omega
   ·
    refine AMx.exit ?_
    refine AMx.code_exit ?_
    refine AMx.inv_exit ?_
    refine AMx.blk_exit ?_
    refine gS [] [] 46 [(2, vo 29), (3, vc (i6 0))] [(29, AObj.grow 5 1 UInt8 0 rowU8 (rowsB (List.take m l)))] trivial ?_
    refine AMx.ret ?_
    exact ⟨.inl rfl, 29, AObj.grow 5 1 UInt8 0 rowU8 (rowsB (List.take m l)), AV.tup [TV.c (.own 29), tc (i6 0)], by kernel_rfl, rfl, by kernel_rfl, (by rw [rows_all l (show l.length ≤ m by omega)])⟩
theorem f64_body : Tryz.f64.body = some (.seq (.region 0 (rg Tryz.f64 0) false) (.seq (.seq (.region 1 (rg Tryz.f64 1) false) (.cond (.tmp 10) (.seq (.region 2 (rg Tryz.f64 2) false) (.ret)) (.skip))) (.seq (.region 3 (rg Tryz.f64 3) false) (.seq (.seq (.region 4 (rg Tryz.f64 4) false) (.block 0 (.loop (.seq (.seq (.region 5 (rg Tryz.f64 5) false) (.cond (.tmp 14) (.skip) (.exit 0))) (.seq (.block 1 (.seq (.region 7 (rg Tryz.f64 7) false) (.seq (.seq (.region 8 (rg Tryz.f64 8) false) (.cond (.tmp 27) (.seq (.region 9 (rg Tryz.f64 9) false) (.ret)) (.skip))) (.region 10 (rg Tryz.f64 10) false)))) (.region 6 (rg Tryz.f64 6) false)))))) (.seq (.region 11 (rg Tryz.f64 11) false) (.ret)))))) := by kernel_rfl
set_option maxRecDepth 100000 in
set_option maxHeartbeats 8000000 in
theorem RRows_c (l : List Bytes) (hl : l.length ≤ 1000) (hs : ∀ s ∈ l, s.length ≤ 65535) (ht : (rowsB l).length ≤ 800000) : ∀ d, Spec Tryz.prog 64 [tc (AL.Fnv.slS l)] H0 (.tup [.c (.own d), tc (i6 0)]) (ofH [(d, AObj.grow 5 1 UInt8 0 rowU8 (rowsB l))]) := by
 refine OwnT.of_body Tryz.func64 f64_body (by kernel_rfl) Tryz.ntmps64 (by kernel_rfl) rfl (by kernel_rfl) ?_
 refine gS [] [] 31 [(0, vc (AL.Fnv.slS l))] [] trivial ?_
 refine gQ ?_
 refine gS [] [] 31 [(0, vc (AL.Fnv.slS l)), (10, vc (bo (decide (1024 < (List.length l : Int)))))] [] trivial ?_
 refine gC (1024 < (List.length l : Int)) (fun hc1 => ?_) fun hc1 => ?_
 ·
  refine gS [] [] 31 [(2, vc (SC.nilsl)), (3, vc (i6 24))] [] trivial ?_
  exfalso
  first | omega | (have z1 := rows_len l k (by omega); have z2 := rows_le l (k + 1); have z3 := hs _ (Lib.getD_mem [] l k (by omega)); first | omega | (simp only [List.length_append, List.length_cons, List.length_nil, AL.Quill.be2_len]; omega)) | (have z1 := rows_len l i (by omega); have z2 := rows_le l (i + 1); have z3 := hs _ (Lib.getD_mem [] l i (by omega)); first | omega | (simp only [List.length_append, List.length_cons, List.length_nil, AL.Quill.be2_len]; omega))
 ·
  refine AMx.skip ?_
  refine gS [] [] 31 [(0, vc (AL.Fnv.slS l)), (4, vc (SC.nilsl))] [] trivial ?_
  refine gQ ?_
  refine gS [] [] 31 [(0, vc (AL.Fnv.slS l)), (4, vc (SC.nilsl)), (5, vc (i6 0))] [] trivial ?_
  refine AMx.block ?_
  refine AMx.ent (s' := AS.lst 31 [(0, vc (AL.Fnv.slS l)), (4, vo 4), (5, vc (i6 0))] [(4, AObj.grow 5 1 UInt8 0 rowU8 [])]) (ent_adopt (t := 4) (d := 4) 5 1 UInt8 0 rowU8 (by kernel_rfl) (by kernel_rfl) (by kernel_rfl) (by kernel_rfl)) ?_
  refine AMx.ent (s' := AS.lst 31 [(0, vc (AL.Fnv.slS l)), (4, vo 4), (5, vc (i6 0))] [(4, AObj.grow 5 1 UInt8 0 rowU8 [])]) (ent_proj [0, 4, 5] [4]) ?_
  refine AMx.loop (fun mm ss => ∃ (i : Nat), (i ≤ l.length) ∧ mm = l.length - i ∧ ss = AS.lst 31 [(0, vc (AL.Fnv.slS l)), (4, vo 4), (5, vc (i6 (i : Int)))] [(4, AObj.grow 5 1 UInt8 0 rowU8 (rowsB (List.take i l)))]) ⟨0, ?_, rfl, ?_⟩ ?_
  · omega
  · rfl
  rintro mm ss ⟨i, hI, rfl, rfl⟩
  refine gQ ?_
  refine gS [] [] 31 [(0, vc (AL.Fnv.slS l)), (4, vo 4), (5, vc (i6 (i : Int))), (14, vc (bo (decide ((i : Int) < (List.length l : Int)))))] [(4, AObj.grow 5 1 UInt8 0 rowU8 (rowsB (List.take i l)))] trivial ?_
  refine gC ((i : Int) < (List.length l : Int)) (fun hc2 => ?_) fun hc2 => ?_
  ·
   refine AMx.skip ?_
   refine gQ ?_
   refine AMx.block ?_
   refine gS [(5, CE.call [4] [] (AV.tup [TV.c (.own 23), tc (i6 0)]) [(23, AObj.grow 5 1 UInt8 0 rowU8 ((rowsB (List.take i l)) ++ AL.Quill.rowB (List.getD l i [])))])] [(0 : Int) ≤ (i : Int), (i : Int) < List.length l, Spec Tryz.prog 91 [tc (SC.sl 1 UInt8 0 rowU8 (rowsB (List.take i l))), tc (st (List.getD l i []))] (ofH []) (AV.tup [TV.c (.own 23), tc (i6 0)]) (ofH [(23, AObj.grow 5 1 UInt8 0 rowU8 ((rowsB (List.take i l)) ++ AL.Quill.rowB (List.getD l i [])))])] 31 [(0, vc (AL.Fnv.slS l)), (5, vc (i6 (i : Int))), (6, vo 23), (7, vc (i6 0))] [(23, AObj.grow 5 1 UInt8 0 rowU8 ((rowsB (List.take i l)) ++ AL.Quill.rowB (List.getD l i [])))] ⟨(by first | omega | (have z1 := rows_len l k (by omega); have z2 := rows_le l (k + 1); have z3 := hs _ (Lib.getD_mem [] l k (by omega)); first | omega | (simp only [List.length_append, List.length_cons, List.length_nil, AL.Quill.be2_len]; omega)) | (have z1 := rows_len l i (by omega); have z2 := rows_le l (i + 1); have z3 := hs _ (Lib.getD_mem [] l i (by omega)); first | omega | (simp only [List.length_append, List.length_cons, List.length_nil, AL.Quill.be2_len]; omega))), (by first | omega | (have z1 := rows_len l k (by omega); have z2 := rows_le l (k + 1); have z3 := hs _ (Lib.getD_mem [] l k (by omega)); first | omega | (simp only [List.length_append, List.length_cons, List.length_nil, AL.Quill.be2_len]; omega)) | (have z1 := rows_len l i (by omega); have z2 := rows_le l (i + 1); have z3 := hs _ (Lib.getD_mem [] l i (by omega)); first | omega | (simp only [List.length_append, List.length_cons, List.length_nil, AL.Quill.be2_len]; omega))), (AL.Quill.RRow_c (rowsB (List.take i l)) (List.getD l i []) (by first | omega | (have z1 := rows_len l k (by omega); have z2 := rows_le l (k + 1); have z3 := hs _ (Lib.getD_mem [] l k (by omega)); first | omega | (simp only [List.length_append, List.length_cons, List.length_nil, AL.Quill.be2_len]; omega)) | (have z1 := rows_len l i (by omega); have z2 := rows_le l (i + 1); have z3 := hs _ (Lib.getD_mem [] l i (by omega)); first | omega | (simp only [List.length_append, List.length_cons, List.length_nil, AL.Quill.be2_len]; omega))) (by first | omega | (have z1 := rows_len l k (by omega); have z2 := rows_le l (k + 1); have z3 := hs _ (Lib.getD_mem [] l k (by omega)); first | omega | (simp only [List.length_append, List.length_cons, List.length_nil, AL.Quill.be2_len]; omega)) | (have z1 := rows_len l i (by omega); have z2 := rows_le l (i + 1); have z3 := hs _ (Lib.getD_mem [] l i (by omega)); first | omega | (simp only [List.length_append, List.length_cons, List.length_nil, AL.Quill.be2_len]; omega))) 23)⟩ ?_
   refine gQ ?_
   refine gS [] [] 31 [(0, vc (AL.Fnv.slS l)), (5, vc (i6 (i : Int))), (6, vo 23), (7, vc (i6 0)), (27, vc (bo false))] [(23, AObj.grow 5 1 UInt8 0 rowU8 ((rowsB (List.take i l)) ++ AL.Quill.rowB (List.getD l i [])))] trivial ?_
   refine gBf ?_
   refine AMx.skip ?_
   refine gR [] [] 31 [(0, vc (AL.Fnv.slS l)), (4, vo 23), (5, vc (i6 (i : Int)))] [(23, AObj.grow 5 1 UInt8 0 rowU8 ((rowsB (List.take i l)) ++ AL.Quill.rowB (List.getD l i [])))] trivial ?_
   refine AMx.blk ?_
   refine gR [] [InR .i64 ((i : Int) + 1)] 31 [(0, vc (AL.Fnv.slS l)), (4, vo 23), (5, vc (i6 ((i : Int) + 1)))] [(23, AObj.grow 5 1 UInt8 0 rowU8 ((rowsB (List.take i l)) ++ AL.Quill.rowB (List.getD l i [])))] (show InR .i64 ((i : Int) + 1) from (inR64 (by first | omega | (have z1 := rows_len l k (by omega); have z2 := rows_le l (k + 1); have z3 := hs _ (Lib.getD_mem [] l k (by omega)); first | omega | (simp only [List.length_append, List.length_cons, List.length_nil, AL.Quill.be2_len]; omega)) | (have z1 := rows_len l i (by omega); have z2 := rows_le l (i + 1); have z3 := hs _ (Lib.getD_mem [] l i (by omega)); first | omega | (simp only [List.length_append, List.length_cons, List.length_nil, AL.Quill.be2_len]; omega))) (by first | omega | (have z1 := rows_len l k (by omega); have z2 := rows_le l (k + 1); have z3 := hs _ (Lib.getD_mem [] l k (by omega)); first | omega | (simp only [List.length_append, List.length_cons, List.length_nil, AL.Quill.be2_len]; omega)) | (have z1 := rows_len l i (by omega); have z2 := rows_le l (i + 1); have z3 := hs _ (Lib.getD_mem [] l i (by omega)); first | omega | (simp only [List.length_append, List.length_cons, List.length_nil, AL.Quill.be2_len]; omega))))) ?_
   refine AMx.ent_inv (s' := AS.lst 31 [(0, vc (AL.Fnv.slS l)), (4, vo 4), (5, vc (i6 ((i : Int) + 1)))] [(4, AObj.grow 5 1 UInt8 0 rowU8 ((rowsB (List.take i l)) ++ AL.Quill.rowB (List.getD l i [])))]) (ent_swap 23 4 (by kernel_rfl) (by kernel_rfl)) ?_
   refine AMx.ent_inv (s' := AS.lst 31 [(0, vc (AL.Fnv.slS l)), (4, vo 4), (5, vc (i6 ((i : Int) + 1)))] [(4, AObj.grow 5 1 UInt8 0 rowU8 ((rowsB (List.take i l)) ++ AL.Quill.rowB (List.getD l i [])))]) (ent_proj [0, 4, 5] [4]) ?_
   refine AMx.inv ⟨_, ?_, i + 1, ?_, rfl, ?_⟩
   rotate_left
   · omega
   · rw [rows_succ l i (by omega)]; rfl
   · omega
  ·
   refine AMx.exit ?_
   refine AMx.code_exit ?_
   refine AMx.inv_exit ?_
   refine AMx.blk_exit ?_
   refine gS [] [] 31 [(2, vo 4), (3, vc (i6 0))] [(4, AObj.grow 5 1 UInt8 0 rowU8 (rowsB (List.take i l)))] trivial ?_
   refine AMx.ret ?_
   exact ⟨.inl rfl, 4, AObj.grow 5 1 UInt8 0 rowU8 (rowsB (List.take i l)), AV.tup [TV.c (.own 4), tc (i6 0)], by kernel_rfl, rfl, by kernel_rfl, (by rw [rows_all l (show l.length ≤ i by omega)])⟩
theorem f65_body : Tryz.f65.body = some (.seq (.region 0 (rg Tryz.f65 0) false) (.seq (.region 1 (rg Tryz.f65 1) false) (.seq (.region 2 (rg Tryz.f65 2) false) (.seq (.block 0 (.loop (.seq (.seq (.region 3 (rg Tryz.f65 3) false) (.cond (.tmp 11) (.skip) (.exit 0))) (.block 1 (.seq (.seq (.region 4 (rg Tryz.f65 4) false) (.cond (.tmp 14) (.seq (.region 5 (rg Tryz.f65 5) false) (.ret)) (.skip))) (.seq (.region 6 (rg Tryz.f65 6) false) (.seq (.seq (.region 7 (rg Tryz.f65 7) false) (.seq (.region 8 (rg Tryz.f65 8) false) (.cond (.tmp 22) (.seq (.region 9 (rg Tryz.f65 9) true) (.ret)) (.skip)))) (.region 10 (rg Tryz.f65 10) false)))))))) (.seq (.region 11 (rg Tryz.f65 11) false) (.ret)))))) := by kernel_rfl
set_option maxRecDepth 100000 in
set_option maxHeartbeats 8000000 in
theorem Split_c (s : Bytes) (hs : s.length ≤ 2000) : Pure Tryz.prog 65 [tc (st s)] (AV.tup [tc (AL.Fnv.slS ((splitR s).1)), tc (i6 ((splitR s).2))]) := by
 refine Pure.of_body Tryz.func65 f65_body (by kernel_rfl) Tryz.ntmps65 (by kernel_rfl) (by kernel_rfl) ?_
 refine gS [] [] 30 [(0, vc (st s))] [] trivial ?_
 refine gS [] [] 30 [(0, vc (st s)), (4, vc (SC.nilsl))] [] trivial ?_
 refine gS [] [] 30 [(4, vc (SC.nilsl)), (5, vp 5 0)] [(5, AObj.row [.s (st s), .s (i6 0), .s (i6 0)])] trivial ?_
 refine gQ ?_
 refine AMx.block ?_
 refine AMx.ent (s' := AS.lst 30 [(4, vo 4), (5, vp 5 0)] [(4, AObj.grow 9 1 Bytes [] AL.Fnv.rowS []), (5, AObj.row [.s (st s), .s (i6 0), .s (i6 0)])]) (ent_adopt (t := 4) (d := 4) 9 1 Bytes [] AL.Fnv.rowS (by kernel_rfl) (by kernel_rfl) (by kernel_rfl) (by kernel_rfl)) ?_
 refine AMx.ent (s' := AS.lst 30 [(4, vo 4), (5, vp 5 0)] [(4, AObj.grow 9 1 Bytes [] AL.Fnv.rowS []), (5, AObj.row [.s (st s), .s (i6 0), .s (i6 0)])]) (ent_proj [4, 5] [4, 5]) ?_
 refine AMx.loop (fun mm ss => ∃ (f : Nat) (o : List Bytes) (x : AL.Quill.ScanV), (SplI s f o x) ∧ mm = 1 + f ∧ ss = AS.lst 30 [(4, vo 4), (5, vp 5 0)] [(4, AObj.grow 9 1 Bytes [] AL.Fnv.rowS o), (5, AObj.row [.s (st x.1), .s (i6 x.2.1), .s (i6 x.2.2)])]) ⟨s.length, [], (s, 0, 0), ?_, rfl, ?_⟩ ?_
 · exact spl_0 s
 · rfl
 rintro mm ss ⟨f, o, x, hP, rfl, rfl⟩
 refine gQ ?_
 refine gS [(1, CE.call [] [] (vc (i6 ((List.length x.1 : Int) - x.2.1))) [])] [Spec Tryz.prog 92 [TV.agg [.s (st x.1), .s (i6 x.2.1), .s (i6 x.2.2)]] (ofH []) (vc (i6 ((List.length x.1 : Int) - x.2.1))) (ofH [])] 30 [(4, vo 4), (5, vp 5 0), (11, vc (bo (decide (0 < (List.length x.1 : Int) - x.2.1))))] [(4, AObj.grow 9 1 Bytes [] AL.Fnv.rowS o), (5, AObj.row [.s (st x.1), .s (i6 x.2.1), .s (i6 x.2.2)])] (AL.Quill.left_c x (by first | omega | (have z1 := hP.lo; have z2 := hP.hi; have z3 := hP.few; have z4 := hP.fuel; have z5 := hP.text; have z6 := congrArg List.length z5; first | omega | ((try simp only [List.length_append, List.length_cons, List.length_nil]); omega))) (by first | omega | (have z1 := hP.lo; have z2 := hP.hi; have z3 := hP.few; have z4 := hP.fuel; have z5 := hP.text; have z6 := congrArg List.length z5; first | omega | ((try simp only [List.length_append, List.length_cons, List.length_nil]); omega)))) ?_
 refine gC (0 < (List.length x.1 : Int) - x.2.1) (fun hc1 => ?_) fun hc1 => ?_
 ·
  refine AMx.skip ?_
  refine AMx.block ?_
  refine gQ ?_
  refine gS [] [] 30 [(4, vo 4), (5, vp 5 0), (14, vc (bo (decide ((List.length o : Int) = 1024))))] [(4, AObj.grow 9 1 Bytes [] AL.Fnv.rowS o), (5, AObj.row [.s (st x.1), .s (i6 x.2.1), .s (i6 x.2.2)])] trivial ?_
  refine gC ((List.length o : Int) = 1024) (fun hc2 => ?_) fun hc2 => ?_
  ·
   exfalso; first | omega | (have z1 := hP.lo; have z2 := hP.hi; have z3 := hP.few; have z4 := hP.fuel; have z5 := hP.text; have z6 := congrArg List.length z5; first | omega | ((try simp only [List.length_append, List.length_cons, List.length_nil]); omega))
  ·
   refine AMx.skip ?_
   refine gS [] [] 30 [(4, vo 4), (5, vp 5 0)] [(4, AObj.grow 9 1 Bytes [] AL.Fnv.rowS o), (5, AObj.row [.s (st x.1), .s (i6 x.2.1), .s (i6 x.2.2)])] trivial ?_
   refine gQ ?_
   refine gS [(1, CE.call [] [] (AV.tup [tc (st ((AL.Quill.rowQ x).1)), TV.agg [.s (st (((AL.Quill.rowQ x).2).1)), .s (i6 (((AL.Quill.rowQ x).2).2.1)), .s (i6 (((AL.Quill.rowQ x).2).2.2))]]) [])] [Spec Tryz.prog 93 [TV.agg [.s (st x.1), .s (i6 x.2.1), .s (i6 x.2.2)]] (ofH []) (AV.tup [tc (st ((AL.Quill.rowQ x).1)), TV.agg [.s (st (((AL.Quill.rowQ x).2).1)), .s (i6 (((AL.Quill.rowQ x).2).2.1)), .s (i6 (((AL.Quill.rowQ x).2).2.2))]]) (ofH [])] 30 [(4, vo 4), (5, vp 5 0), (6, vc (st ((AL.Quill.rowQ x).1)))] [(4, AObj.grow 9 1 Bytes [] AL.Fnv.rowS o), (5, AObj.row [.s (st (((AL.Quill.rowQ x).2).1)), .s (i6 (((AL.Quill.rowQ x).2).2.1)), .s (i6 (((AL.Quill.rowQ x).2).2.2))])] (AL.Quill.Row_c x (by first | omega | (have z1 := hP.lo; have z2 := hP.hi; have z3 := hP.few; have z4 := hP.fuel; have z5 := hP.text; have z6 := congrArg List.length z5; first | omega | ((try simp only [List.length_append, List.length_cons, List.length_nil]); omega)))) ?_
   refine gS [] [] 30 [(4, vo 4), (5, vp 5 0), (6, vc (st ((AL.Quill.rowQ x).1))), (22, vc (bo (!decide (((AL.Quill.rowQ x).2).2.2 = 0))))] [(4, AObj.grow 9 1 Bytes [] AL.Fnv.rowS o), (5, AObj.row [.s (st (((AL.Quill.rowQ x).2).1)), .s (i6 (((AL.Quill.rowQ x).2).2.1)), .s (i6 (((AL.Quill.rowQ x).2).2.2))])] trivial ?_
   refine gN (((AL.Quill.rowQ x).2).2.2 = 0) (fun hc3 => ?_) fun hc3 => ?_
   ·
    refine gY [] [(1, [5])] [] 30 [(2, vc (SC.nilsl)), (3, vc (i6 (((AL.Quill.rowQ x).2).2.2)))] [] mixed trivial ?_
    refine AMx.ent (ent_weak 2 (v' := vc (AL.Fnv.slS [])) (by kernel_rfl) (AV.le_t (TV.le_c AC.le_nil))) ?_
    exact gT (AV.tup [tc (AL.Fnv.slS []), tc (i6 (((AL.Quill.rowQ x).2).2.2))]) (by rw [show splitR s = ([], ((AL.Quill.rowQ x).2).2.2) from by first | exact spl_bad hP (by have z5 := hP.text; have z6 := congrArg List.length z5; omega) (by assumption) | exact spl_end hP (by have z5 := hP.text; have z6 := congrArg List.length z5; omega)])
   ·
    refine AMx.skip ?_
    refine gR [(2, CE.obj (AObj.grow 9 1 Bytes [] AL.Fnv.rowS [(AL.Quill.rowQ x).1])), (3, CE.obj (AObj.grow 9 1 Bytes [] AL.Fnv.rowS (o ++ [(AL.Quill.rowQ x).1])))] [flat 1 AL.Fnv.rowS [(AL.Quill.rowQ x).1] = [.s (st ((AL.Quill.rowQ x).1))], List.length ([(AL.Quill.rowQ x).1] : List Bytes) = 1, AppC (flat 1 AL.Fnv.rowS [(AL.Quill.rowQ x).1]) (List.length ([(AL.Quill.rowQ x).1] : List Bytes)) 16 (AObj.grow 9 1 Bytes [] AL.Fnv.rowS o) (AObj.grow 9 1 Bytes [] AL.Fnv.rowS (o ++ [(AL.Quill.rowQ x).1]))] 30 [(4, vo 28), (5, vp 5 0)] [(5, AObj.row [.s (st (((AL.Quill.rowQ x).2).1)), .s (i6 (((AL.Quill.rowQ x).2).2.1)), .s (i6 (((AL.Quill.rowQ x).2).2.2))]), (28, AObj.grow 9 1 Bytes [] AL.Fnv.rowS (o ++ [(AL.Quill.rowQ x).1]))] ⟨rfl, rfl, (⟨_, rfl, rfl, rfl, by have z1 := hP.few; have z2 := hP.hi; simp only [List.length_append, List.length_cons, List.length_nil]; omega, by have z1 := hP.few; have z2 := hP.hi; simp only [maxLen, List.length_append, List.length_cons, List.length_nil]; omega⟩)⟩ ?_
    refine AMx.blk ?_
    refine AMx.ent_inv (s' := AS.lst 30 [(4, vo 4), (5, vp 5 0)] [(5, AObj.row [.s (st (((AL.Quill.rowQ x).2).1)), .s (i6 (((AL.Quill.rowQ x).2).2.1)), .s (i6 (((AL.Quill.rowQ x).2).2.2))]), (4, AObj.grow 9 1 Bytes [] AL.Fnv.rowS (o ++ [(AL.Quill.rowQ x).1]))]) (ent_swap 28 4 (by kernel_rfl) (by kernel_rfl)) ?_
    refine AMx.ent_inv (s' := AS.lst 30 [(4, vo 4), (5, vp 5 0)] [(4, AObj.grow 9 1 Bytes [] AL.Fnv.rowS (o ++ [(AL.Quill.rowQ x).1])), (5, AObj.row [.s (st (((AL.Quill.rowQ x).2).1)), .s (i6 (((AL.Quill.rowQ x).2).2.1)), .s (i6 (((AL.Quill.rowQ x).2).2.2))])]) (ent_proj [4, 5] [4, 5]) ?_
    refine AMx.inv ⟨_, ?_, f - 1, o ++ [(AL.Quill.rowQ x).1], (AL.Quill.rowQ x).2, ?_, rfl, ?_⟩
    rotate_left
    · exact (spl_next hP (by have z5 := hP.text; have z6 := congrArg List.length z5; omega) (by assumption)).1
    · rfl
    · have z := (spl_next hP (by have z5 := hP.text; have z6 := congrArg List.length z5; omega) (by assumption)).2; omega
 ·
  refine AMx.exit ?_
  refine AMx.code_exit ?_
  refine AMx.inv_exit ?_
  refine AMx.blk_exit ?_
  refine gS [] [] 30 [(2, vo 4), (3, vc (i6 0))] [(4, AObj.grow 9 1 Bytes [] AL.Fnv.rowS o)] trivial ?_
  refine AMx.ent (s' := AS.lst 30 [(2, vc (AL.Fnv.slS o)), (3, vc (i6 0))] []) (ent_freeze (id := 4) (T := 9) (by kernel_rfl)) ?_
  exact gT (AV.tup [tc (AL.Fnv.slS o), tc (i6 0)]) (by rw [show splitR s = (o, 0) from by first | exact spl_bad hP (by have z5 := hP.text; have z6 := congrArg List.length z5; omega) (by assumption) | exact spl_end hP (by have z5 := hP.text; have z6 := congrArg List.length z5; omega)])
theorem f67_body : Tryz.f67.body = some (.seq (.region 0 (rg Tryz.f67 0) false) (.seq (.region 1 (rg Tryz.f67 1) false) (.seq (.region 2 (rg Tryz.f67 2) false) (.seq (.block 0 (.loop (.seq (.seq (.region 3 (rg Tryz.f67 3) false) (.cond (.tmp 14) (.skip) (.exit 0))) (.block 1 (.seq (.seq (.region 4 (rg Tryz.f67 4) false) (.cond (.tmp 17) (.seq (.region 5 (rg Tryz.f67 5) false) (.ret)) (.skip))) (.seq (.region 6 (rg Tryz.f67 6) false) (.seq (.seq (.region 7 (rg Tryz.f67 7) false) (.cond (.tmp 25) (.seq (.region 8 (rg Tryz.f67 8) true) (.ret)) (.skip))) (.seq (.region 9 (rg Tryz.f67 9) false) (.region 10 (rg Tryz.f67 10) false))))))))) (.seq (.region 11 (rg Tryz.f67 11) false) (.ret)))))) := by kernel_rfl
set_option maxRecDepth 100000 in
set_option maxHeartbeats 8000000 in
theorem RSplit_c (s : Bytes) (hs : s.length ≤ 2000) : Pure Tryz.prog 67 [tc (st s)] (AV.tup [tc (AL.Fnv.slS ((splitR s).1)), tc (i6 ((splitR s).2))]) := by
 refine Pure.of_body Tryz.func67 f67_body (by kernel_rfl) Tryz.ntmps67 (by kernel_rfl) (by kernel_rfl) ?_
 refine gS [] [] 34 [(0, vc (st s))] [] trivial ?_
 refine gS [] [] 34 [(0, vc (st s)), (4, vp 4 0)] [(4, AObj.row [.s (st s), .s (i6 0), .s (i6 0)])] trivial ?_
 refine gS [] [] 34 [(0, vc (st s)), (4, vp 4 0), (5, vc (SC.nilsl))] [(4, AObj.row [.s (st s), .s (i6 0), .s (i6 0)])] trivial ?_
 refine gQ ?_
 refine AMx.block ?_
 refine AMx.ent (s' := AS.lst 34 [(0, vc (st s)), (4, vp 4 0), (5, vo 5)] [(5, AObj.grow 9 1 Bytes [] AL.Fnv.rowS []), (4, AObj.row [.s (st s), .s (i6 0), .s (i6 0)])]) (ent_adopt (t := 5) (d := 5) 9 1 Bytes [] AL.Fnv.rowS (by kernel_rfl) (by kernel_rfl) (by kernel_rfl) (by kernel_rfl)) ?_
 refine AMx.ent (s' := AS.lst 34 [(0, vc (st s)), (4, vp 4 0), (5, vo 5)] [(4, AObj.row [.s (st s), .s (i6 0), .s (i6 0)]), (5, AObj.grow 9 1 Bytes [] AL.Fnv.rowS [])]) (ent_proj [0, 4, 5] [4, 5]) ?_
 refine AMx.loop (fun mm ss => ∃ (f : Nat) (o : List Bytes) (x : AL.Quill.ScanV), (SplI s f o x) ∧ mm = 1 + f ∧ ss = AS.lst 34 [(0, vc (st s)), (4, vp 4 0), (5, vo 5)] [(4, AObj.row [.s (st x.1), .s (i6 x.2.1), .s (i6 x.2.2)]), (5, AObj.grow 9 1 Bytes [] AL.Fnv.rowS o)]) ⟨s.length, [], (s, 0, 0), ?_, rfl, ?_⟩ ?_
 · exact spl_0 s
 · rfl
 rintro mm ss ⟨f, o, x, hP, rfl, rfl⟩
 refine gQ ?_
 refine gS [] [] 34 [(0, vc (st s)), (4, vp 4 0), (5, vo 5), (14, vc (bo (decide (x.2.1 < (List.length s : Int)))))] [(4, AObj.row [.s (st x.1), .s (i6 x.2.1), .s (i6 x.2.2)]), (5, AObj.grow 9 1 Bytes [] AL.Fnv.rowS o)] trivial ?_
 refine gC (x.2.1 < (List.length s : Int)) (fun hc1 => ?_) fun hc1 => ?_
 ·
  refine AMx.skip ?_
  refine AMx.block ?_
  refine gQ ?_
  refine gS [] [] 34 [(0, vc (st s)), (4, vp 4 0), (5, vo 5), (17, vc (bo (decide ((List.length o : Int) = 1024))))] [(4, AObj.row [.s (st x.1), .s (i6 x.2.1), .s (i6 x.2.2)]), (5, AObj.grow 9 1 Bytes [] AL.Fnv.rowS o)] trivial ?_
  refine gC ((List.length o : Int) = 1024) (fun hc2 => ?_) fun hc2 => ?_
  ·
   exfalso; first | omega | (have z1 := hP.lo; have z2 := hP.hi; have z3 := hP.few; have z4 := hP.fuel; have z5 := hP.text; have z6 := congrArg List.length z5; first | omega | ((try simp only [List.length_append, List.length_cons, List.length_nil]); omega))
  ·
   refine AMx.skip ?_
   refine gS [(1, CE.call [] [] (AV.tup [tc (st ((AL.Quill.rowQ x).1)), TV.agg [.s (st (((AL.Quill.rowQ x).2).1)), .s (i6 (((AL.Quill.rowQ x).2).2.1)), .s (i6 (((AL.Quill.rowQ x).2).2.2))]]) [])] [Spec Tryz.prog 97 [TV.agg [.s (st x.1), .s (i6 x.2.1), .s (i6 x.2.2)]] (ofH []) (AV.tup [tc (st ((AL.Quill.rowQ x).1)), TV.agg [.s (st (((AL.Quill.rowQ x).2).1)), .s (i6 (((AL.Quill.rowQ x).2).2.1)), .s (i6 (((AL.Quill.rowQ x).2).2.2))]]) (ofH [])] 34 [(0, vc (st s)), (4, vp 4 0), (5, vo 5), (6, vc (st ((AL.Quill.rowQ x).1))), (7, vp 7 0)] [(4, AObj.row [.s (st x.1), .s (i6 x.2.1), .s (i6 x.2.2)]), (5, AObj.grow 9 1 Bytes [] AL.Fnv.rowS o), (7, AObj.row [.s (st (((AL.Quill.rowQ x).2).1)), .s (i6 (((AL.Quill.rowQ x).2).2.1)), .s (i6 (((AL.Quill.rowQ x).2).2.2))])] (AL.Quill.RTakeRow_c x (by first | omega | (have z1 := hP.lo; have z2 := hP.hi; have z3 := hP.few; have z4 := hP.fuel; have z5 := hP.text; have z6 := congrArg List.length z5; first | omega | ((try simp only [List.length_append, List.length_cons, List.length_nil]); omega)))) ?_
   refine gQ ?_
   refine gS [] [] 34 [(0, vc (st s)), (4, vp 4 0), (5, vo 5), (6, vc (st ((AL.Quill.rowQ x).1))), (7, vp 7 0), (25, vc (bo (!decide (((AL.Quill.rowQ x).2).2.2 = 0))))] [(4, AObj.row [.s (st x.1), .s (i6 x.2.1), .s (i6 x.2.2)]), (5, AObj.grow 9 1 Bytes [] AL.Fnv.rowS o), (7, AObj.row [.s (st (((AL.Quill.rowQ x).2).1)), .s (i6 (((AL.Quill.rowQ x).2).2.1)), .s (i6 (((AL.Quill.rowQ x).2).2.2))])] trivial ?_
   refine gN (((AL.Quill.rowQ x).2).2.2 = 0) (fun hc3 => ?_) fun hc3 => ?_
   ·
    refine gY [] [(1, [7])] [] 34 [(2, vc (SC.nilsl)), (3, vc (i6 (((AL.Quill.rowQ x).2).2.2)))] [] mixed trivial ?_
    refine AMx.ent (ent_weak 2 (v' := vc (AL.Fnv.slS [])) (by kernel_rfl) (AV.le_t (TV.le_c AC.le_nil))) ?_
    exact gT (AV.tup [tc (AL.Fnv.slS []), tc (i6 (((AL.Quill.rowQ x).2).2.2))]) (by rw [show splitR s = ([], ((AL.Quill.rowQ x).2).2.2) from by first | exact spl_bad hP (by have z5 := hP.text; have z6 := congrArg List.length z5; omega) (by assumption) | exact spl_end hP (by have z5 := hP.text; have z6 := congrArg List.length z5; omega)])
   ·
    refine AMx.skip ?_
    refine gS [(2, CE.obj (AObj.grow 9 1 Bytes [] AL.Fnv.rowS [(AL.Quill.rowQ x).1])), (3, CE.obj (AObj.grow 9 1 Bytes [] AL.Fnv.rowS (o ++ [(AL.Quill.rowQ x).1])))] [flat 1 AL.Fnv.rowS [(AL.Quill.rowQ x).1] = [.s (st ((AL.Quill.rowQ x).1))], List.length ([(AL.Quill.rowQ x).1] : List Bytes) = 1, AppC (flat 1 AL.Fnv.rowS [(AL.Quill.rowQ x).1]) (List.length ([(AL.Quill.rowQ x).1] : List Bytes)) 16 (AObj.grow 9 1 Bytes [] AL.Fnv.rowS o) (AObj.grow 9 1 Bytes [] AL.Fnv.rowS (o ++ [(AL.Quill.rowQ x).1]))] 34 [(0, vc (st s)), (4, vp 4 0), (5, vo 31), (7, vp 7 0)] [(4, AObj.row [.s (st x.1), .s (i6 x.2.1), .s (i6 x.2.2)]), (7, AObj.row [.s (st (((AL.Quill.rowQ x).2).1)), .s (i6 (((AL.Quill.rowQ x).2).2.1)), .s (i6 (((AL.Quill.rowQ x).2).2.2))]), (31, AObj.grow 9 1 Bytes [] AL.Fnv.rowS (o ++ [(AL.Quill.rowQ x).1]))] ⟨rfl, rfl, (⟨_, rfl, rfl, rfl, by have z1 := hP.few; have z2 := hP.hi; simp only [List.length_append, List.length_cons, List.length_nil]; omega, by have z1 := hP.few; have z2 := hP.hi; simp only [maxLen, List.length_append, List.length_cons, List.length_nil]; omega⟩)⟩ ?_
    refine gR [] [] 34 [(0, vc (st s)), (4, vp 4 0), (5, vo 31)] [(4, AObj.row [.s (st (((AL.Quill.rowQ x).2).1)), .s (i6 (((AL.Quill.rowQ x).2).2.1)), .s (i6 (((AL.Quill.rowQ x).2).2.2))]), (31, AObj.grow 9 1 Bytes [] AL.Fnv.rowS (o ++ [(AL.Quill.rowQ x).1]))] trivial ?_
    refine AMx.blk ?_
    refine AMx.ent_inv (s' := AS.lst 34 [(0, vc (st s)), (4, vp 4 0), (5, vo 5)] [(4, AObj.row [.s (st (((AL.Quill.rowQ x).2).1)), .s (i6 (((AL.Quill.rowQ x).2).2.1)), .s (i6 (((AL.Quill.rowQ x).2).2.2))]), (5, AObj.grow 9 1 Bytes [] AL.Fnv.rowS (o ++ [(AL.Quill.rowQ x).1]))]) (ent_swap 31 5 (by kernel_rfl) (by kernel_rfl)) ?_
    refine AMx.ent_inv (s' := AS.lst 34 [(0, vc (st s)), (4, vp 4 0), (5, vo 5)] [(4, AObj.row [.s (st (((AL.Quill.rowQ x).2).1)), .s (i6 (((AL.Quill.rowQ x).2).2.1)), .s (i6 (((AL.Quill.rowQ x).2).2.2))]), (5, AObj.grow 9 1 Bytes [] AL.Fnv.rowS (o ++ [(AL.Quill.rowQ x).1]))]) (ent_proj [0, 4, 5] [4, 5]) ?_
    refine AMx.inv ⟨_, ?_, f - 1, o ++ [(AL.Quill.rowQ x).1], (AL.Quill.rowQ x).2, ?_, rfl, ?_⟩
    rotate_left
    · exact (spl_next hP (by have z5 := hP.text; have z6 := congrArg List.length z5; omega) (by assumption)).1
    · rfl
    · have z := (spl_next hP (by have z5 := hP.text; have z6 := congrArg List.length z5; omega) (by assumption)).2; omega
 ·
  refine AMx.exit ?_
  refine AMx.code_exit ?_
  refine AMx.inv_exit ?_
  refine AMx.blk_exit ?_
  refine gS [] [] 34 [(2, vo 5), (3, vc (i6 0))] [(5, AObj.grow 9 1 Bytes [] AL.Fnv.rowS o)] trivial ?_
  refine AMx.ent (s' := AS.lst 34 [(2, vc (AL.Fnv.slS o)), (3, vc (i6 0))] []) (ent_freeze (id := 5) (T := 9) (by kernel_rfl)) ?_
  exact gT (AV.tup [tc (AL.Fnv.slS o), tc (i6 0)]) (by rw [show splitR s = (o, 0) from by first | exact spl_bad hP (by have z5 := hP.text; have z6 := congrArg List.length z5; omega) (by assumption) | exact spl_end hP (by have z5 := hP.text; have z6 := congrArg List.length z5; omega)])
theorem f30_body : Tryz.f30.body = some (.seq (.region 0 (rg Tryz.f30 0) false) (.seq (.seq (.region 1 (rg Tryz.f30 1) false) (.seq (.region 2 (rg Tryz.f30 2) false) (.cond (.tmp 12) (.seq (.region 3 (rg Tryz.f30 3) false) (.ret)) (.skip)))) (.seq (.region 4 (rg Tryz.f30 4) false) (.seq (.region 5 (rg Tryz.f30 5) false) (.seq (.region 6 (rg Tryz.f30 6) false) (.ret)))))) := by kernel_rfl
set_option maxRecDepth 100000 in
set_option maxHeartbeats 8000000 in
theorem Text_c (t : TokV) : Pure Tryz.prog 30 [TV.agg [.s (st t.1), .s (st t.2.1), .s (AL.Policy.slP t.2.2)]] (AV.tup [tc (st ((textT t).1)), tc (i6 ((textT t).2))]) := by
 refine Pure.of_body Tryz.func30 f30_body (by kernel_rfl) Tryz.ntmps30 (by kernel_rfl) (by kernel_rfl) ?_
 refine gS [] [] 31 [(1, vp 1 0)] [(1, AObj.row [.s (st t.1), .s (st t.2.1), .s (AL.Policy.slP t.2.2)])] trivial ?_
 refine gQ ?_
 refine gS [(1, CE.call [] [] (vc (i6 (checkT t))) [])] [Spec Tryz.prog 13 [TV.agg [.s (st t.1), .s (st t.2.1), .s (AL.Policy.slP t.2.2)]] (ofH []) (vc (i6 (checkT t))) (ofH [])] 31 [(1, vp 1 0), (4, vc (i6 (checkT t)))] [(1, AObj.row [.s (st t.1), .s (st t.2.1), .s (AL.Policy.slP t.2.2)])] (Check_c t) ?_
 refine gS [] [] 31 [(1, vp 1 0), (4, vc (i6 (checkT t))), (12, vc (bo (!decide (checkT t = 0))))] [(1, AObj.row [.s (st t.1), .s (st t.2.1), .s (AL.Policy.slP t.2.2)])] trivial ?_
 refine gN (checkT t = 0) (fun hc1 => ?_) fun hc1 => ?_
 ·
  refine gS [] [] 31 [(2, vc (st [])), (3, vc (i6 (checkT t)))] [] trivial ?_
  exact gT (AV.tup [tc (st []), tc (i6 (checkT t))]) (by rw [show textT t = ([], checkT t) from by unfold textT; first | (rw [if_pos (by assumption)]; done) | (rw [if_neg (by omega)]; done)])
 ·
  refine AMx.skip ?_
  refine gS [(2, CE.call [] [] (AV.tup [tc (st ((Policy.textP t.2.2).1)), tc (i6 ((Policy.textP t.2.2).2))]) [])] [Spec Tryz.prog 61 [tc (AL.Policy.slP t.2.2)] (ofH []) (AV.tup [tc (st ((Policy.textP t.2.2).1)), tc (i6 ((Policy.textP t.2.2).2))]) (ofH [])] 31 [(1, vp 1 0), (5, vc (st ((Policy.textP t.2.2).1)))] [(1, AObj.row [.s (st t.1), .s (st t.2.1), .s (AL.Policy.slP t.2.2)])] (Policy.Text_c t.2.2) ?_
  refine gS [(3, CE.obj (AObj.grow 9 1 Bytes [] AL.Fnv.rowS [t.2.1, (Policy.textP t.2.2).1])), (4, CE.call [24] [] (AV.tup [TV.c (.own 25), tc (i6 0)]) [(25, AObj.grow 5 1 UInt8 0 rowU8 (rowsB [t.2.1, (Policy.textP t.2.2).1]))])] [flat 1 AL.Fnv.rowS [t.2.1, (Policy.textP t.2.2).1] = [.s (st t.2.1), .s (st ((Policy.textP t.2.2).1))], List.length ([t.2.1, (Policy.textP t.2.2).1] : List Bytes) = 2, Spec Tryz.prog 62 [tc (AL.Fnv.slS [t.2.1, (Policy.textP t.2.2).1])] (ofH []) (AV.tup [TV.c (.own 25), tc (i6 0)]) (ofH [(25, AObj.grow 5 1 UInt8 0 rowU8 (rowsB [t.2.1, (Policy.textP t.2.2).1]))])] 31 [(7, vo 25), (8, vc (i6 0))] [(25, AObj.grow 5 1 UInt8 0 rowU8 (rowsB [t.2.1, (Policy.textP t.2.2).1]))] ⟨rfl, rfl, (Rows_c [t.2.1, (Policy.textP t.2.2).1] (by first | omega | (have z := two_len (t := t) (by omega); first | omega | (simp only [List.length_cons, List.length_nil]; omega))) (by exact two_le (by omega)) (by first | omega | (have z := two_len (t := t) (by omega); first | omega | (simp only [List.length_cons, List.length_nil]; omega))) 25)⟩ ?_
  refine gS [(1, CE.str (rowsB [t.2.1, (Policy.textP t.2.2).1]))] [flat 1 rowU8 (rowsB [t.2.1, (Policy.textP t.2.2).1]) = flat 1 rowU8 (rowsB [t.2.1, (Policy.textP t.2.2).1]), List.length (rowsB [t.2.1, (Policy.textP t.2.2).1] : List UInt8) = List.length (rowsB [t.2.1, (Policy.textP t.2.2).1] : List UInt8), (List.length (rowsB [t.2.1, (Policy.textP t.2.2).1] : List UInt8) : Int) ≤ 140737488355328] 31 [(2, vc (st (rowsB [t.2.1, (Policy.textP t.2.2).1]))), (3, vc (i6 0))] [] ⟨rfl, rfl, (show (List.length (rowsB [t.2.1, (Policy.textP t.2.2).1] : List UInt8) : Int) ≤ 140737488355328 from (by first | omega | (have z := two_len (t := t) (by omega); first | omega | (simp only [List.length_cons, List.length_nil]; omega))))⟩ ?_
  exact gT (AV.tup [tc (st (rowsB [t.2.1, (Policy.textP t.2.2).1])), tc (i6 0)]) (by rw [show textT t = (rowsB [t.2.1, (Policy.textP t.2.2).1], 0) from by unfold textT; first | (rw [if_pos (by assumption)]; done) | (rw [if_neg (by omega)]; done)])
theorem f31_body : Tryz.f31.body = some (.seq (.region 0 (rg Tryz.f31 0) false) (.seq (.region 1 (rg Tryz.f31 1) false) (.seq (.seq (.region 2 (rg Tryz.f31 2) false) (.cond (.tmp 12) (.seq (.region 3 (rg Tryz.f31 3) false) (.ret)) (.skip))) (.seq (.region 4 (rg Tryz.f31 4) false) (.seq (.region 5 (rg Tryz.f31 5) false) (.seq (.region 6 (rg Tryz.f31 6) false) (.ret))))))) := by kernel_rfl
set_option maxRecDepth 100000 in
set_option maxHeartbeats 8000000 in
theorem RText_c (t : TokV) : Pure Tryz.prog 31 [TV.agg [.s (st t.1), .s (st t.2.1), .s (AL.Policy.slP t.2.2)]] (AV.tup [tc (st ((textT t).1)), tc (i6 ((textT t).2))]) := by
 refine Pure.of_body Tryz.func31 f31_body (by kernel_rfl) Tryz.ntmps31 (by kernel_rfl) (by kernel_rfl) ?_
 refine gS [] [] 30 [(1, vp 1 0)] [(1, AObj.row [.s (st t.1), .s (st t.2.1), .s (AL.Policy.slP t.2.2)])] trivial ?_
 refine gS [(1, CE.call [] [] (vc (i6 (checkT t))) [])] [Spec Tryz.prog 15 [TV.agg [.s (st t.1), .s (st t.2.1), .s (AL.Policy.slP t.2.2)]] (ofH []) (vc (i6 (checkT t))) (ofH [])] 30 [(1, vp 1 0), (4, vc (i6 (checkT t)))] [(1, AObj.row [.s (st t.1), .s (st t.2.1), .s (AL.Policy.slP t.2.2)])] (RCheck_c t) ?_
 refine gQ ?_
 refine gS [] [] 30 [(1, vp 1 0), (4, vc (i6 (checkT t))), (12, vc (bo (!decide (checkT t = 0))))] [(1, AObj.row [.s (st t.1), .s (st t.2.1), .s (AL.Policy.slP t.2.2)])] trivial ?_
 refine gN (checkT t = 0) (fun hc1 => ?_) fun hc1 => ?_
 ·
  refine gS [] [] 30 [(2, vc (st [])), (3, vc (i6 (checkT t)))] [] trivial ?_
  exact gT (AV.tup [tc (st []), tc (i6 (checkT t))]) (by rw [show textT t = ([], checkT t) from by unfold textT; first | (rw [if_pos (by assumption)]; done) | (rw [if_neg (by omega)]; done)])
 ·
  refine AMx.skip ?_
  refine gS [(2, CE.call [] [] (AV.tup [tc (st ((Policy.textP t.2.2).1)), tc (i6 ((Policy.textP t.2.2).2))]) [])] [Spec Tryz.prog 63 [tc (AL.Policy.slP t.2.2)] (ofH []) (AV.tup [tc (st ((Policy.textP t.2.2).1)), tc (i6 ((Policy.textP t.2.2).2))]) (ofH [])] 30 [(1, vp 1 0), (5, vc (st ((Policy.textP t.2.2).1)))] [(1, AObj.row [.s (st t.1), .s (st t.2.1), .s (AL.Policy.slP t.2.2)])] (Policy.RText_c t.2.2) ?_
  refine gS [(3, CE.obj (AObj.grow 9 1 Bytes [] AL.Fnv.rowS [t.2.1, (Policy.textP t.2.2).1])), (4, CE.call [24] [] (AV.tup [TV.c (.own 25), tc (i6 0)]) [(25, AObj.grow 5 1 UInt8 0 rowU8 (rowsB [t.2.1, (Policy.textP t.2.2).1]))])] [flat 1 AL.Fnv.rowS [t.2.1, (Policy.textP t.2.2).1] = [.s (st t.2.1), .s (st ((Policy.textP t.2.2).1))], List.length ([t.2.1, (Policy.textP t.2.2).1] : List Bytes) = 2, Spec Tryz.prog 64 [tc (AL.Fnv.slS [t.2.1, (Policy.textP t.2.2).1])] (ofH []) (AV.tup [TV.c (.own 25), tc (i6 0)]) (ofH [(25, AObj.grow 5 1 UInt8 0 rowU8 (rowsB [t.2.1, (Policy.textP t.2.2).1]))])] 30 [(7, vo 25)] [(25, AObj.grow 5 1 UInt8 0 rowU8 (rowsB [t.2.1, (Policy.textP t.2.2).1]))] ⟨rfl, rfl, (RRows_c [t.2.1, (Policy.textP t.2.2).1] (by first | omega | (have z := two_len (t := t) (by omega); first | omega | (simp only [List.length_cons, List.length_nil]; omega))) (by exact two_le (by omega)) (by first | omega | (have z := two_len (t := t) (by omega); first | omega | (simp only [List.length_cons, List.length_nil]; omega))) 25)⟩ ?_
  refine gS [(1, CE.str (rowsB [t.2.1, (Policy.textP t.2.2).1]))] [flat 1 rowU8 (rowsB [t.2.1, (Policy.textP t.2.2).1]) = flat 1 rowU8 (rowsB [t.2.1, (Policy.textP t.2.2).1]), List.length (rowsB [t.2.1, (Policy.textP t.2.2).1] : List UInt8) = List.length (rowsB [t.2.1, (Policy.textP t.2.2).1] : List UInt8), (List.length (rowsB [t.2.1, (Policy.textP t.2.2).1] : List UInt8) : Int) ≤ 140737488355328] 30 [(2, vc (st (rowsB [t.2.1, (Policy.textP t.2.2).1]))), (3, vc (i6 0))] [] ⟨rfl, rfl, (show (List.length (rowsB [t.2.1, (Policy.textP t.2.2).1] : List UInt8) : Int) ≤ 140737488355328 from (by first | omega | (have z := two_len (t := t) (by omega); first | omega | (simp only [List.length_cons, List.length_nil]; omega))))⟩ ?_
  exact gT (AV.tup [tc (st (rowsB [t.2.1, (Policy.textP t.2.2).1])), tc (i6 0)]) (by rw [show textT t = (rowsB [t.2.1, (Policy.textP t.2.2).1], 0) from by unfold textT; first | (rw [if_pos (by assumption)]; done) | (rw [if_neg (by omega)]; done)])
theorem f32_body : Tryz.f32.body = some (.seq (.region 0 (rg Tryz.f32 0) false) (.seq (.region 1 (rg Tryz.f32 1) false) (.seq (.seq (.region 2 (rg Tryz.f32 2) false) (.cond (.tmp 16) (.seq (.region 3 (rg Tryz.f32 3) false) (.ret)) (.skip))) (.seq (.seq (.region 4 (rg Tryz.f32 4) false) (.cond (.tmp 21) (.seq (.region 5 (rg Tryz.f32 5) false) (.ret)) (.skip))) (.seq (.region 6 (rg Tryz.f32 6) false) (.seq (.region 7 (rg Tryz.f32 7) false) (.seq (.seq (.region 8 (rg Tryz.f32 8) false) (.cond (.tmp 42) (.seq (.region 9 (rg Tryz.f32 9) false) (.ret)) (.skip))) (.seq (.region 10 (rg Tryz.f32 10) false) (.ret))))))))) := by kernel_rfl
set_option maxRecDepth 100000 in
set_option maxHeartbeats 8000000 in
theorem Parse_c (n s : Bytes) (hs : s.length ≤ 2000) : Pure Tryz.prog 32 [tc (st n), tc (st s)] (AV.tup [TV.agg [.s (st (((parseT n s).1).1)), .s (st (((parseT n s).1).2.1)), .s (AL.Policy.slP (((parseT n s).1).2.2))], tc (i6 ((parseT n s).2))]) := by
 refine Pure.of_body Tryz.func32 f32_body (by kernel_rfl) Tryz.ntmps32 (by kernel_rfl) (by kernel_rfl) ?_
 refine gS [] [] 45 [(0, vc (st n)), (1, vc (st s)), (4, vp 4 0)] [(4, AObj.row [.s (st []), .s (st []), .s (SC.nilsl)])] trivial ?_
 refine gS [(1, CE.call [] [] (AV.tup [tc (AL.Fnv.slS ((splitR s).1)), tc (i6 ((splitR s).2))]) [])] [Spec Tryz.prog 65 [tc (st s)] (ofH []) (AV.tup [tc (AL.Fnv.slS ((splitR s).1)), tc (i6 ((splitR s).2))]) (ofH [])] 45 [(0, vc (st n)), (4, vp 4 0), (6, vc (AL.Fnv.slS ((splitR s).1))), (7, vc (i6 ((splitR s).2)))] [(4, AObj.row [.s (st []), .s (st []), .s (SC.nilsl)])] (Split_c s (by first | omega | (have z := piece_le (s := s) 1; omega))) ?_
 refine gQ ?_
 refine gS [] [] 45 [(0, vc (st n)), (4, vp 4 0), (6, vc (AL.Fnv.slS ((splitR s).1))), (7, vc (i6 ((splitR s).2))), (16, vc (bo (!decide ((splitR s).2 = 0))))] [(4, AObj.row [.s (st []), .s (st []), .s (SC.nilsl)])] trivial ?_
 refine gN ((splitR s).2 = 0) (fun hc1 => ?_) fun hc1 => ?_
 ·
  refine gS [] [] 45 [(4, vp 4 0), (5, vc (i6 ((splitR s).2)))] [(4, AObj.row [.s (st []), .s (st []), .s (SC.nilsl)])] trivial ?_
  refine AMx.ent (ent_row 4 (l := [.s (st []), .s (st []), .s (SC.nilsl)]) (m := [.s (st []), .s (st []), .s (AL.Policy.slP [])]) (by kernel_rfl) ⟨AC.le_rfl, AC.le_rfl, AC.le_nil, trivial⟩) ?_
  exact gT (AV.tup [TV.agg [.s (st []), .s (st []), .s (AL.Policy.slP [])], tc (i6 ((splitR s).2))]) (by rw [show parseT n s = ((([], [], []) : TokV), (splitR s).2) from by unfold parseT; first | (rw [if_pos (by assumption)]; done) | (rw [if_pos (by assumption)]; rfl) | (rw [if_neg (by omega), if_pos (by omega)]; rfl) | (rw [if_neg (by omega), if_neg (by omega), if_pos (by assumption)]; rfl) | (rw [if_neg (by omega), if_neg (by omega), if_neg (by grind)]; done)])
 ·
  refine AMx.skip ?_
  refine gQ ?_
  refine gS [] [] 45 [(0, vc (st n)), (4, vp 4 0), (6, vc (AL.Fnv.slS ((splitR s).1))), (21, vc (bo (!decide ((List.length ((splitR s).1 : List Bytes) : Int) = 2))))] [(4, AObj.row [.s (st []), .s (st []), .s (SC.nilsl)])] trivial ?_
  refine gN ((List.length ((splitR s).1 : List Bytes) : Int) = 2) (fun hc2 => ?_) fun hc2 => ?_
  ·
   refine gS [] [] 45 [(4, vp 4 0), (5, vc (i6 4))] [(4, AObj.row [.s (st []), .s (st []), .s (SC.nilsl)])] trivial ?_
   refine AMx.ent (ent_row 4 (l := [.s (st []), .s (st []), .s (SC.nilsl)]) (m := [.s (st []), .s (st []), .s (AL.Policy.slP [])]) (by kernel_rfl) ⟨AC.le_rfl, AC.le_rfl, AC.le_nil, trivial⟩) ?_
   exact gT (AV.tup [TV.agg [.s (st []), .s (st []), .s (AL.Policy.slP [])], tc (i6 4)]) (by rw [show parseT n s = ((([], [], []) : TokV), 4) from by unfold parseT; first | (rw [if_pos (by assumption)]; done) | (rw [if_pos (by assumption)]; rfl) | (rw [if_neg (by omega), if_pos (by omega)]; rfl) | (rw [if_neg (by omega), if_neg (by omega), if_pos (by assumption)]; rfl) | (rw [if_neg (by omega), if_neg (by omega), if_neg (by grind)]; done)])
  ·
   refine AMx.skip ?_
   refine gS [(3, CE.call [] [] (AV.tup [tc (AL.Policy.slP ((Policy.parseP (List.getD ((splitR s).1) 1 [])).1)), tc (i6 ((Policy.parseP (List.getD ((splitR s).1) 1 [])).2))]) [])] [(0 : Int) ≤ 1, (1 : Int) < List.length ((splitR s).1 : List Bytes), Spec Tryz.prog 66 [tc (st (List.getD ((splitR s).1) 1 []))] (ofH []) (AV.tup [tc (AL.Policy.slP ((Policy.parseP (List.getD ((splitR s).1) 1 [])).1)), tc (i6 ((Policy.parseP (List.getD ((splitR s).1) 1 [])).2))]) (ofH [])] 45 [(0, vc (st n)), (4, vp 4 0), (6, vc (AL.Fnv.slS ((splitR s).1))), (7, vc (i6 ((Policy.parseP (List.getD ((splitR s).1) 1 [])).2))), (8, vc (AL.Policy.slP ((Policy.parseP (List.getD ((splitR s).1) 1 [])).1)))] [(4, AObj.row [.s (st []), .s (st []), .s (SC.nilsl)])] ⟨(by first | omega | (have z := piece_le (s := s) 1; omega)), (by first | omega | (have z := piece_le (s := s) 1; omega)), (Policy.Parse_c (List.getD ((splitR s).1) 1 []) (by first | omega | (have z := piece_le (s := s) 1; omega)))⟩ ?_
   refine gS [] [(0 : Int) ≤ 0, (0 : Int) < List.length ((splitR s).1 : List Bytes)] 45 [(4, vp 4 0), (7, vc (i6 ((Policy.parseP (List.getD ((splitR s).1) 1 [])).2))), (9, vp 9 0)] [(4, AObj.row [.s (st []), .s (st []), .s (SC.nilsl)]), (9, AObj.row [.s (st n), .s (st (List.getD ((splitR s).1) 0 [])), .s (AL.Policy.slP ((Policy.parseP (List.getD ((splitR s).1) 1 [])).1))])] ⟨(by first | omega | (have z := piece_le (s := s) 1; omega)), (show (0 : Int) < List.length ((splitR s).1 : List Bytes) from (by first | omega | (have z := piece_le (s := s) 1; omega)))⟩ ?_
   refine gQ ?_
   refine gS [(4, CE.call [] [] (vc (i6 (checkT ((n, (List.getD ((splitR s).1) 0 []), (Policy.parseP (List.getD ((splitR s).1) 1 [])).1) : TokV)))) [])] [((!decide ((Policy.parseP (List.getD ((splitR s).1) 1 [])).2 = 0)) = false) → allP [(!decide ((Policy.parseP (List.getD ((splitR s).1) 1 [])).2 = 0)) = false, Spec Tryz.prog 13 [TV.agg [.s (st n), .s (st (List.getD ((splitR s).1) 0 [])), .s (AL.Policy.slP ((Policy.parseP (List.getD ((splitR s).1) 1 [])).1))]] (ofH []) (vc (i6 (checkT ((n, (List.getD ((splitR s).1) 0 []), (Policy.parseP (List.getD ((splitR s).1) 1 [])).1) : TokV)))) (ofH [])], ((!decide ((Policy.parseP (List.getD ((splitR s).1) 1 [])).2 = 0)) = false) → allP [(!decide ((Policy.parseP (List.getD ((splitR s).1) 1 [])).2 = 0)) = false], (!decide ((Policy.parseP (List.getD ((splitR s).1) 1 [])).2 = 0)) = false → allP [(!decide ((Policy.parseP (List.getD ((splitR s).1) 1 [])).2 = 0)) = false]] 45 [(4, vp 4 0), (9, vp 9 0), (42, vc (bo ((!decide ((Policy.parseP (List.getD ((splitR s).1) 1 [])).2 = 0)) || (!decide (checkT ((n, (List.getD ((splitR s).1) 0 []), (Policy.parseP (List.getD ((splitR s).1) 1 [])).1) : TokV) = 0)))))] [(4, AObj.row [.s (st []), .s (st []), .s (SC.nilsl)]), (9, AObj.row [.s (st n), .s (st (List.getD ((splitR s).1) 0 [])), .s (AL.Policy.slP ((Policy.parseP (List.getD ((splitR s).1) 1 [])).1))])] ⟨(fun hp => by have hq := hp; (try simp only [xT, xF, xA, xO, xB, xP, xN, xM, Bool.not_eq_true, Bool.not_eq_false] at hq); exact ⟨hp, (Check_c ((n, (List.getD ((splitR s).1) 0 []), (Policy.parseP (List.getD ((splitR s).1) 1 [])).1) : TokV))⟩), (fun hp => hp), (fun hp2 => (by first | exact hp2 | exact ⟨hp, hp2⟩))⟩ ?_
   refine gB (((!decide ((Policy.parseP (List.getD ((splitR s).1) 1 [])).2 = 0)) || (!decide (checkT ((n, (List.getD ((splitR s).1) 0 []), (Policy.parseP (List.getD ((splitR s).1) 1 [])).1) : TokV) = 0)))) (fun hc3 => ?_) fun hc3 => ?_
   ·
    try simp only [xT, xF, xO, xP, xN, xM] at hc3
    refine gS [] [] 45 [(4, vp 4 0), (5, vc (i6 4))] [(4, AObj.row [.s (st []), .s (st []), .s (SC.nilsl)])] trivial ?_
    refine AMx.ent (ent_row 4 (l := [.s (st []), .s (st []), .s (SC.nilsl)]) (m := [.s (st []), .s (st []), .s (AL.Policy.slP [])]) (by kernel_rfl) ⟨AC.le_rfl, AC.le_rfl, AC.le_nil, trivial⟩) ?_
    exact gT (AV.tup [TV.agg [.s (st []), .s (st []), .s (AL.Policy.slP [])], tc (i6 4)]) (by rw [show parseT n s = ((([], [], []) : TokV), 4) from by unfold parseT; first | (rw [if_pos (by assumption)]; done) | (rw [if_pos (by assumption)]; rfl) | (rw [if_neg (by omega), if_pos (by omega)]; rfl) | (rw [if_neg (by omega), if_neg (by omega), if_pos (by assumption)]; rfl) | (rw [if_neg (by omega), if_neg (by omega), if_neg (by grind)]; done)])
   ·
    try simp only [xT, xF, xO, xP, xN, xM] at hc3
    refine AMx.skip ?_
    refine gS [] [] 45 [(4, vp 4 0), (5, vc (i6 0))] [(4, AObj.row [.s (st n), .s (st (List.getD ((splitR s).1) 0 [])), .s (AL.Policy.slP ((Policy.parseP (List.getD ((splitR s).1) 1 [])).1))])] trivial ?_
    exact gT (AV.tup [TV.agg [.s (st n), .s (st (List.getD ((splitR s).1) 0 [])), .s (AL.Policy.slP ((Policy.parseP (List.getD ((splitR s).1) 1 [])).1))], tc (i6 0)]) (by rw [show parseT n s = (((n, (List.getD ((splitR s).1) 0 []), (Policy.parseP (List.getD ((splitR s).1) 1 [])).1) : TokV), 0) from by unfold parseT; first | (rw [if_pos (by assumption)]; done) | (rw [if_pos (by assumption)]; rfl) | (rw [if_neg (by omega), if_pos (by omega)]; rfl) | (rw [if_neg (by omega), if_neg (by omega), if_pos (by assumption)]; rfl) | (rw [if_neg (by omega), if_neg (by omega), if_neg (by grind)]; done)])
theorem f33_body : Tryz.f33.body = some (.seq (.region 0 (rg Tryz.f33 0) false) (.seq (.region 1 (rg Tryz.f33 1) false) (.seq (.seq (.region 2 (rg Tryz.f33 2) false) (.cond (.tmp 17) (.seq (.region 3 (rg Tryz.f33 3) false) (.ret)) (.skip))) (.seq (.seq (.region 4 (rg Tryz.f33 4) false) (.cond (.tmp 22) (.seq (.region 5 (rg Tryz.f33 5) false) (.ret)) (.skip))) (.seq (.region 6 (rg Tryz.f33 6) false) (.seq (.region 7 (rg Tryz.f33 7) false) (.seq (.seq (.region 8 (rg Tryz.f33 8) false) (.cond (.tmp 43) (.seq (.region 9 (rg Tryz.f33 9) false) (.ret)) (.skip))) (.seq (.region 10 (rg Tryz.f33 10) false) (.ret))))))))) := by kernel_rfl
set_option maxRecDepth 100000 in
set_option maxHeartbeats 8000000 in
theorem RParse_c (n s : Bytes) (hs : s.length ≤ 2000) : Pure Tryz.prog 33 [tc (st n), tc (st s)] (AV.tup [TV.agg [.s (st (((parseT n s).1).1)), .s (st (((parseT n s).1).2.1)), .s (AL.Policy.slP (((parseT n s).1).2.2))], tc (i6 ((parseT n s).2))]) := by
 refine Pure.of_body Tryz.func33 f33_body (by kernel_rfl) Tryz.ntmps33 (by kernel_rfl) (by kernel_rfl) ?_
 refine gS [] [] 46 [(0, vc (st n)), (1, vc (st s)), (4, vp 4 0)] [(4, AObj.row [.s (st []), .s (st []), .s (SC.nilsl)])] trivial ?_
 refine gS [(1, CE.call [] [] (AV.tup [tc (AL.Fnv.slS ((splitR s).1)), tc (i6 ((splitR s).2))]) [])] [Spec Tryz.prog 67 [tc (st s)] (ofH []) (AV.tup [tc (AL.Fnv.slS ((splitR s).1)), tc (i6 ((splitR s).2))]) (ofH [])] 46 [(0, vc (st n)), (4, vp 4 0), (6, vc (AL.Fnv.slS ((splitR s).1))), (7, vc (i6 ((splitR s).2)))] [(4, AObj.row [.s (st []), .s (st []), .s (SC.nilsl)])] (RSplit_c s (by first | omega | (have z := piece_le (s := s) 1; omega))) ?_
 refine gQ ?_
 refine gS [] [] 46 [(0, vc (st n)), (4, vp 4 0), (6, vc (AL.Fnv.slS ((splitR s).1))), (7, vc (i6 ((splitR s).2))), (17, vc (bo (!decide ((splitR s).2 = 0))))] [(4, AObj.row [.s (st []), .s (st []), .s (SC.nilsl)])] trivial ?_
 refine gN ((splitR s).2 = 0) (fun hc1 => ?_) fun hc1 => ?_
 ·
  refine gS [] [] 46 [(4, vp 4 0), (5, vc (i6 ((splitR s).2)))] [(4, AObj.row [.s (st []), .s (st []), .s (SC.nilsl)])] trivial ?_
  refine AMx.ent (ent_row 4 (l := [.s (st []), .s (st []), .s (SC.nilsl)]) (m := [.s (st []), .s (st []), .s (AL.Policy.slP [])]) (by kernel_rfl) ⟨AC.le_rfl, AC.le_rfl, AC.le_nil, trivial⟩) ?_
  exact gT (AV.tup [TV.agg [.s (st []), .s (st []), .s (AL.Policy.slP [])], tc (i6 ((splitR s).2))]) (by rw [show parseT n s = ((([], [], []) : TokV), (splitR s).2) from by unfold parseT; first | (rw [if_pos (by assumption)]; done) | (rw [if_pos (by assumption)]; rfl) | (rw [if_neg (by omega), if_pos (by omega)]; rfl) | (rw [if_neg (by omega), if_neg (by omega), if_pos (by assumption)]; rfl) | (rw [if_neg (by omega), if_neg (by omega), if_neg (by grind)]; done)])
 ·
  refine AMx.skip ?_
  refine gQ ?_
  refine gS [] [] 46 [(0, vc (st n)), (4, vp 4 0), (6, vc (AL.Fnv.slS ((splitR s).1))), (22, vc (bo (!decide ((List.length ((splitR s).1 : List Bytes) : Int) = 2))))] [(4, AObj.row [.s (st []), .s (st []), .s (SC.nilsl)])] trivial ?_
  refine gN ((List.length ((splitR s).1 : List Bytes) : Int) = 2) (fun hc2 => ?_) fun hc2 => ?_
  ·
   refine gS [] [] 46 [(4, vp 4 0), (5, vc (i6 4))] [(4, AObj.row [.s (st []), .s (st []), .s (SC.nilsl)])] trivial ?_
   refine AMx.ent (ent_row 4 (l := [.s (st []), .s (st []), .s (SC.nilsl)]) (m := [.s (st []), .s (st []), .s (AL.Policy.slP [])]) (by kernel_rfl) ⟨AC.le_rfl, AC.le_rfl, AC.le_nil, trivial⟩) ?_
   exact gT (AV.tup [TV.agg [.s (st []), .s (st []), .s (AL.Policy.slP [])], tc (i6 4)]) (by rw [show parseT n s = ((([], [], []) : TokV), 4) from by unfold parseT; first | (rw [if_pos (by assumption)]; done) | (rw [if_pos (by assumption)]; rfl) | (rw [if_neg (by omega), if_pos (by omega)]; rfl) | (rw [if_neg (by omega), if_neg (by omega), if_pos (by assumption)]; rfl) | (rw [if_neg (by omega), if_neg (by omega), if_neg (by grind)]; done)])
  ·
   refine AMx.skip ?_
   refine gS [(3, CE.call [] [] (AV.tup [tc (AL.Policy.slP ((Policy.parseP (List.getD ((splitR s).1) 1 [])).1)), tc (i6 ((Policy.parseP (List.getD ((splitR s).1) 1 [])).2))]) [])] [(0 : Int) ≤ 1, (1 : Int) < List.length ((splitR s).1 : List Bytes), Spec Tryz.prog 68 [tc (st (List.getD ((splitR s).1) 1 []))] (ofH []) (AV.tup [tc (AL.Policy.slP ((Policy.parseP (List.getD ((splitR s).1) 1 [])).1)), tc (i6 ((Policy.parseP (List.getD ((splitR s).1) 1 [])).2))]) (ofH [])] 46 [(0, vc (st n)), (4, vp 4 0), (6, vc (AL.Fnv.slS ((splitR s).1))), (8, vc (AL.Policy.slP ((Policy.parseP (List.getD ((splitR s).1) 1 [])).1))), (9, vc (i6 ((Policy.parseP (List.getD ((splitR s).1) 1 [])).2)))] [(4, AObj.row [.s (st []), .s (st []), .s (SC.nilsl)])] ⟨(by first | omega | (have z := piece_le (s := s) 1; omega)), (by first | omega | (have z := piece_le (s := s) 1; omega)), (Policy.RParse_c (List.getD ((splitR s).1) 1 []) (by first | omega | (have z := piece_le (s := s) 1; omega)))⟩ ?_
   refine gS [] [(0 : Int) ≤ 0, (0 : Int) < List.length ((splitR s).1 : List Bytes)] 46 [(4, vp 4 0), (9, vc (i6 ((Policy.parseP (List.getD ((splitR s).1) 1 [])).2))), (10, vp 10 0)] [(4, AObj.row [.s (st []), .s (st []), .s (SC.nilsl)]), (10, AObj.row [.s (st n), .s (st (List.getD ((splitR s).1) 0 [])), .s (AL.Policy.slP ((Policy.parseP (List.getD ((splitR s).1) 1 [])).1))])] ⟨(by first | omega | (have z := piece_le (s := s) 1; omega)), (show (0 : Int) < List.length ((splitR s).1 : List Bytes) from (by first | omega | (have z := piece_le (s := s) 1; omega)))⟩ ?_
   refine gQ ?_
   refine gS [(4, CE.call [] [] (vc (i6 (checkT ((n, (List.getD ((splitR s).1) 0 []), (Policy.parseP (List.getD ((splitR s).1) 1 [])).1) : TokV)))) [])] [((!decide ((Policy.parseP (List.getD ((splitR s).1) 1 [])).2 = 0)) = false) → allP [(!decide ((Policy.parseP (List.getD ((splitR s).1) 1 [])).2 = 0)) = false, Spec Tryz.prog 15 [TV.agg [.s (st n), .s (st (List.getD ((splitR s).1) 0 [])), .s (AL.Policy.slP ((Policy.parseP (List.getD ((splitR s).1) 1 [])).1))]] (ofH []) (vc (i6 (checkT ((n, (List.getD ((splitR s).1) 0 []), (Policy.parseP (List.getD ((splitR s).1) 1 [])).1) : TokV)))) (ofH [])], ((!decide ((Policy.parseP (List.getD ((splitR s).1) 1 [])).2 = 0)) = false) → allP [(!decide ((Policy.parseP (List.getD ((splitR s).1) 1 [])).2 = 0)) = false], (!decide ((Policy.parseP (List.getD ((splitR s).1) 1 [])).2 = 0)) = false → allP [(!decide ((Policy.parseP (List.getD ((splitR s).1) 1 [])).2 = 0)) = false]] 46 [(4, vp 4 0), (10, vp 10 0), (43, vc (bo ((!decide ((Policy.parseP (List.getD ((splitR s).1) 1 [])).2 = 0)) || (!decide (checkT ((n, (List.getD ((splitR s).1) 0 []), (Policy.parseP (List.getD ((splitR s).1) 1 [])).1) : TokV) = 0)))))] [(4, AObj.row [.s (st []), .s (st []), .s (SC.nilsl)]), (10, AObj.row [.s (st n), .s (st (List.getD ((splitR s).1) 0 [])), .s (AL.Policy.slP ((Policy.parseP (List.getD ((splitR s).1) 1 [])).1))])] ⟨(fun hp => by have hq := hp; (try simp only [xT, xF, xA, xO, xB, xP, xN, xM, Bool.not_eq_true, Bool.not_eq_false] at hq); exact ⟨hp, (RCheck_c ((n, (List.getD ((splitR s).1) 0 []), (Policy.parseP (List.getD ((splitR s).1) 1 [])).1) : TokV))⟩), (fun hp => hp), (fun hp2 => (by first | exact hp2 | exact ⟨hp, hp2⟩))⟩ ?_
   refine gB (((!decide ((Policy.parseP (List.getD ((splitR s).1) 1 [])).2 = 0)) || (!decide (checkT ((n, (List.getD ((splitR s).1) 0 []), (Policy.parseP (List.getD ((splitR s).1) 1 [])).1) : TokV) = 0)))) (fun hc3 => ?_) fun hc3 => ?_
   ·
    try simp only [xT, xF, xO, xP, xN, xM] at hc3
    refine gS [] [] 46 [(4, vp 4 0), (5, vc (i6 4))] [(4, AObj.row [.s (st []), .s (st []), .s (SC.nilsl)])] trivial ?_
    refine AMx.ent (ent_row 4 (l := [.s (st []), .s (st []), .s (SC.nilsl)]) (m := [.s (st []), .s (st []), .s (AL.Policy.slP [])]) (by kernel_rfl) ⟨AC.le_rfl, AC.le_rfl, AC.le_nil, trivial⟩) ?_
    exact gT (AV.tup [TV.agg [.s (st []), .s (st []), .s (AL.Policy.slP [])], tc (i6 4)]) (by rw [show parseT n s = ((([], [], []) : TokV), 4) from by unfold parseT; first | (rw [if_pos (by assumption)]; done) | (rw [if_pos (by assumption)]; rfl) | (rw [if_neg (by omega), if_pos (by omega)]; rfl) | (rw [if_neg (by omega), if_neg (by omega), if_pos (by assumption)]; rfl) | (rw [if_neg (by omega), if_neg (by omega), if_neg (by grind)]; done)])
   ·
    try simp only [xT, xF, xO, xP, xN, xM] at hc3
    refine AMx.skip ?_
    refine gS [] [] 46 [(4, vp 4 0), (5, vc (i6 0))] [(4, AObj.row [.s (st n), .s (st (List.getD ((splitR s).1) 0 [])), .s (AL.Policy.slP ((Policy.parseP (List.getD ((splitR s).1) 1 [])).1))])] trivial ?_
    exact gT (AV.tup [TV.agg [.s (st n), .s (st (List.getD ((splitR s).1) 0 [])), .s (AL.Policy.slP ((Policy.parseP (List.getD ((splitR s).1) 1 [])).1))], tc (i6 0)]) (by rw [show parseT n s = (((n, (List.getD ((splitR s).1) 0 []), (Policy.parseP (List.getD ((splitR s).1) 1 [])).1) : TokV), 0) from by unfold parseT; first | (rw [if_pos (by assumption)]; done) | (rw [if_pos (by assumption)]; rfl) | (rw [if_neg (by omega), if_pos (by omega)]; rfl) | (rw [if_neg (by omega), if_neg (by omega), if_pos (by assumption)]; rfl) | (rw [if_neg (by omega), if_neg (by omega), if_neg (by grind)]; done)])
end AL.Token
namespace AL.Token
open Go AL
open AL.Policy (RuleV rowP slP checkP coversS capsP)
set_option linter.unusedVariables false
set_option linter.unusedSimpArgs false
theorem make_cases (l : List TokV) (t : TokV) : ((makeT l t).1 = l ∧ ¬ (makeT l t).2 = 0) ∨ (makeT l t = (intoT l t, 0) ∧ checkT t = 0 ∧ ¬ t.2.1 = [] ∧ findT l t.1 < 0 ∧ 0 ≤ findT l t.2.1 ∧ coversS t.2.2 (List.getD l (findT l t.2.1).toNat tokd).2.2 = true) := by
  unfold makeT
  split
  · exact .inl ⟨rfl, by assumption⟩
  · split
    · exact .inl ⟨rfl, show ¬ (2 : Int) = 0 by decide⟩
    · split
      · exact .inl ⟨rfl, show ¬ (20 : Int) = 0 by decide⟩
      · split
        · exact .inl ⟨rfl, show ¬ (6 : Int) = 0 by decide⟩
        · split
          · exact .inl ⟨rfl, show ¬ (13 : Int) = 0 by decide⟩
          · rename_i h1 h2 h3 h4 h5
            exact .inr ⟨rfl, Decidable.not_not.1 h1, h2, by omega, by omega, by simpa using h5⟩
theorem make_sort {l : List TokV} {t : TokV} (h : SortT l) : SortT (makeT l t).1 := by
  rcases make_cases l t with ⟨h1, _⟩ | ⟨h1, _, _, h2, _⟩
  · rw [h1]; exact h
  · rw [h1]; exact into_sort h h2
theorem make_len (l : List TokV) (t : TokV) : l.length ≤ (makeT l t).1.length ∧ (makeT l t).1.length ≤ l.length + 1 := by
  rcases make_cases l t with ⟨h1, _⟩ | ⟨h1, _⟩
  · rw [h1]; omega
  · rw [h1]; have := into_len l t; dsimp only; omega
def addL (s : List TokV) (t : TokV) : Option (List TokV) :=
  if t = firstT ∧ (s.length : Int) = 0 then some (intoT s t) else if ¬ (makeT s t).2 = 0 ∨ t.1 = rootB then none else some (makeT s t).1
def passL : List TokV → List TokV → List TokV × List TokV
  | s, [] => (s, [])
  | s, t :: l => match addL s t with
    | some s' => passL s' l
    | none => ((passL s l).1, t :: (passL s l).2)
theorem pass_len : ∀ (l s : List TokV), (passL s l).2.length ≤ l.length
  | [], _ => Nat.le_refl _
  | t :: l, s => by
    unfold passL
    split
    · exact Nat.le_succ_of_le (pass_len l _)
    · exact Nat.succ_le_succ (pass_len l s)
def loadL : Nat → List TokV → List TokV → List TokV × Int
  | 0, _, _ => ([], 4)
  | f + 1, s, left => if left.length = 0 then (s, 0) else if (passL s left).2.length = left.length then ([], 4) else loadL f (passL s left).1 (passL s left).2
def loadT (l : List TokV) : List TokV × Int := loadL (l.length + 1) [] l
structure LoadI (l : List TokV) (f : Nat) (s left : List TokV) : Prop where
  eq : loadT l = loadL f s left
  fuel : left.length < f
  rise : SortT s
  few : s.length + left.length ≤ l.length
structure PassI (s0 left : List TokV) (k : Nat) (s late : List TokV) : Prop where
  eq : passL s0 left = ((passL s (List.drop k left)).1, late ++ (passL s (List.drop k left)).2)
  rise : SortT s
  few : s.length + late.length ≤ s0.length + k
theorem load_0 (l : List TokV) : LoadI l (l.length + 1) [] l := ⟨rfl, Nat.lt_succ_self _, List.Pairwise.nil, by simp⟩
theorem pass_0 {s left : List TokV} (h : SortT s) : PassI s left 0 s [] := ⟨by simp, h, by simp⟩
section
variable {s0 left s late : List TokV} {k : Nat}
theorem pass_y (h : PassI s0 left k s late) (hk : k < left.length) {s' : List TokV} (ha : addL s (List.getD left k tokd) = some s') (hs : SortT s') (hl : s'.length ≤ s.length + 1) : PassI s0 left (k + 1) s' late := by
  refine ⟨?_, hs, by have := h.few; omega⟩
  rw [h.eq, Lib.drop_cons tokd left k hk, passL, ha]
theorem pass_n (h : PassI s0 left k s late) (hk : k < left.length) (ha : addL s (List.getD left k tokd) = none) : PassI s0 left (k + 1) s (late ++ [List.getD left k tokd]) := by
  refine ⟨?_, h.rise, by have := h.few; rw [List.length_append, List.length_singleton]; omega⟩
  rw [h.eq, Lib.drop_cons tokd left k hk, passL, ha]
  simp
theorem pass_a (h : PassI s0 left k s late) (hk : k < left.length) (hc : List.getD left k tokd = firstT ∧ (s.length : Int) = 0) : PassI s0 left (k + 1) (intoT s (List.getD left k tokd)) late := by
  refine pass_y h hk (by unfold addL; rw [if_pos hc]) ?_ (by rw [into_len]; exact Nat.le_refl _)
  have : s = [] := List.eq_nil_of_length_eq_zero (by omega)
  rw [this, hc.1]
  exact List.pairwise_singleton _ _
theorem pass_b (h : PassI s0 left k s late) (hk : k < left.length) (hc : ¬ List.getD left k tokd = firstT ∨ ¬ (s.length : Int) = 0) (h2 : ¬ (makeT s (List.getD left k tokd)).2 = 0 ∨ (List.getD left k tokd).1 = rootB) : PassI s0 left (k + 1) s (late ++ [List.getD left k tokd]) :=
  pass_n h hk (by unfold addL; rw [if_neg (fun q => hc.elim (fun z => z q.1) (fun z => z q.2)), if_pos h2])
theorem pass_c (h : PassI s0 left k s late) (hk : k < left.length) (hc : ¬ List.getD left k tokd = firstT ∨ ¬ (s.length : Int) = 0) (h2 : (makeT s (List.getD left k tokd)).2 = 0 ∧ ¬ (List.getD left k tokd).1 = rootB) : PassI s0 left (k + 1) (makeT s (List.getD left k tokd)).1 late :=
  pass_y h hk (by unfold addL; rw [if_neg (fun q => hc.elim (fun z => z q.1) (fun z => z q.2)), if_neg (fun q => q.elim (fun z => z h2.1) (fun z => h2.2 z))]) (make_sort h.rise) (make_len _ _).2
theorem pass_end (h : PassI s0 left k s late) (hk : left.length ≤ k) : passL s0 left = (s, late) := by
  rw [h.eq, List.drop_of_length_le hk]
  simp [passL]
end
theorem load_next {l : List TokV} {f : Nat} {s left s' late : List TokV} (h : LoadI l f s left) (h0 : ¬ left.length = 0) (hp : passL s left = (s', late)) (hn : ¬ late.length = left.length) (hs : SortT s') (hl : s'.length + late.length ≤ s.length + left.length) : LoadI l (f - 1) s' late ∧ 0 < f := by
  obtain ⟨g, rfl⟩ : ∃ g, f = g + 1 := ⟨f - 1, by have := h.fuel; omega⟩
  have h1 := h.fuel
  have h2 := h.few
  have h3 := pass_len left s
  rw [hp] at h3
  dsimp only at h3
  refine ⟨⟨?_, by omega, hs, by omega⟩, by omega⟩
  rw [h.eq, loadL, if_neg h0, hp, if_neg hn, Nat.add_sub_cancel]
theorem load_bad {l : List TokV} {f : Nat} {s left s' late : List TokV} (h : LoadI l f s left) (h0 : ¬ left.length = 0) (hp : passL s left = (s', late)) (hn : late.length = left.length) : loadT l = ([], 4) := by
  obtain ⟨g, rfl⟩ : ∃ g, f = g + 1 := ⟨f - 1, by have := h.fuel; omega⟩
  rw [h.eq, loadL, if_neg h0, hp, if_pos hn]
theorem load_end {l : List TokV} {f : Nat} {s left : List TokV} (h : LoadI l f s left) (h0 : left.length = 0) : loadT l = (s, 0) := by
  obtain ⟨g, rfl⟩ : ∃ g, f = g + 1 := ⟨f - 1, by have := h.fuel; omega⟩
  rw [h.eq, loadL, if_pos h0]
def RootC (s : List TokV) (t : TokV) : Prop := (((t.2.1 = [] ∧ t.1 = rootB) ∧ checkT t = 0) ∧ t.2.2 = firstT.2.2) ∧ findT s rootB < 0
instance (s : List TokV) (t : TokV) : Decidable (RootC s t) := inferInstanceAs (Decidable (_ ∧ _))
def rootR (s : List TokV) (t : TokV) : List TokV := if RootC s t then intoT s t else s
def stepR (s : List TokV) (t : TokV) : List TokV := if (makeT (rootR s t) t).2 = 0 ∧ ¬ t.1 = rootB then (makeT (rootR s t) t).1 else rootR s t
def roundsR (l : List TokV) : Nat → List TokV
  | 0 => []
  | n + 1 => l.foldl stepR (roundsR l n)
def loadR (l : List TokV) : List TokV × Int := if ¬ ((roundsR l l.length).length : Int) = (l.length : Int) then ([], 4) else (roundsR l l.length, 0)
theorem root_len (s : List TokV) (t : TokV) : (rootR s t).length ≤ s.length + 1 := by
  unfold rootR
  split
  · exact Nat.le_of_eq (into_len s t)
  · exact Nat.le_succ _
theorem step_len (s : List TokV) (t : TokV) : (stepR s t).length ≤ s.length + 2 := by
  have h1 := root_len s t
  have h2 := (make_len (rootR s t) t).2
  unfold stepR
  split <;> omega
structure RoundI (l : List TokV) (n i : Nat) (s : List TokV) : Prop where
  eq : s = (List.take i l).foldl stepR (roundsR l n)
  few : s.length ≤ 202 * n + 2 * i
theorem round_0 (l : List TokV) : RoundI l 0 0 [] := ⟨rfl, Nat.zero_le _⟩
theorem round_end {l : List TokV} {n i : Nat} {s : List TokV} (h : RoundI l n i s) (hi : l.length ≤ i) (hi2 : i ≤ l.length) (hl : l.length ≤ 100) : RoundI l (n + 1) 0 s := by
  refine ⟨?_, by have := h.few; omega⟩
  rw [h.eq, List.take_of_length_le hi]; rfl
theorem round_step {l : List TokV} {n i : Nat} {s s' : List TokV} (h : RoundI l n i s) (hi : i < l.length) (hs : s' = stepR s (List.getD l i tokd)) : RoundI l n (i + 1) s' := by
  have h1 := step_len s (List.getD l i tokd)
  refine ⟨?_, by have := h.few; rw [hs]; omega⟩
  rw [hs, h.eq, Lib.take_succ tokd l i hi, List.foldl_append]; rfl
theorem root_y {s : List TokV} {t : TokV} (h : RootC s t) : rootR s t = intoT s t := if_pos h
theorem root_n {s : List TokV} {t : TokV} (h : ¬ RootC s t) : rootR s t = s := if_neg h
theorem rootc_n {s : List TokV} {t : TokV} (h : (((¬ t.2.1 = [] ∨ ¬ t.1 = rootB) ∨ ¬ checkT t = 0) ∨ ¬ t.2.2 = firstT.2.2) ∨ ¬ findT s rootB < 0) : ¬ RootC s t := by
  rintro ⟨⟨⟨⟨h1, h2⟩, h3⟩, h4⟩, h5⟩
  rcases h with (((h | h) | h) | h) | h
  · exact h h1
  · exact h h2
  · exact h h3
  · exact h h4
  · exact h h5
theorem step_y {s s1 : List TokV} {t : TokV} (h : rootR s t = s1) (h2 : (makeT s1 t).2 = 0 ∧ ¬ t.1 = rootB) : (makeT s1 t).1 = stepR s t := by unfold stepR; rw [h, if_pos h2]
theorem step_n {s s1 : List TokV} {t : TokV} (h : rootR s t = s1) (h2 : ¬ (makeT s1 t).2 = 0 ∨ t.1 = rootB) : s1 = stepR s t := by
  unfold stepR; rw [h, if_neg (fun q => h2.elim (fun z => z q.1) (fun z => q.2 z))]
theorem rounds_at {l : List TokV} {n : Nat} {s : List TokV} (h : RoundI l n 0 s) (hn : n = l.length) : roundsR l l.length = s := by
  rw [h.eq, hn, List.take_zero]; rfl
end AL.Token
namespace AL.Token
open Go Go.Proofs AL
open AL.Policy (RuleV rowP slP checkP coversS capsP)
set_option linter.unusedVariables false
set_option linter.unusedSimpArgs false
theorem f69_body : Tryz.f69.body = some (.seq (.region 0 (rg Tryz.f69 0) false) (.seq (.seq (.region 1 (rg Tryz.f69 1) false) (.cond (.tmp 4) (.seq (.region 2 (rg Tryz.f69 2) false) (.ret)) (.skip))) (.seq (.region 3 (rg Tryz.f69 3) false) (.ret)))) := by kernel_rfl
set_option maxRecDepth 100000 in
set_option maxHeartbeats 8000000 in
theorem CloneT_c (l : List TokV) (hb : l.length ≤ 100000) : ∀ d, Spec Tryz.prog 69 [tc (slT l)] H0 (vo d) (ofH [(d, AObj.grow 41 3 TokV tokd rowT l)]) := by
 refine Own.of_body Tryz.func69 f69_body (by kernel_rfl) Tryz.ntmps69 (by kernel_rfl) rfl ?_
 refine AMx.isnil 0 rfl (fun hnil0 => ?_) ?_
 ·
  refine gS [] [] 8 [(0, vc (SC.nilsl))] [] trivial ?_
  refine gQ ?_
  refine gS [] [] 8 [(0, vc (SC.nilsl)), (4, vc (bo true))] [] trivial ?_
  refine gBt ?_
  refine gS [] [] 8 [(2, vc (SC.nilsl))] [] trivial ?_
  refine AMx.ent (s' := AS.lst 8 [(2, vo 2)] [(2, AObj.grow 41 3 TokV tokd rowT [])]) (ent_adopt (t := 2) (d := 2) 41 3 TokV tokd rowT (by kernel_rfl) (by kernel_rfl) (by kernel_rfl) (by kernel_rfl)) ?_
  refine AMx.ret ?_
  exact ⟨.inl rfl, 2, AObj.grow 41 3 TokV tokd rowT [], by kernel_rfl, by kernel_rfl, by first | rfl | (rw [hnil0])⟩
 ·
  refine gS [] [] 8 [(0, vc (SC.nn (slT l)))] [] trivial ?_
  refine gQ ?_
  refine gS [] [] 8 [(0, vc (SC.nn (slT l))), (4, vc (bo false))] [] trivial ?_
  refine gBf ?_
  refine AMx.skip ?_
  refine gQ ?_
  refine AMx.ent (ent_weak 0 (v' := vc (slT l)) (by kernel_rfl) (AV.le_t (TV.le_c AC.le_nn))) ?_
  refine gR [(0, CE.obj (AObj.grow 41 3 TokV tokd rowT [])), (2, CE.obj (AObj.grow 41 3 TokV tokd rowT ([] ++ l)))] [flat 3 rowT [] = [], List.length ([] : List TokV) = 0, AppC (flat 3 rowT l) (List.length l) 56 (AObj.grow 41 3 TokV tokd rowT []) (AObj.grow 41 3 TokV tokd rowT ([] ++ l))] 8 [(2, vo 7)] [(7, AObj.grow 41 3 TokV tokd rowT ([] ++ l))] ⟨rfl, rfl, (⟨_, rfl, rfl, rfl, by simp only [List.length_nil]; omega, by simp only [maxLen, List.length_nil]; omega⟩)⟩ ?_
  refine AMx.ret ?_
  exact ⟨.inl rfl, 7, AObj.grow 41 3 TokV tokd rowT ([] ++ l), by kernel_rfl, by kernel_rfl, by first | rfl | (rw [hnil0])⟩
theorem f34_body : Tryz.f34.body = some (.seq (.region 0 (rg Tryz.f34 0) false) (.seq (.region 1 (rg Tryz.f34 1) false) (.seq (.region 2 (rg Tryz.f34 2) false) (.seq (.block 0 (.loop (.seq (.seq (.region 3 (rg Tryz.f34 3) false) (.cond (.tmp 15) (.skip) (.exit 0))) (.block 1 (.seq (.region 4 (rg Tryz.f34 4) false) (.seq (.seq (.region 5 (rg Tryz.f34 5) false) (.block 2 (.loop (.seq (.region 6 (rg Tryz.f34 6) false) (.seq (.cond (.tmp 19) (.skip) (.exit 2)) (.seq (.block 3 (.seq (.region 7 (rg Tryz.f34 7) false) (.seq (.seq (.region 8 (rg Tryz.f34 8) true) (.cond (.tmp 30) (.seq (.region 9 (rg Tryz.f34 9) false) (.exit 3)) (.skip))) (.seq (.region 10 (rg Tryz.f34 10) false) (.seq (.seq (.region 11 (rg Tryz.f34 11) false) (.cond (.tmp 46) (.seq (.region 12 (rg Tryz.f34 12) false) (.exit 3)) (.skip))) (.region 13 (rg Tryz.f34 13) false)))))) (.region 14 (rg Tryz.f34 14) false))))))) (.seq (.seq (.region 15 (rg Tryz.f34 15) false) (.cond (.tmp 57) (.seq (.region 16 (rg Tryz.f34 16) false) (.ret)) (.skip))) (.region 17 (rg Tryz.f34 17) false)))))))) (.seq (.region 18 (rg Tryz.f34 18) false) (.ret)))))) := by kernel_rfl
set_option maxRecDepth 100000 in
set_option maxHeartbeats 8000000 in
theorem Load_c (l : List TokV) (hb : l.length ≤ 1000) : Pure Tryz.prog 34 [tc (slT l)] (AV.tup [TV.agg [.s (slT ((loadT l).1))], tc (i6 ((loadT l).2))]) := by
 refine Pure.of_body Tryz.func34 f34_body (by kernel_rfl) Tryz.ntmps34 (by kernel_rfl) (by kernel_rfl) ?_
 refine gS [] [] 61 [(0, vc (slT l)), (2, vp 2 0)] [(2, AObj.row [.s (SC.nilsl)])] trivial ?_
 refine gS [] [] 61 [(0, vc (slT l)), (2, vp 2 0), (4, vp 4 0)] [(2, AObj.row [.s (SC.nilsl)]), (4, AObj.row [.s (SC.nilsl)])] trivial ?_
 refine gS [(1, CE.call [] [] (vo 12) [(12, AObj.grow 41 3 TokV tokd rowT l)])] [Spec Tryz.prog 69 [tc (slT l)] (ofH []) (vo 12) (ofH [(12, AObj.grow 41 3 TokV tokd rowT l)])] 61 [(2, vp 2 0), (4, vp 4 0), (5, vo 12)] [(2, AObj.row [.s (SC.nilsl)]), (4, AObj.row [.s (SC.nilsl)]), (12, AObj.grow 41 3 TokV tokd rowT l)] (CloneT_c l (by first | omega | (simp only [List.length_drop, List.length_take, List.length_append, List.length_cons, List.length_nil]; omega) | (first | omega | (have z1 := hL.few; have z2 := hL.fuel; first | omega | (have z3 := hP.few; first | omega | (rw [hc3.1]; decide) | ((try simp only [List.length_append, List.length_cons, List.length_nil]); omega))))) 12) ?_
 refine gQ ?_
 refine AMx.block ?_
 refine AMx.ent (s' := AS.lst 61 [(2, vp 2 0), (4, vp 4 0), (5, vc (slT l))] [(2, AObj.row [.s (SC.nilsl)]), (4, AObj.row [.s (SC.nilsl)])]) (ent_freeze (id := 12) (T := 41) (by kernel_rfl)) ?_
 refine AMx.ent (ent_row 4 (l := [.s (SC.nilsl)]) (m := [.s (slT [])]) (by kernel_rfl) ⟨AC.le_nil, trivial⟩) ?_
 refine AMx.ent (s' := AS.lst 61 [(2, vp 2 0), (4, vp 4 0), (5, vc (slT l))] [(2, AObj.row [.s (SC.nilsl)]), (4, AObj.row [.s (slT [])])]) (ent_proj [2, 4, 5] [2, 4]) ?_
 refine AMx.loop (fun mm ss => ∃ (f : Nat) (s : List TokV) (left : List TokV), (LoadI l f s left) ∧ mm = 1 + f ∧ ss = AS.lst 61 [(2, vp 2 0), (4, vp 4 0), (5, vc (slT left))] [(2, AObj.row [.s (SC.nilsl)]), (4, AObj.row [.s (slT s)])]) ⟨l.length + 1, [], l, ?_, rfl, ?_⟩ ?_
 · exact load_0 l
 · rfl
 rintro mm ss ⟨f, s, left, hL, rfl, rfl⟩
 refine gQ ?_
 refine gS [] [] 61 [(2, vp 2 0), (4, vp 4 0), (5, vc (slT left)), (15, vc (bo (decide (0 < (List.length left : Int)))))] [(2, AObj.row [.s (SC.nilsl)]), (4, AObj.row [.s (slT s)])] trivial ?_
 refine gC (0 < (List.length left : Int)) (fun hc1 => ?_) fun hc1 => ?_
 ·
  refine AMx.skip ?_
  refine AMx.block ?_
  refine gS [] [] 61 [(2, vp 2 0), (4, vp 4 0), (5, vc (slT left)), (6, vc (SC.nilsl))] [(2, AObj.row [.s (SC.nilsl)]), (4, AObj.row [.s (slT s)])] trivial ?_
  refine gQ ?_
  refine gS [] [] 61 [(2, vp 2 0), (4, vp 4 0), (5, vc (slT left)), (6, vc (SC.nilsl)), (16, vc (slT left)), (17, vc (i6 (List.length left : Int))), (18, vc (i6 0))] [(2, AObj.row [.s (SC.nilsl)]), (4, AObj.row [.s (slT s)])] trivial ?_
  refine AMx.block ?_
  refine AMx.ent (s' := AS.lst 61 [(2, vp 2 0), (4, vp 4 0), (5, vc (slT left)), (6, vo 6), (16, vc (slT left)), (17, vc (i6 (List.length left : Int))), (18, vc (i6 0))] [(6, AObj.grow 41 3 TokV tokd rowT []), (2, AObj.row [.s (SC.nilsl)]), (4, AObj.row [.s (slT s)])]) (ent_adopt (t := 6) (d := 6) 41 3 TokV tokd rowT (by kernel_rfl) (by kernel_rfl) (by kernel_rfl) (by kernel_rfl)) ?_
  refine AMx.ent (s' := AS.lst 61 [(2, vp 2 0), (4, vp 4 0), (5, vc (slT left)), (6, vo 6), (16, vc (slT left)), (17, vc (i6 (List.length left : Int))), (18, vc (i6 0))] [(2, AObj.row [.s (SC.nilsl)]), (4, AObj.row [.s (slT s)]), (6, AObj.grow 41 3 TokV tokd rowT [])]) (ent_proj [2, 4, 5, 6, 16, 17, 18] [2, 4, 6]) ?_
  refine AMx.loop (fun mm ss => ∃ (k : Nat) (s2 : List TokV) (late : List TokV), (PassI s left k s2 late ∧ k ≤ left.length) ∧ mm = left.length - k ∧ ss = AS.lst 61 [(2, vp 2 0), (4, vp 4 0), (5, vc (slT left)), (6, vo 6), (16, vc (slT left)), (17, vc (i6 (List.length left : Int))), (18, vc (i6 (k : Int)))] [(2, AObj.row [.s (SC.nilsl)]), (4, AObj.row [.s (slT s2)]), (6, AObj.grow 41 3 TokV tokd rowT late)]) ⟨0, s, [], ?_, rfl, ?_⟩ ?_
  · exact ⟨pass_0 hL.rise, Nat.zero_le _⟩
  · rfl
  rintro mm ss ⟨k, s2, late, ⟨hP, hI⟩, rfl, rfl⟩
  refine gS [] [] 61 [(2, vp 2 0), (4, vp 4 0), (5, vc (slT left)), (6, vo 6), (16, vc (slT left)), (17, vc (i6 (List.length left : Int))), (18, vc (i6 (k : Int))), (19, vc (bo (decide ((k : Int) < (List.length left : Int)))))] [(2, AObj.row [.s (SC.nilsl)]), (4, AObj.row [.s (slT s2)]), (6, AObj.grow 41 3 TokV tokd rowT late)] trivial ?_
  refine gQ ?_
  refine gC ((k : Int) < (List.length left : Int)) (fun hc2 => ?_) fun hc2 => ?_
  ·
   refine AMx.skip ?_
   refine gQ ?_
   refine AMx.block ?_
   refine gS [] [(0 : Int) ≤ (k : Int), (k : Int) < List.length left] 61 [(2, vp 2 0), (4, vp 4 0), (5, vc (slT left)), (6, vo 6), (8, vp 8 0), (16, vc (slT left)), (17, vc (i6 (List.length left : Int))), (18, vc (i6 (k : Int)))] [(2, AObj.row [.s (SC.nilsl)]), (4, AObj.row [.s (slT s2)]), (6, AObj.grow 41 3 TokV tokd rowT late), (8, AObj.row [.s (st ((List.getD left k tokd).1)), .s (st ((List.getD left k tokd).2.1)), .s (AL.Policy.slP ((List.getD left k tokd).2.2))])] ⟨(by first | omega | (have z1 := hL.few; have z2 := hL.fuel; first | omega | (have z3 := hP.few; first | omega | (rw [hc3.1]; decide) | ((try simp only [List.length_append, List.length_cons, List.length_nil]); omega)))), (show (k : Int) < List.length left from (by first | omega | (have z1 := hL.few; have z2 := hL.fuel; first | omega | (have z3 := hP.few; first | omega | (rw [hc3.1]; decide) | ((try simp only [List.length_append, List.length_cons, List.length_nil]); omega)))))⟩ ?_
   refine gQ ?_
   refine gY [(1, CE.call [] [] (AV.t (TV.agg [.s (st firstT.1), .s (st firstT.2.1), .s (AL.Policy.slP firstT.2.2)])) []), (2, CE.call [] [] (vc (bo (decide ((List.getD left k tokd) = firstT)))) [])] [(0, [8]), (5, [4])] [Spec Tryz.prog 39 [] (ofH []) (AV.t (TV.agg [.s (st firstT.1), .s (st firstT.2.1), .s (AL.Policy.slP firstT.2.2)])) (ofH []), Spec Tryz.prog 52 [TV.agg [.s (st ((List.getD left k tokd).1)), .s (st ((List.getD left k tokd).2.1)), .s (AL.Policy.slP ((List.getD left k tokd).2.2))], TV.agg [.s (st firstT.1), .s (st firstT.2.1), .s (AL.Policy.slP firstT.2.2)]] (ofH []) (vc (bo (decide ((List.getD left k tokd) = firstT)))) (ofH []), ((decide ((List.getD left k tokd) = firstT)) = true) → allP [(decide ((List.getD left k tokd) = firstT)) = true], ((decide ((List.getD left k tokd) = firstT)) = true) → allP [(decide ((List.getD left k tokd) = firstT)) = true], ((decide ((List.getD left k tokd) = firstT)) = true) → allP [(decide ((List.getD left k tokd) = firstT)) = true], (decide ((List.getD left k tokd) = firstT)) = true → allP [(decide ((List.getD left k tokd) = firstT)) = true]] 61 [(2, vp 2 0), (4, vp 4 0), (5, vc (slT left)), (6, vo 6), (8, vp 8 0), (16, vc (slT left)), (17, vc (i6 (List.length left : Int))), (18, vc (i6 (k : Int))), (30, vc (bo ((decide ((List.getD left k tokd) = firstT)) && (decide ((List.length s2 : Int) = 0)))))] [(2, AObj.row [.s (SC.nilsl)]), (4, AObj.row [.s (slT s2)]), (6, AObj.grow 41 3 TokV tokd rowT late), (8, AObj.row [.s (st ((List.getD left k tokd).1)), .s (st ((List.getD left k tokd).2.1)), .s (AL.Policy.slP ((List.getD left k tokd).2.2))])] mixed ⟨(first_c), (same_c (List.getD left k tokd) firstT), (fun hp => hp), (fun hp => hp), (fun hp => hp), (fun hp2 => (by first | exact hp2 | exact ⟨hp, hp2⟩))⟩ ?_
   refine gB (((decide ((List.getD left k tokd) = firstT)) && (decide ((List.length s2 : Int) = 0)))) (fun hc3 => ?_) fun hc3 => ?_
   ·
    try simp only [xT, xF, xA, xB] at hc3
    refine gS [(2, CE.call [] [] (AV.t (TV.agg [.s (slT (intoT s2 (List.getD left k tokd)))])) [])] [Spec Tryz.prog 53 [TV.agg [.s (slT s2)], TV.agg [.s (st ((List.getD left k tokd).1)), .s (st ((List.getD left k tokd).2.1)), .s (AL.Policy.slP ((List.getD left k tokd).2.2))]] (ofH []) (AV.t (TV.agg [.s (slT (intoT s2 (List.getD left k tokd)))])) (ofH [])] 61 [(2, vp 2 0), (4, vp 4 0), (5, vc (slT left)), (6, vo 6), (16, vc (slT left)), (17, vc (i6 (List.length left : Int))), (18, vc (i6 (k : Int)))] [(2, AObj.row [.s (SC.nilsl)]), (4, AObj.row [.s (slT (intoT s2 (List.getD left k tokd)))]), (6, AObj.grow 41 3 TokV tokd rowT late)] (with_c s2 (List.getD left k tokd) (by exact hP.rise) (by first | omega | (have z1 := hL.few; have z2 := hL.fuel; first | omega | (have z3 := hP.few; first | omega | (rw [hc3.1]; decide) | ((try simp only [List.length_append, List.length_cons, List.length_nil]); omega)))) (by first | omega | (have z1 := hL.few; have z2 := hL.fuel; first | omega | (have z3 := hP.few; first | omega | (rw [hc3.1]; decide) | ((try simp only [List.length_append, List.length_cons, List.length_nil]); omega))))) ?_
    refine AMx.exit ?_
    refine AMx.code_exit ?_
    refine AMx.blk_exit ?_
    refine gR [] [InR .i64 ((k : Int) + 1)] 61 [(2, vp 2 0), (4, vp 4 0), (5, vc (slT left)), (6, vo 6), (16, vc (slT left)), (17, vc (i6 (List.length left : Int))), (18, vc (i6 ((k : Int) + 1)))] [(2, AObj.row [.s (SC.nilsl)]), (4, AObj.row [.s (slT (intoT s2 (List.getD left k tokd)))]), (6, AObj.grow 41 3 TokV tokd rowT late)] (show InR .i64 ((k : Int) + 1) from (inR64 (by first | omega | (have z1 := hL.few; have z2 := hL.fuel; first | omega | (have z3 := hP.few; first | omega | (rw [hc3.1]; decide) | ((try simp only [List.length_append, List.length_cons, List.length_nil]); omega)))) (by first | omega | (have z1 := hL.few; have z2 := hL.fuel; first | omega | (have z3 := hP.few; first | omega | (rw [hc3.1]; decide) | ((try simp only [List.length_append, List.length_cons, List.length_nil]); omega)))))) ?_
    refine AMx.ent_inv (s' := AS.lst 61 [(2, vp 2 0), (4, vp 4 0), (5, vc (slT left)), (6, vo 6), (16, vc (slT left)), (17, vc (i6 (List.length left : Int))), (18, vc (i6 ((k : Int) + 1)))] [(2, AObj.row [.s (SC.nilsl)]), (4, AObj.row [.s (slT (intoT s2 (List.getD left k tokd)))]), (6, AObj.grow 41 3 TokV tokd rowT late)]) (ent_proj [2, 4, 5, 6, 16, 17, 18] [2, 4, 6]) ?_
    refine AMx.inv ⟨_, ?_, k + 1, intoT s2 (List.getD left k tokd), late, ?_, rfl, ?_⟩
    rotate_left
    · exact ⟨pass_a hP (by omega) hc3, by omega⟩
    · rfl
    · omega
   ·
    try simp only [xT, xF, xA, xB] at hc3
    refine AMx.skip ?_
    refine gS [(2, CE.call [] [] (AV.tup [TV.agg [.s (slT ((makeT s2 (List.getD left k tokd)).1))], tc (i6 ((makeT s2 (List.getD left k tokd)).2))]) [])] [Spec Tryz.prog 20 [TV.agg [.s (slT s2)], TV.agg [.s (st ((List.getD left k tokd).1)), .s (st ((List.getD left k tokd).2.1)), .s (AL.Policy.slP ((List.getD left k tokd).2.2))]] (ofH []) (AV.tup [TV.agg [.s (slT ((makeT s2 (List.getD left k tokd)).1))], tc (i6 ((makeT s2 (List.getD left k tokd)).2))]) (ofH [])] 61 [(2, vp 2 0), (4, vp 4 0), (5, vc (slT left)), (6, vo 6), (8, vp 8 0), (9, vp 9 0), (10, vc (i6 ((makeT s2 (List.getD left k tokd)).2))), (16, vc (slT left)), (17, vc (i6 (List.length left : Int))), (18, vc (i6 (k : Int)))] [(2, AObj.row [.s (SC.nilsl)]), (4, AObj.row [.s (slT s2)]), (6, AObj.grow 41 3 TokV tokd rowT late), (8, AObj.row [.s (st ((List.getD left k tokd).1)), .s (st ((List.getD left k tokd).2.1)), .s (AL.Policy.slP ((List.getD left k tokd).2.2))]), (9, AObj.row [.s (slT ((makeT s2 (List.getD left k tokd)).1))])] (Make_c s2 (List.getD left k tokd) (by exact hP.rise) (by first | omega | (have z1 := hL.few; have z2 := hL.fuel; first | omega | (have z3 := hP.few; first | omega | (rw [hc3.1]; decide) | ((try simp only [List.length_append, List.length_cons, List.length_nil]); omega))))) ?_
    refine gQ ?_
    refine gS [] [((!decide ((makeT s2 (List.getD left k tokd)).2 = 0)) = false) → allP [(!decide ((makeT s2 (List.getD left k tokd)).2 = 0)) = false], ((!decide ((makeT s2 (List.getD left k tokd)).2 = 0)) = false) → allP [(!decide ((makeT s2 (List.getD left k tokd)).2 = 0)) = false], (!decide ((makeT s2 (List.getD left k tokd)).2 = 0)) = false → allP [(!decide ((makeT s2 (List.getD left k tokd)).2 = 0)) = false]] 61 [(2, vp 2 0), (4, vp 4 0), (5, vc (slT left)), (6, vo 6), (8, vp 8 0), (9, vp 9 0), (16, vc (slT left)), (17, vc (i6 (List.length left : Int))), (18, vc (i6 (k : Int))), (46, vc (bo ((!decide ((makeT s2 (List.getD left k tokd)).2 = 0)) || (decide ((List.getD left k tokd).1 = [114, 111, 111, 116])))))] [(2, AObj.row [.s (SC.nilsl)]), (4, AObj.row [.s (slT s2)]), (6, AObj.grow 41 3 TokV tokd rowT late), (8, AObj.row [.s (st ((List.getD left k tokd).1)), .s (st ((List.getD left k tokd).2.1)), .s (AL.Policy.slP ((List.getD left k tokd).2.2))]), (9, AObj.row [.s (slT ((makeT s2 (List.getD left k tokd)).1))])] ⟨(fun hp => hp), (fun hp => hp), (fun hp2 => (by first | exact hp2 | exact ⟨hp, hp2⟩))⟩ ?_
    refine gB (((!decide ((makeT s2 (List.getD left k tokd)).2 = 0)) || (decide ((List.getD left k tokd).1 = [114, 111, 111, 116])))) (fun hc4 => ?_) fun hc4 => ?_
    ·
     try simp only [xT, xF, xO, xP, xN, xM] at hc4
     refine gS [(2, CE.obj (AObj.grow 41 3 TokV tokd rowT [(List.getD left k tokd)])), (3, CE.obj (AObj.grow 41 3 TokV tokd rowT (late ++ [(List.getD left k tokd)])))] [flat 3 rowT [(List.getD left k tokd)] = [.s (st ((List.getD left k tokd).1)), .s (st ((List.getD left k tokd).2.1)), .s (AL.Policy.slP ((List.getD left k tokd).2.2))], List.length ([(List.getD left k tokd)] : List TokV) = 1, AppC (flat 3 rowT [(List.getD left k tokd)]) (List.length ([(List.getD left k tokd)] : List TokV)) 56 (AObj.grow 41 3 TokV tokd rowT late) (AObj.grow 41 3 TokV tokd rowT (late ++ [(List.getD left k tokd)]))] 61 [(2, vp 2 0), (4, vp 4 0), (5, vc (slT left)), (6, vo 50), (16, vc (slT left)), (17, vc (i6 (List.length left : Int))), (18, vc (i6 (k : Int)))] [(2, AObj.row [.s (SC.nilsl)]), (4, AObj.row [.s (slT s2)]), (50, AObj.grow 41 3 TokV tokd rowT (late ++ [(List.getD left k tokd)]))] ⟨rfl, rfl, (⟨_, rfl, rfl, rfl, by have z1 := hL.few; have z3 := hP.few; simp only [List.length_append, List.length_cons, List.length_nil]; omega, by have z1 := hL.few; have z3 := hP.few; simp only [maxLen, List.length_append, List.length_cons, List.length_nil]; omega⟩)⟩ ?_
     refine AMx.exit ?_
     refine AMx.code_exit ?_
     refine AMx.blk_exit ?_
     refine gR [] [InR .i64 ((k : Int) + 1)] 61 [(2, vp 2 0), (4, vp 4 0), (5, vc (slT left)), (6, vo 50), (16, vc (slT left)), (17, vc (i6 (List.length left : Int))), (18, vc (i6 ((k : Int) + 1)))] [(2, AObj.row [.s (SC.nilsl)]), (4, AObj.row [.s (slT s2)]), (50, AObj.grow 41 3 TokV tokd rowT (late ++ [(List.getD left k tokd)]))] (show InR .i64 ((k : Int) + 1) from (inR64 (by first | omega | (have z1 := hL.few; have z2 := hL.fuel; first | omega | (have z3 := hP.few; first | omega | (rw [hc3.1]; decide) | ((try simp only [List.length_append, List.length_cons, List.length_nil]); omega)))) (by first | omega | (have z1 := hL.few; have z2 := hL.fuel; first | omega | (have z3 := hP.few; first | omega | (rw [hc3.1]; decide) | ((try simp only [List.length_append, List.length_cons, List.length_nil]); omega)))))) ?_
     refine AMx.ent_inv (s' := AS.lst 61 [(2, vp 2 0), (4, vp 4 0), (5, vc (slT left)), (6, vo 6), (16, vc (slT left)), (17, vc (i6 (List.length left : Int))), (18, vc (i6 ((k : Int) + 1)))] [(2, AObj.row [.s (SC.nilsl)]), (4, AObj.row [.s (slT s2)]), (6, AObj.grow 41 3 TokV tokd rowT (late ++ [(List.getD left k tokd)]))]) (ent_swap 50 6 (by kernel_rfl) (by kernel_rfl)) ?_
     refine AMx.ent_inv (s' := AS.lst 61 [(2, vp 2 0), (4, vp 4 0), (5, vc (slT left)), (6, vo 6), (16, vc (slT left)), (17, vc (i6 (List.length left : Int))), (18, vc (i6 ((k : Int) + 1)))] [(2, AObj.row [.s (SC.nilsl)]), (4, AObj.row [.s (slT s2)]), (6, AObj.grow 41 3 TokV tokd rowT (late ++ [(List.getD left k tokd)]))]) (ent_proj [2, 4, 5, 6, 16, 17, 18] [2, 4, 6]) ?_
     refine AMx.inv ⟨_, ?_, k + 1, s2, late ++ [(List.getD left k tokd)], ?_, rfl, ?_⟩
     rotate_left
     · exact ⟨pass_b hP (by omega) hc3 hc4, by omega⟩
     · rfl
     · omega
    ·
     try simp only [xT, xF, xO, xP, xN, xM] at hc4
     refine AMx.skip ?_
     refine gR [] [] 61 [(2, vp 2 0), (4, vp 4 0), (5, vc (slT left)), (6, vo 6), (16, vc (slT left)), (17, vc (i6 (List.length left : Int))), (18, vc (i6 (k : Int)))] [(2, AObj.row [.s (SC.nilsl)]), (4, AObj.row [.s (slT ((makeT s2 (List.getD left k tokd)).1))]), (6, AObj.grow 41 3 TokV tokd rowT late)] trivial ?_
     refine AMx.blk ?_
     refine gR [] [InR .i64 ((k : Int) + 1)] 61 [(2, vp 2 0), (4, vp 4 0), (5, vc (slT left)), (6, vo 6), (16, vc (slT left)), (17, vc (i6 (List.length left : Int))), (18, vc (i6 ((k : Int) + 1)))] [(2, AObj.row [.s (SC.nilsl)]), (4, AObj.row [.s (slT ((makeT s2 (List.getD left k tokd)).1))]), (6, AObj.grow 41 3 TokV tokd rowT late)] (show InR .i64 ((k : Int) + 1) from (inR64 (by first | omega | (have z1 := hL.few; have z2 := hL.fuel; first | omega | (have z3 := hP.few; first | omega | (rw [hc3.1]; decide) | ((try simp only [List.length_append, List.length_cons, List.length_nil]); omega)))) (by first | omega | (have z1 := hL.few; have z2 := hL.fuel; first | omega | (have z3 := hP.few; first | omega | (rw [hc3.1]; decide) | ((try simp only [List.length_append, List.length_cons, List.length_nil]); omega)))))) ?_
     refine AMx.ent_inv (s' := AS.lst 61 [(2, vp 2 0), (4, vp 4 0), (5, vc (slT left)), (6, vo 6), (16, vc (slT left)), (17, vc (i6 (List.length left : Int))), (18, vc (i6 ((k : Int) + 1)))] [(2, AObj.row [.s (SC.nilsl)]), (4, AObj.row [.s (slT ((makeT s2 (List.getD left k tokd)).1))]), (6, AObj.grow 41 3 TokV tokd rowT late)]) (ent_proj [2, 4, 5, 6, 16, 17, 18] [2, 4, 6]) ?_
     refine AMx.inv ⟨_, ?_, k + 1, (makeT s2 (List.getD left k tokd)).1, late, ?_, rfl, ?_⟩
     rotate_left
     · exact ⟨pass_c hP (by omega) hc3 hc4, by omega⟩
     · rfl
     · omega
  ·
   refine AMx.exit ?_
   refine AMx.code_exit ?_
   refine AMx.inv_exit ?_
   refine AMx.blk_exit ?_
   refine gQ ?_
   refine gS [] [] 61 [(2, vp 2 0), (4, vp 4 0), (6, vo 6), (57, vc (bo (decide ((List.length late : Int) = (List.length left : Int)))))] [(2, AObj.row [.s (SC.nilsl)]), (4, AObj.row [.s (slT s2)]), (6, AObj.grow 41 3 TokV tokd rowT late)] trivial ?_
   refine gC ((List.length late : Int) = (List.length left : Int)) (fun hc5 => ?_) fun hc5 => ?_
   ·
    refine gS [] [] 61 [(2, vp 2 0), (3, vc (i6 4))] [(2, AObj.row [.s (SC.nilsl)])] trivial ?_
    refine AMx.ent (ent_row 2 (l := [.s (SC.nilsl)]) (m := [.s (slT [])]) (by kernel_rfl) ⟨AC.le_nil, trivial⟩) ?_
    exact gT (AV.tup [TV.agg [.s (slT [])], tc (i6 4)]) (by rw [show loadT l = ([], 4) from by first | exact load_bad hL (by omega) (pass_end hP (show left.length ≤ k by omega)) (by omega) | exact load_end hL (by omega)])
   ·
    refine AMx.skip ?_
    refine gR [] [] 61 [(2, vp 2 0), (4, vp 4 0), (5, vo 6)] [(2, AObj.row [.s (SC.nilsl)]), (4, AObj.row [.s (slT s2)]), (6, AObj.grow 41 3 TokV tokd rowT late)] trivial ?_
    refine AMx.blk ?_
    refine AMx.ent_inv (s' := AS.lst 61 [(2, vp 2 0), (4, vp 4 0), (5, vc (slT late))] [(2, AObj.row [.s (SC.nilsl)]), (4, AObj.row [.s (slT s2)])]) (ent_freeze (id := 6) (T := 41) (by kernel_rfl)) ?_
    refine AMx.ent_inv (s' := AS.lst 61 [(2, vp 2 0), (4, vp 4 0), (5, vc (slT late))] [(2, AObj.row [.s (SC.nilsl)]), (4, AObj.row [.s (slT s2)])]) (ent_proj [2, 4, 5] [2, 4]) ?_
    refine AMx.inv ⟨_, ?_, f - 1, s2, late, ?_, rfl, ?_⟩
    rotate_left
    · exact (load_next hL (by omega) (pass_end hP (show left.length ≤ k by omega)) (by omega) hP.rise (by have z := hP.few; omega)).1
    · rfl
    · have z := (load_next hL (by omega) (pass_end hP (show left.length ≤ k by omega)) (by omega) hP.rise (by have z := hP.few; omega)).2; omega
 ·
  refine AMx.exit ?_
  refine AMx.code_exit ?_
  refine AMx.inv_exit ?_
  refine AMx.blk_exit ?_
  refine gS [] [] 61 [(2, vp 2 0), (3, vc (i6 0))] [(2, AObj.row [.s (slT s)])] trivial ?_
  exact gT (AV.tup [TV.agg [.s (slT s)], tc (i6 0)]) (by rw [show loadT l = (s, 0) from by first | exact load_bad hL (by omega) (pass_end hP (show left.length ≤ k by omega)) (by omega) | exact load_end hL (by omega)])
theorem f35_body : Tryz.f35.body = some (.seq (.region 0 (rg Tryz.f35 0) false) (.seq (.region 1 (rg Tryz.f35 1) false) (.seq (.seq (.region 2 (rg Tryz.f35 2) false) (.block 0 (.loop (.seq (.seq (.region 3 (rg Tryz.f35 3) false) (.cond (.tmp 13) (.skip) (.exit 0))) (.seq (.block 1 (.seq (.region 5 (rg Tryz.f35 5) false) (.block 2 (.loop (.seq (.seq (.region 6 (rg Tryz.f35 6) false) (.cond (.tmp 19) (.skip) (.exit 2))) (.seq (.block 3 (.seq (.region 8 (rg Tryz.f35 8) false) (.seq (.seq (.region 9 (rg Tryz.f35 9) true) (.cond (.tmp 52) (.region 10 (rg Tryz.f35 10) false) (.skip))) (.seq (.region 11 (rg Tryz.f35 11) false) (.seq (.region 12 (rg Tryz.f35 12) false) (.cond (.tmp 68) (.region 13 (rg Tryz.f35 13) false) (.skip))))))) (.region 7 (rg Tryz.f35 7) false))))))) (.region 4 (rg Tryz.f35 4) false)))))) (.seq (.seq (.region 14 (rg Tryz.f35 14) false) (.cond (.tmp 74) (.seq (.region 15 (rg Tryz.f35 15) false) (.ret)) (.skip))) (.seq (.region 16 (rg Tryz.f35 16) false) (.ret)))))) := by kernel_rfl
set_option maxRecDepth 100000 in
set_option maxHeartbeats 8000000 in
theorem RLoad_c (l : List TokV) (hb : l.length ≤ 100) : Pure Tryz.prog 35 [tc (slT l)] (AV.tup [tc (slT ((loadR l).1)), tc (i6 ((loadR l).2))]) := by
 refine Pure.of_body Tryz.func35 f35_body (by kernel_rfl) Tryz.ntmps35 (by kernel_rfl) (by kernel_rfl) ?_
 refine gS [] [] 76 [(0, vc (slT l))] [] trivial ?_
 refine gS [] [] 76 [(0, vc (slT l)), (4, vc (SC.nilsl))] [] trivial ?_
 refine gQ ?_
 refine gS [] [] 76 [(0, vc (slT l)), (4, vc (SC.nilsl)), (5, vc (i6 0))] [] trivial ?_
 refine AMx.block ?_
 refine AMx.ent (ent_weak 4 (v' := vc (slT [])) (by kernel_rfl) (AV.le_t (TV.le_c AC.le_nil))) ?_
 refine AMx.ent (s' := AS.lst 76 [(0, vc (slT l)), (4, vc (slT [])), (5, vc (i6 0))] []) (ent_proj [0, 4, 5] []) ?_
 refine AMx.loop (fun mm ss => ∃ (n : Nat) (s : List TokV), (RoundI l n 0 s ∧ n ≤ l.length) ∧ mm = l.length - n ∧ ss = AS.lst 76 [(0, vc (slT l)), (4, vc (slT s)), (5, vc (i6 (n : Int)))] []) ⟨0, [], ?_, rfl, ?_⟩ ?_
 · exact ⟨round_0 l, Nat.zero_le _⟩
 · rfl
 rintro mm ss ⟨n, s, ⟨hR, hI⟩, rfl, rfl⟩
 refine gQ ?_
 refine gS [] [] 76 [(0, vc (slT l)), (4, vc (slT s)), (5, vc (i6 (n : Int))), (13, vc (bo (decide ((n : Int) < (List.length l : Int)))))] [] trivial ?_
 refine gC ((n : Int) < (List.length l : Int)) (fun hc1 => ?_) fun hc1 => ?_
 ·
  refine AMx.skip ?_
  refine gQ ?_
  refine AMx.block ?_
  refine gS [] [] 76 [(0, vc (slT l)), (4, vc (slT s)), (5, vc (i6 (n : Int))), (6, vc (i6 0))] [] trivial ?_
  refine AMx.block ?_
  refine AMx.ent (s' := AS.lst 76 [(0, vc (slT l)), (4, vc (slT s)), (5, vc (i6 (n : Int))), (6, vc (i6 0))] []) (ent_proj [0, 4, 5, 6] []) ?_
  refine AMx.loop (fun mm ss => ∃ (i : Nat) (s : List TokV), (RoundI l n i s ∧ i ≤ l.length) ∧ mm = l.length - i ∧ ss = AS.lst 76 [(0, vc (slT l)), (4, vc (slT s)), (5, vc (i6 (n : Int))), (6, vc (i6 (i : Int)))] []) ⟨0, s, ?_, rfl, ?_⟩ ?_
  · exact ⟨hR, Nat.zero_le _⟩
  · rfl
  rintro mm ss ⟨i, s, ⟨hR, hJ⟩, rfl, rfl⟩
  refine gQ ?_
  refine gS [] [] 76 [(0, vc (slT l)), (4, vc (slT s)), (5, vc (i6 (n : Int))), (6, vc (i6 (i : Int))), (19, vc (bo (decide ((i : Int) < (List.length l : Int)))))] [] trivial ?_
  refine gC ((i : Int) < (List.length l : Int)) (fun hc2 => ?_) fun hc2 => ?_
  ·
   refine AMx.skip ?_
   refine gQ ?_
   refine AMx.block ?_
   refine gS [] [(0 : Int) ≤ (i : Int), (i : Int) < List.length l] 76 [(0, vc (slT l)), (4, vc (slT s)), (5, vc (i6 (n : Int))), (6, vc (i6 (i : Int))), (7, vp 7 0)] [(7, AObj.row [.s (st ((List.getD l i tokd).1)), .s (st ((List.getD l i tokd).2.1)), .s (AL.Policy.slP ((List.getD l i tokd).2.2))])] ⟨(by first | omega | decide | (have z1 := hR.few; have z2 := into_len s (List.getD l i tokd); omega)), (show (i : Int) < List.length l from (by first | omega | decide | (have z1 := hR.few; have z2 := into_len s (List.getD l i tokd); omega)))⟩ ?_
   refine gQ ?_
   refine gY [(10, CE.call [] [] (vc (i6 (checkT (List.getD l i tokd)))) []), (16, CE.call [] [] (vc (slT [firstT])) []), (20, CE.call [] [] (vc (bo (decide ((List.getD l i tokd).2.2 = (List.getD [firstT] 0 tokd).2.2)))) []), (24, CE.call [] [] (vc (i6 (findT s [114, 111, 111, 116]))) [])] [(1, [7]), (5, [7]), (9, [7]), (15, [7])] [((decide ((List.getD l i tokd).2.1 = [])) = true) → allP [(decide ((List.getD l i tokd).2.1 = [])) = true], ((decide ((List.getD l i tokd).2.1 = [])) = true) → allP [(decide ((List.getD l i tokd).2.1 = [])) = true], (decide ((List.getD l i tokd).2.1 = [])) = true → allP [(decide ((List.getD l i tokd).2.1 = [])) = true], (((decide ((List.getD l i tokd).2.1 = [])) && (decide ((List.getD l i tokd).1 = [114, 111, 111, 116]))) = true) → allP [((decide ((List.getD l i tokd).2.1 = [])) && (decide ((List.getD l i tokd).1 = [114, 111, 111, 116]))) = true, Spec Tryz.prog 15 [TV.agg [.s (st ((List.getD l i tokd).1)), .s (st ((List.getD l i tokd).2.1)), .s (AL.Policy.slP ((List.getD l i tokd).2.2))]] (ofH []) (vc (i6 (checkT (List.getD l i tokd)))) (ofH [])], (((decide ((List.getD l i tokd).2.1 = [])) && (decide ((List.getD l i tokd).1 = [114, 111, 111, 116]))) = true) → allP [((decide ((List.getD l i tokd).2.1 = [])) && (decide ((List.getD l i tokd).1 = [114, 111, 111, 116]))) = true], ((decide ((List.getD l i tokd).2.1 = [])) && (decide ((List.getD l i tokd).1 = [114, 111, 111, 116]))) = true → allP [((decide ((List.getD l i tokd).2.1 = [])) && (decide ((List.getD l i tokd).1 = [114, 111, 111, 116]))) = true], ((((decide ((List.getD l i tokd).2.1 = [])) && (decide ((List.getD l i tokd).1 = [114, 111, 111, 116]))) && (decide (checkT (List.getD l i tokd) = 0))) = true) → allP [(((decide ((List.getD l i tokd).2.1 = [])) && (decide ((List.getD l i tokd).1 = [114, 111, 111, 116]))) && (decide (checkT (List.getD l i tokd) = 0))) = true], ((((decide ((List.getD l i tokd).2.1 = [])) && (decide ((List.getD l i tokd).1 = [114, 111, 111, 116]))) && (decide (checkT (List.getD l i tokd) = 0))) = true) → allP [Spec Tryz.prog 12 [] (ofH []) (vc (slT [firstT])) (ofH [])], ((((decide ((List.getD l i tokd).2.1 = [])) && (decide ((List.getD l i tokd).1 = [114, 111, 111, 116]))) && (decide (checkT (List.getD l i tokd) = 0))) = true) → allP [(((decide ((List.getD l i tokd).2.1 = [])) && (decide ((List.getD l i tokd).1 = [114, 111, 111, 116]))) && (decide (checkT (List.getD l i tokd) = 0))) = true, (0 : Int) ≤ 0, (0 : Int) < List.length ([firstT] : List TokV)], ((((decide ((List.getD l i tokd).2.1 = [])) && (decide ((List.getD l i tokd).1 = [114, 111, 111, 116]))) && (decide (checkT (List.getD l i tokd) = 0))) = true) → allP [(((decide ((List.getD l i tokd).2.1 = [])) && (decide ((List.getD l i tokd).1 = [114, 111, 111, 116]))) && (decide (checkT (List.getD l i tokd) = 0))) = true], ((((decide ((List.getD l i tokd).2.1 = [])) && (decide ((List.getD l i tokd).1 = [114, 111, 111, 116]))) && (decide (checkT (List.getD l i tokd) = 0))) = true) → allP [(((decide ((List.getD l i tokd).2.1 = [])) && (decide ((List.getD l i tokd).1 = [114, 111, 111, 116]))) && (decide (checkT (List.getD l i tokd) = 0))) = true], ((((decide ((List.getD l i tokd).2.1 = [])) && (decide ((List.getD l i tokd).1 = [114, 111, 111, 116]))) && (decide (checkT (List.getD l i tokd) = 0))) = true) → allP [(((decide ((List.getD l i tokd).2.1 = [])) && (decide ((List.getD l i tokd).1 = [114, 111, 111, 116]))) && (decide (checkT (List.getD l i tokd) = 0))) = true, (((decide ((List.getD l i tokd).2.1 = [])) && (decide ((List.getD l i tokd).1 = [114, 111, 111, 116]))) && (decide (checkT (List.getD l i tokd) = 0))) = true, Spec Tryz.prog 70 [tc (AL.Policy.slP ((List.getD l i tokd).2.2)), tc (AL.Policy.slP ((List.getD [firstT] 0 tokd).2.2))] (ofH []) (vc (bo (decide ((List.getD l i tokd).2.2 = (List.getD [firstT] 0 tokd).2.2)))) (ofH [])], (((decide ((List.getD l i tokd).2.1 = [])) && (decide ((List.getD l i tokd).1 = [114, 111, 111, 116]))) && (decide (checkT (List.getD l i tokd) = 0))) = true → allP [(((decide ((List.getD l i tokd).2.1 = [])) && (decide ((List.getD l i tokd).1 = [114, 111, 111, 116]))) && (decide (checkT (List.getD l i tokd) = 0))) = true], (((((decide ((List.getD l i tokd).2.1 = [])) && (decide ((List.getD l i tokd).1 = [114, 111, 111, 116]))) && (decide (checkT (List.getD l i tokd) = 0))) && (decide ((List.getD l i tokd).2.2 = (List.getD [firstT] 0 tokd).2.2))) = true) → allP [((((decide ((List.getD l i tokd).2.1 = [])) && (decide ((List.getD l i tokd).1 = [114, 111, 111, 116]))) && (decide (checkT (List.getD l i tokd) = 0))) && (decide ((List.getD l i tokd).2.2 = (List.getD [firstT] 0 tokd).2.2))) = true, Spec Tryz.prog 49 [tc (slT s), tc (st [114, 111, 111, 116])] (ofH []) (vc (i6 (findT s [114, 111, 111, 116]))) (ofH [])], (((((decide ((List.getD l i tokd).2.1 = [])) && (decide ((List.getD l i tokd).1 = [114, 111, 111, 116]))) && (decide (checkT (List.getD l i tokd) = 0))) && (decide ((List.getD l i tokd).2.2 = (List.getD [firstT] 0 tokd).2.2))) = true) → allP [((((decide ((List.getD l i tokd).2.1 = [])) && (decide ((List.getD l i tokd).1 = [114, 111, 111, 116]))) && (decide (checkT (List.getD l i tokd) = 0))) && (decide ((List.getD l i tokd).2.2 = (List.getD [firstT] 0 tokd).2.2))) = true], ((((decide ((List.getD l i tokd).2.1 = [])) && (decide ((List.getD l i tokd).1 = [114, 111, 111, 116]))) && (decide (checkT (List.getD l i tokd) = 0))) && (decide ((List.getD l i tokd).2.2 = (List.getD [firstT] 0 tokd).2.2))) = true → allP [((((decide ((List.getD l i tokd).2.1 = [])) && (decide ((List.getD l i tokd).1 = [114, 111, 111, 116]))) && (decide (checkT (List.getD l i tokd) = 0))) && (decide ((List.getD l i tokd).2.2 = (List.getD [firstT] 0 tokd).2.2))) = true]] 76 [(0, vc (slT l)), (4, vc (slT s)), (5, vc (i6 (n : Int))), (6, vc (i6 (i : Int))), (7, vp 7 0), (52, vc (bo (((((decide ((List.getD l i tokd).2.1 = [])) && (decide ((List.getD l i tokd).1 = [114, 111, 111, 116]))) && (decide (checkT (List.getD l i tokd) = 0))) && (decide ((List.getD l i tokd).2.2 = (List.getD [firstT] 0 tokd).2.2))) && (decide (findT s [114, 111, 111, 116] < 0)))))] [(7, AObj.row [.s (st ((List.getD l i tokd).1)), .s (st ((List.getD l i tokd).2.1)), .s (AL.Policy.slP ((List.getD l i tokd).2.2))])] mixed ⟨(fun hp => hp), (fun hp => hp), (fun hp2 => (by first | exact hp2 | exact ⟨hp, hp2⟩)), (fun hp => by have hq := hp; (try simp only [xT, xF, xA, xO, xB, xP, xN, xM, Bool.not_eq_true, Bool.not_eq_false] at hq); exact ⟨hp, (RCheck_c (List.getD l i tokd))⟩), (fun hp => hp), (fun hp2 => (by first | exact hp2 | exact ⟨hp, hp2⟩)), (fun hp => hp), (fun hp => by have hq := hp; (try simp only [xT, xF, xA, xO, xB, xP, xN, xM, Bool.not_eq_true, Bool.not_eq_false] at hq); exact (RNew_c)), (fun hp => by have hq := hp; (try simp only [xT, xF, xA, xO, xB, xP, xN, xM, Bool.not_eq_true, Bool.not_eq_false] at hq); exact ⟨hp, (by first | omega | decide | (have z1 := hR.few; have z2 := into_len s (List.getD l i tokd); omega)), (show (0 : Int) < List.length ([firstT] : List TokV) from (by first | omega | decide | (have z1 := hR.few; have z2 := into_len s (List.getD l i tokd); omega)))⟩), (fun hp => hp), (fun hp => hp), (fun hp => by have hq := hp; (try simp only [xT, xF, xA, xO, xB, xP, xN, xM, Bool.not_eq_true, Bool.not_eq_false] at hq); exact ⟨hp, hp, (Policy.RSame_c ((List.getD l i tokd).2.2) ((List.getD [firstT] 0 tokd).2.2))⟩), (fun hp2 => (by first | exact hp2 | exact ⟨hp, hp2⟩)), (fun hp => by have hq := hp; (try simp only [xT, xF, xA, xO, xB, xP, xN, xM, Bool.not_eq_true, Bool.not_eq_false] at hq); exact ⟨hp, (RFind_c s [114, 111, 111, 116])⟩), (fun hp => hp), (fun hp2 => (by first | exact hp2 | exact ⟨hp, hp2⟩))⟩ ?_
   refine gB ((((((decide ((List.getD l i tokd).2.1 = [])) && (decide ((List.getD l i tokd).1 = [114, 111, 111, 116]))) && (decide (checkT (List.getD l i tokd) = 0))) && (decide ((List.getD l i tokd).2.2 = (List.getD [firstT] 0 tokd).2.2))) && (decide (findT s [114, 111, 111, 116] < 0)))) (fun hc3 => ?_) fun hc3 => ?_
   ·
    try simp only [xT, xF, xA, xB] at hc3
    refine gR [(2, CE.call [] [] (vc (slT (intoT s (List.getD l i tokd)))) [])] [Spec Tryz.prog 55 [tc (slT s), TV.agg [.s (st ((List.getD l i tokd).1)), .s (st ((List.getD l i tokd).2.1)), .s (AL.Policy.slP ((List.getD l i tokd).2.2))]] (ofH []) (vc (slT (intoT s (List.getD l i tokd)))) (ofH [])] 76 [(0, vc (slT l)), (4, vc (slT (intoT s (List.getD l i tokd)))), (5, vc (i6 (n : Int))), (6, vc (i6 (i : Int))), (7, vp 7 0)] [(7, AObj.row [.s (st ((List.getD l i tokd).1)), .s (st ((List.getD l i tokd).2.1)), .s (AL.Policy.slP ((List.getD l i tokd).2.2))])] (Rinto_c s (List.getD l i tokd) (by first | omega | decide | (have z1 := hR.few; have z2 := into_len s (List.getD l i tokd); omega))) ?_
    refine gS [(2, CE.call [] [] (AV.tup [tc (slT ((makeT (intoT s (List.getD l i tokd)) (List.getD l i tokd)).1)), tc (i6 ((makeT (intoT s (List.getD l i tokd)) (List.getD l i tokd)).2))]) [])] [Spec Tryz.prog 21 [tc (slT (intoT s (List.getD l i tokd))), TV.agg [.s (st ((List.getD l i tokd).1)), .s (st ((List.getD l i tokd).2.1)), .s (AL.Policy.slP ((List.getD l i tokd).2.2))]] (ofH []) (AV.tup [tc (slT ((makeT (intoT s (List.getD l i tokd)) (List.getD l i tokd)).1)), tc (i6 ((makeT (intoT s (List.getD l i tokd)) (List.getD l i tokd)).2))]) (ofH [])] 76 [(0, vc (slT l)), (4, vc (slT (intoT s (List.getD l i tokd)))), (5, vc (i6 (n : Int))), (6, vc (i6 (i : Int))), (7, vp 7 0), (8, vc (slT ((makeT (intoT s (List.getD l i tokd)) (List.getD l i tokd)).1))), (9, vc (i6 ((makeT (intoT s (List.getD l i tokd)) (List.getD l i tokd)).2)))] [(7, AObj.row [.s (st ((List.getD l i tokd).1)), .s (st ((List.getD l i tokd).2.1)), .s (AL.Policy.slP ((List.getD l i tokd).2.2))])] (RMake_c (intoT s (List.getD l i tokd)) (List.getD l i tokd) (by first | omega | decide | (have z1 := hR.few; have z2 := into_len s (List.getD l i tokd); omega))) ?_
    refine gS [] [((decide ((makeT (intoT s (List.getD l i tokd)) (List.getD l i tokd)).2 = 0)) = true) → allP [(decide ((makeT (intoT s (List.getD l i tokd)) (List.getD l i tokd)).2 = 0)) = true], ((decide ((makeT (intoT s (List.getD l i tokd)) (List.getD l i tokd)).2 = 0)) = true) → allP [(decide ((makeT (intoT s (List.getD l i tokd)) (List.getD l i tokd)).2 = 0)) = true], (decide ((makeT (intoT s (List.getD l i tokd)) (List.getD l i tokd)).2 = 0)) = true → allP [(decide ((makeT (intoT s (List.getD l i tokd)) (List.getD l i tokd)).2 = 0)) = true]] 76 [(0, vc (slT l)), (4, vc (slT (intoT s (List.getD l i tokd)))), (5, vc (i6 (n : Int))), (6, vc (i6 (i : Int))), (8, vc (slT ((makeT (intoT s (List.getD l i tokd)) (List.getD l i tokd)).1))), (68, vc (bo ((decide ((makeT (intoT s (List.getD l i tokd)) (List.getD l i tokd)).2 = 0)) && (!decide ((List.getD l i tokd).1 = [114, 111, 111, 116])))))] [] ⟨(fun hp => hp), (fun hp => hp), (fun hp2 => (by first | exact hp2 | exact ⟨hp, hp2⟩))⟩ ?_
    refine gB (((decide ((makeT (intoT s (List.getD l i tokd)) (List.getD l i tokd)).2 = 0)) && (!decide ((List.getD l i tokd).1 = [114, 111, 111, 116])))) (fun hc4 => ?_) fun hc4 => ?_
    ·
     try simp only [xT, xF, xA, xB, xN, xM] at hc4
     refine gR [] [] 76 [(0, vc (slT l)), (4, vc (slT ((makeT (intoT s (List.getD l i tokd)) (List.getD l i tokd)).1))), (5, vc (i6 (n : Int))), (6, vc (i6 (i : Int)))] [] trivial ?_
     refine AMx.blk ?_
     refine gR [] [InR .i64 ((i : Int) + 1)] 76 [(0, vc (slT l)), (4, vc (slT ((makeT (intoT s (List.getD l i tokd)) (List.getD l i tokd)).1))), (5, vc (i6 (n : Int))), (6, vc (i6 ((i : Int) + 1)))] [] (show InR .i64 ((i : Int) + 1) from (inR64 (by first | omega | decide | (have z1 := hR.few; have z2 := into_len s (List.getD l i tokd); omega)) (by first | omega | decide | (have z1 := hR.few; have z2 := into_len s (List.getD l i tokd); omega)))) ?_
     refine AMx.ent_inv (s' := AS.lst 76 [(0, vc (slT l)), (4, vc (slT ((makeT (intoT s (List.getD l i tokd)) (List.getD l i tokd)).1))), (5, vc (i6 (n : Int))), (6, vc (i6 ((i : Int) + 1)))] []) (ent_proj [0, 4, 5, 6] []) ?_
     refine AMx.inv ⟨_, ?_, i + 1, (makeT (intoT s (List.getD l i tokd)) (List.getD l i tokd)).1, ?_, rfl, ?_⟩
     rotate_left
     · exact ⟨round_step hR (by omega) (step_y (root_y hc3) hc4), by omega⟩
     · rfl
     · omega
    ·
     try simp only [xT, xF, xA, xB, xN, xM] at hc4
     refine AMx.skip ?_
     refine AMx.blk ?_
     refine gR [] [InR .i64 ((i : Int) + 1)] 76 [(0, vc (slT l)), (4, vc (slT (intoT s (List.getD l i tokd)))), (5, vc (i6 (n : Int))), (6, vc (i6 ((i : Int) + 1)))] [] (show InR .i64 ((i : Int) + 1) from (inR64 (by first | omega | decide | (have z1 := hR.few; have z2 := into_len s (List.getD l i tokd); omega)) (by first | omega | decide | (have z1 := hR.few; have z2 := into_len s (List.getD l i tokd); omega)))) ?_
     refine AMx.ent_inv (s' := AS.lst 76 [(0, vc (slT l)), (4, vc (slT (intoT s (List.getD l i tokd)))), (5, vc (i6 (n : Int))), (6, vc (i6 ((i : Int) + 1)))] []) (ent_proj [0, 4, 5, 6] []) ?_
     refine AMx.inv ⟨_, ?_, i + 1, intoT s (List.getD l i tokd), ?_, rfl, ?_⟩
     rotate_left
     · exact ⟨round_step hR (by omega) (step_n (root_y hc3) hc4), by omega⟩
     · rfl
     · omega
   ·
    try simp only [xT, xF, xA, xB] at hc3
    refine AMx.skip ?_
    refine gS [(2, CE.call [] [] (AV.tup [tc (slT ((makeT s (List.getD l i tokd)).1)), tc (i6 ((makeT s (List.getD l i tokd)).2))]) [])] [Spec Tryz.prog 21 [tc (slT s), TV.agg [.s (st ((List.getD l i tokd).1)), .s (st ((List.getD l i tokd).2.1)), .s (AL.Policy.slP ((List.getD l i tokd).2.2))]] (ofH []) (AV.tup [tc (slT ((makeT s (List.getD l i tokd)).1)), tc (i6 ((makeT s (List.getD l i tokd)).2))]) (ofH [])] 76 [(0, vc (slT l)), (4, vc (slT s)), (5, vc (i6 (n : Int))), (6, vc (i6 (i : Int))), (7, vp 7 0), (8, vc (slT ((makeT s (List.getD l i tokd)).1))), (9, vc (i6 ((makeT s (List.getD l i tokd)).2)))] [(7, AObj.row [.s (st ((List.getD l i tokd).1)), .s (st ((List.getD l i tokd).2.1)), .s (AL.Policy.slP ((List.getD l i tokd).2.2))])] (RMake_c s (List.getD l i tokd) (by first | omega | decide | (have z1 := hR.few; have z2 := into_len s (List.getD l i tokd); omega))) ?_
    refine gS [] [((decide ((makeT s (List.getD l i tokd)).2 = 0)) = true) → allP [(decide ((makeT s (List.getD l i tokd)).2 = 0)) = true], ((decide ((makeT s (List.getD l i tokd)).2 = 0)) = true) → allP [(decide ((makeT s (List.getD l i tokd)).2 = 0)) = true], (decide ((makeT s (List.getD l i tokd)).2 = 0)) = true → allP [(decide ((makeT s (List.getD l i tokd)).2 = 0)) = true]] 76 [(0, vc (slT l)), (4, vc (slT s)), (5, vc (i6 (n : Int))), (6, vc (i6 (i : Int))), (8, vc (slT ((makeT s (List.getD l i tokd)).1))), (68, vc (bo ((decide ((makeT s (List.getD l i tokd)).2 = 0)) && (!decide ((List.getD l i tokd).1 = [114, 111, 111, 116])))))] [] ⟨(fun hp => hp), (fun hp => hp), (fun hp2 => (by first | exact hp2 | exact ⟨hp, hp2⟩))⟩ ?_
    refine gB (((decide ((makeT s (List.getD l i tokd)).2 = 0)) && (!decide ((List.getD l i tokd).1 = [114, 111, 111, 116])))) (fun hc5 => ?_) fun hc5 => ?_
    ·
     try simp only [xT, xF, xA, xB, xN, xM] at hc5
     refine gR [] [] 76 [(0, vc (slT l)), (4, vc (slT ((makeT s (List.getD l i tokd)).1))), (5, vc (i6 (n : Int))), (6, vc (i6 (i : Int)))] [] trivial ?_
     refine AMx.blk ?_
     refine gR [] [InR .i64 ((i : Int) + 1)] 76 [(0, vc (slT l)), (4, vc (slT ((makeT s (List.getD l i tokd)).1))), (5, vc (i6 (n : Int))), (6, vc (i6 ((i : Int) + 1)))] [] (show InR .i64 ((i : Int) + 1) from (inR64 (by first | omega | decide | (have z1 := hR.few; have z2 := into_len s (List.getD l i tokd); omega)) (by first | omega | decide | (have z1 := hR.few; have z2 := into_len s (List.getD l i tokd); omega)))) ?_
     refine AMx.ent_inv (s' := AS.lst 76 [(0, vc (slT l)), (4, vc (slT ((makeT s (List.getD l i tokd)).1))), (5, vc (i6 (n : Int))), (6, vc (i6 ((i : Int) + 1)))] []) (ent_proj [0, 4, 5, 6] []) ?_
     refine AMx.inv ⟨_, ?_, i + 1, (makeT s (List.getD l i tokd)).1, ?_, rfl, ?_⟩
     rotate_left
     · exact ⟨round_step hR (by omega) (step_y (root_n (rootc_n hc3)) hc5), by omega⟩
     · rfl
     · omega
    ·
     try simp only [xT, xF, xA, xB, xN, xM] at hc5
     refine AMx.skip ?_
     refine AMx.blk ?_
     refine gR [] [InR .i64 ((i : Int) + 1)] 76 [(0, vc (slT l)), (4, vc (slT s)), (5, vc (i6 (n : Int))), (6, vc (i6 ((i : Int) + 1)))] [] (show InR .i64 ((i : Int) + 1) from (inR64 (by first | omega | decide | (have z1 := hR.few; have z2 := into_len s (List.getD l i tokd); omega)) (by first | omega | decide | (have z1 := hR.few; have z2 := into_len s (List.getD l i tokd); omega)))) ?_
     refine AMx.ent_inv (s' := AS.lst 76 [(0, vc (slT l)), (4, vc (slT s)), (5, vc (i6 (n : Int))), (6, vc (i6 ((i : Int) + 1)))] []) (ent_proj [0, 4, 5, 6] []) ?_
     refine AMx.inv ⟨_, ?_, i + 1, s, ?_, rfl, ?_⟩
     rotate_left
     · exact ⟨round_step hR (by omega) (step_n (root_n (rootc_n hc3)) hc5), by omega⟩
     · rfl
     · omega
  ·
   refine AMx.exit ?_
   refine AMx.code_exit ?_
   refine AMx.inv_exit ?_
   refine AMx.blk_exit ?_
   refine AMx.blk ?_
   refine gR [] [InR .i64 ((n : Int) + 1)] 76 [(0, vc (slT l)), (4, vc (slT s)), (5, vc (i6 ((n : Int) + 1)))] [] (show InR .i64 ((n : Int) + 1) from (inR64 (by first | omega | decide | (have z1 := hR.few; have z2 := into_len s (List.getD l i tokd); omega)) (by first | omega | decide | (have z1 := hR.few; have z2 := into_len s (List.getD l i tokd); omega)))) ?_
   refine AMx.ent_inv (s' := AS.lst 76 [(0, vc (slT l)), (4, vc (slT s)), (5, vc (i6 ((n : Int) + 1)))] []) (ent_proj [0, 4, 5] []) ?_
   refine AMx.inv ⟨_, ?_, n + 1, s, ?_, rfl, ?_⟩
   rotate_left
   · exact ⟨round_end hR (by omega) (by omega) hb, by omega⟩
   · rfl
   · omega
 ·
  refine AMx.exit ?_
  refine AMx.code_exit ?_
  refine AMx.inv_exit ?_
  refine AMx.blk_exit ?_
  refine gQ ?_
  refine gS [] [] 76 [(4, vc (slT s)), (74, vc (bo (!decide ((List.length s : Int) = (List.length l : Int)))))] [] trivial ?_
  refine gN ((List.length s : Int) = (List.length l : Int)) (fun hc6 => ?_) fun hc6 => ?_
  ·
   refine gS [] [] 76 [(2, vc (SC.nilsl)), (3, vc (i6 4))] [] trivial ?_
   refine AMx.ent (ent_weak 2 (v' := vc (slT [])) (by kernel_rfl) (AV.le_t (TV.le_c AC.le_nil))) ?_
   exact gT (AV.tup [tc (slT []), tc (i6 4)]) (by rw [show loadR l = ([], 4) from by unfold loadR; rw [rounds_at hR (by omega)]; first | rw [if_pos (by assumption)] | rw [if_neg (by omega)]])
  ·
   refine AMx.skip ?_
   refine gS [] [] 76 [(2, vc (slT s)), (3, vc (i6 0))] [] trivial ?_
   exact gT (AV.tup [tc (slT s), tc (i6 0)]) (by rw [show loadR l = (s, 0) from by unfold loadR; rw [rounds_at hR (by omega)]; first | rw [if_pos (by assumption)] | rw [if_neg (by omega)]])
end AL.Token
