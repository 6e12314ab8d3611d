/- fnv: the contracts of its functions, by their walks. No condition. -/
import Derived.Test.YtbfhmgbgehenoaaFnvD
namespace AL.Fnv
open Go Go.Proofs AL
set_option linter.unusedVariables false
set_option linter.unusedSimpArgs false

theorem f82_body : Try.f82.body = some (.seq (.region 0 (rg Try.f82 0) false) (.seq (.region 1 (rg Try.f82 1) false) (.ret))) := by kernel_rfl

set_option maxRecDepth 100000 in
set_option maxHeartbeats 8000000 in
theorem Add_c (sum b : Int) : Pure Try.prog 82 [tc (u6 sum), tc (u8 b)] (vc (u6 (addS sum b))) := by
 refine Pure.of_body Try.func82 f82_body (by kernel_rfl) Try.ntmps82 (by kernel_rfl) (by kernel_rfl) ?_
 refine gS [] [] 10 [(0, vc (u6 sum)), (1, vc (u8 b))] [] trivial ?_
 refine gS [] [] 10 [(4, vc (u6 (IntKind.wrap .u64 ((IntKind.wrap .u64 ((BitVec.ofInt 64 sum ^^^ BitVec.ofInt 64 b).toNat)) * 1099511628211))))] [] trivial ?_
 exact gT (vc (u6 (IntKind.wrap .u64 ((IntKind.wrap .u64 ((BitVec.ofInt 64 sum ^^^ BitVec.ofInt 64 b).toNat)) * 1099511628211)))) rfl

theorem f65_body : Try.f65.body = some (.seq (.region 0 (rg Try.f65 0) false) (.seq (.region 1 (rg Try.f65 1) false) (.seq (.seq (.region 2 (rg Try.f65 2) false) (.block 0 (.loop (.seq (.region 3 (rg Try.f65 3) false) (.seq (.cond (.tmp 8) (.skip) (.exit 0)) (.seq (.block 1 (.seq (.region 4 (rg Try.f65 4) false) (.region 5 (rg Try.f65 5) false))) (.region 6 (rg Try.f65 6) false))))))) (.seq (.region 7 (rg Try.f65 7) false) (.ret))))) := by kernel_rfl

set_option maxRecDepth 100000 in
set_option maxHeartbeats 8000000 in
theorem Sum_c (t : Bytes) : Pure Try.prog 65 [tc (st t)] (vc (u6 (sumS start t))) := by
 refine Pure.of_body Try.func65 f65_body (by kernel_rfl) Try.ntmps65 (by kernel_rfl) (by kernel_rfl) ?_
 refine AMx.str 0 (b := t) rfl (fun ht => ?_)
 simp only [maxLen] at ht
 refine gS [] [] 17 [(0, vc (st t))] [] trivial ?_
 refine gS [] [] 17 [(0, vc (st t)), (3, vc (u6 14695981039346656037))] [] trivial ?_
 refine gQ ?_
 refine gS [] [] 17 [(0, vc (st t)), (3, vc (u6 14695981039346656037)), (6, vc (i6 (List.length t : Int))), (7, vc (i6 0))] [] trivial ?_
 refine AMx.block ?_
 refine AMx.ent (s' := AS.lst 17 [(0, vc (st t)), (3, vc (u6 14695981039346656037)), (6, vc (i6 (List.length t : Int))), (7, vc (i6 0))] []) (ent_proj [0, 3, 6, 7] []) ?_
 refine AMx.loop (fun mm ss => ∃ (k : Nat), (k ≤ t.length) ∧ mm = t.length - k ∧ ss = AS.lst 17 [(0, vc (st t)), (3, vc (u6 (sumS start (List.take k t)))), (6, vc (i6 (List.length t : Int))), (7, vc (i6 (k : Int)))] []) ⟨0, ?_, rfl, ?_⟩ ?_
 · omega
 · rfl
 rintro mm ss ⟨k, hI, rfl, rfl⟩
 refine gS [] [] 17 [(0, vc (st t)), (3, vc (u6 (sumS start (List.take k t)))), (6, vc (i6 (List.length t : Int))), (7, vc (i6 (k : Int))), (8, vc (bo (decide ((k : Int) < (List.length t : Int)))))] [] trivial ?_
 refine gQ ?_
 refine gC ((k : Int) < (List.length t : Int)) (fun hc1 => ?_) fun hc1 => ?_
 ·
  refine AMx.skip ?_
  refine gQ ?_
  refine AMx.block ?_
  refine gS [] [] 17 [(0, vc (st t)), (3, vc (u6 (sumS start (List.take k t)))), (4, vc (i6 (k : Int))), (6, vc (i6 (List.length t : Int))), (7, vc (i6 (k : Int)))] [] trivial ?_
  refine gR [(4, CE.call [] [] (vc (u6 (addS (sumS start (List.take k t)) ((List.getD t k 0).toNat : Int)))) [])] [(0 : Int) ≤ (k : Int), (k : Int) < List.length t, Spec Try.prog 82 [tc (u6 (sumS start (List.take k t))), tc (u8 ((List.getD t k 0).toNat : Int))] (ofH []) (vc (u6 (addS (sumS start (List.take k t)) ((List.getD t k 0).toNat : Int)))) (ofH [])] 17 [(0, vc (st t)), (3, vc (u6 (addS (sumS start (List.take k t)) ((List.getD t k 0).toNat : Int)))), (6, vc (i6 (List.length t : Int))), (7, vc (i6 (k : Int)))] [] ⟨(by omega), (by omega), (Add_c (sumS start (List.take k t)) ((List.getD t k 0).toNat : Int))⟩ ?_
  refine AMx.blk ?_
  refine gR [] [InR .i64 ((k : Int) + 1)] 17 [(0, vc (st t)), (3, vc (u6 (addS (sumS start (List.take k t)) ((List.getD t k 0).toNat : Int)))), (6, vc (i6 (List.length t : Int))), (7, vc (i6 ((k : Int) + 1)))] [] (show InR .i64 ((k : Int) + 1) from (inR64 (by omega) (by omega))) ?_
  refine AMx.ent_inv (s' := AS.lst 17 [(0, vc (st t)), (3, vc (u6 (addS (sumS start (List.take k t)) ((List.getD t k 0).toNat : Int)))), (6, vc (i6 (List.length t : Int))), (7, vc (i6 ((k : Int) + 1)))] []) (ent_proj [0, 3, 6, 7] []) ?_
  refine AMx.inv ⟨_, ?_, k + 1, ?_, rfl, ?_⟩
  rotate_left
  · omega
  · rw [sumS_step start t k (by omega)]; rfl
  · omega
 ·
  refine AMx.exit ?_
  refine AMx.code_exit ?_
  refine AMx.inv_exit ?_
  refine AMx.blk_exit ?_
  refine gS [] [] 17 [(2, vc (u6 (sumS start (List.take k t))))] [] trivial ?_
  exact gT (vc (u6 (sumS start (List.take k t)))) (by rw [List.take_of_length_le (by omega)])

theorem f64_body : Try.f64.body = some (.seq (.region 0 (rg Try.f64 0) false) (.seq (.region 1 (rg Try.f64 1) false) (.ret))) := by kernel_rfl

set_option maxRecDepth 100000 in
set_option maxHeartbeats 8000000 in
theorem may_c (n : Int) : Pure Try.prog 64 [tc (i6 n)] (vc (bo (mayS n))) := by
 refine Pure.of_body Try.func64 f64_body (by kernel_rfl) Try.ntmps64 (by kernel_rfl) (by kernel_rfl) ?_
 refine gS [] [] 9 [(0, vc (i6 n))] [] trivial ?_
 refine gS [] [((decide (1 ≤ n)) = true) → allP [(decide (1 ≤ n)) = true], (decide (1 ≤ n)) = true → allP [(decide (1 ≤ n)) = true]] 9 [(2, vc (bo ((decide (1 ≤ n)) && (decide (n ≤ 8)))))] [] ⟨(fun hp => hp), (fun hp2 => (by first | exact hp2 | exact ⟨hp, hp2⟩))⟩ ?_
 exact gT (vc (bo ((decide (1 ≤ n)) && (decide (n ≤ 8))))) rfl

theorem f49_body : Try.f49.body = some (.seq (.region 0 (rg Try.f49 0) false) (.seq (.seq (.region 1 (rg Try.f49 1) false) (.cond (.tmp 8) (.seq (.region 2 (rg Try.f49 2) false) (.ret)) (.skip))) (.seq (.region 3 (rg Try.f49 3) false) (.seq (.region 4 (rg Try.f49 4) false) (.ret))))) := by kernel_rfl

set_option maxRecDepth 100000 in
set_option maxHeartbeats 8000000 in
theorem Shard_c (t : Bytes) (n : Int) : Pure Try.prog 49 [tc (st t), tc (i6 n)] (vc (i6 (shardS t n))) := by
 refine Pure.of_body Try.func49 f49_body (by kernel_rfl) Try.ntmps49 (by kernel_rfl) (by kernel_rfl) ?_
 refine gS [] [] 20 [(0, vc (st t)), (1, vc (i6 n))] [] trivial ?_
 refine gQ ?_
 refine gS [(1, CE.call [] [] (vc (bo (mayS n))) [])] [Spec Try.prog 64 [tc (i6 n)] (ofH []) (vc (bo (mayS n))) (ofH [])] 20 [(0, vc (st t)), (1, vc (i6 n)), (8, vc (bo (!(mayS n))))] [] (may_c n) ?_
 refine gB (!(mayS n)) (fun hc1 => ?_) fun hc1 => ?_
 ·
  try simp only [xT, xF, xN, xM] at hc1
  refine gS [] [] 20 [(4, vc (i6 0))] [] trivial ?_
  exact gT (vc (i6 0)) (by rw [shard_0 t n (by assumption)])
 ·
  try simp only [xT, xF, xN, xM] at hc1
  refine AMx.skip ?_
  refine gS [(1, CE.call [] [] (vc (u6 (sumS start t))) [])] [Spec Try.prog 65 [tc (st t)] (ofH []) (vc (u6 (sumS start t))) (ofH [])] 20 [(1, vc (i6 n)), (5, vc (u6 (sumS start t)))] [] (Sum_c t) ?_
  refine gS [] [(0 : Int) ≤ 32, (n : Int) ≠ 0] 20 [(4, vc (i6 (Int.tmod (IntKind.wrap .u32 ((BitVec.ofInt 32 (IntKind.wrap .u32 (Int.fdiv (sumS start t) (2 ^ (min (32 : Int).toNat (IntKind.bits .u64))))) ^^^ BitVec.ofInt 32 (IntKind.wrap .u32 (sumS start t))).toNat)) n)))] [] ⟨(by first | omega | (have := may_t (by assumption); omega)), (show (n : Int) ≠ 0 from (by first | omega | (have := may_t (by assumption); omega)))⟩ ?_
  exact gT (vc (i6 (Int.tmod (IntKind.wrap .u32 ((BitVec.ofInt 32 (IntKind.wrap .u32 (Int.fdiv (sumS start t) (2 ^ (min (32 : Int).toNat (IntKind.bits .u64))))) ^^^ BitVec.ofInt 32 (IntKind.wrap .u32 (sumS start t))).toNat)) n))) (by rw [shard_a t n (by assumption)])

theorem f50_body : Try.f50.body = some (.seq (.region 0 (rg Try.f50 0) false) (.seq (.seq (.region 1 (rg Try.f50 1) false) (.cond (.tmp 7) (.seq (.region 2 (rg Try.f50 2) false) (.ret)) (.skip))) (.seq (.region 3 (rg Try.f50 3) false) (.seq (.seq (.region 4 (rg Try.f50 4) false) (.block 0 (.loop (.seq (.region 5 (rg Try.f50 5) false) (.seq (.cond (.tmp 13) (.skip) (.exit 0)) (.seq (.block 1 (.seq (.region 6 (rg Try.f50 6) false) (.region 7 (rg Try.f50 7) false))) (.region 8 (rg Try.f50 8) false))))))) (.seq (.region 9 (rg Try.f50 9) false) (.ret)))))) := by kernel_rfl

set_option maxRecDepth 100000 in
set_option maxHeartbeats 8000000 in
theorem All_c (n : Int) : Pure Try.prog 50 [tc (i6 n)] (vc (SC.sl 1 Int 0 rowI (allS n))) := by
 refine Pure.of_body Try.func50 f50_body (by kernel_rfl) Try.ntmps50 (by kernel_rfl) (by kernel_rfl) ?_
 refine gS [] [] 21 [(0, vc (i6 n))] [] trivial ?_
 refine gQ ?_
 refine gS [(1, CE.call [] [] (vc (bo (mayS n))) [])] [Spec Try.prog 64 [tc (i6 n)] (ofH []) (vc (bo (mayS n))) (ofH [])] 21 [(0, vc (i6 n)), (7, vc (bo (!(mayS n))))] [] (may_c n) ?_
 refine gB (!(mayS n)) (fun hc1 => ?_) fun hc1 => ?_
 ·
  try simp only [xT, xF, xN, xM] at hc1
  refine gS [] [] 21 [(2, vc (SC.nilsl))] [] trivial ?_
  refine AMx.ent (ent_weak 2 (v' := vc (SC.sl 1 Int 0 rowI [])) (by kernel_rfl) (AV.le_t (TV.le_c AC.le_nil))) ?_
  exact gT (vc (SC.sl 1 Int 0 rowI [])) (by rw [all_0 n (by assumption)])
 ·
  try simp only [xT, xF, xN, xM] at hc1
  refine AMx.skip ?_
  refine gS [(1, CE.obj (AObj.grow 3 1 Int 0 rowI (List.replicate (n).toNat 0)))] [0 ≤ n, n ≤ n, (8 : Int) * n ≤ 281474976710656, n ≤ 9223372036854775807, MakeC (n).toNat [.s (i6 0)] (AObj.grow 3 1 Int 0 rowI (List.replicate (n).toNat 0))] 21 [(3, vo 9)] [(9, AObj.grow 3 1 Int 0 rowI (List.replicate (n).toNat 0))] ⟨(by first | omega | (have := may_t (by assumption); omega) | (simp [ints_length]; omega)), (by first | omega | (have := may_t (by assumption); omega) | (simp [ints_length]; omega)), (by first | omega | (have := may_t (by assumption); omega) | (simp [ints_length]; omega)), (by first | omega | (have := may_t (by assumption); omega) | (simp [ints_length]; omega)), (⟨_, rfl, rfl⟩)⟩ ?_
  refine gQ ?_
  refine gS [] [] 21 [(3, vo 9), (11, vc (i6 (List.length (List.replicate (n).toNat 0 : List Int) : Int))), (12, vc (i6 0))] [(9, AObj.grow 3 1 Int 0 rowI (List.replicate (n).toNat 0))] trivial ?_
  refine AMx.block ?_
  refine AMx.ent (s' := AS.lst 21 [(3, vo 9), (11, vc (i6 (List.length (List.replicate (n).toNat 0 : List Int) : Int))), (12, vc (i6 0))] [(9, AObj.grow 3 1 Int 0 rowI (List.replicate (n).toNat 0))]) (ent_proj [3, 11, 12] [9]) ?_
  refine AMx.loop (fun mm ss => ∃ (k : Nat), (k ≤ (n).toNat) ∧ mm = (n).toNat - k ∧ ss = AS.lst 21 [(3, vo 9), (11, vc (i6 ((n).toNat : Int))), (12, vc (i6 (k : Int)))] [(9, AObj.grow 3 1 Int 0 rowI (ints k ++ List.replicate ((n).toNat - k) 0))]) ⟨0, ?_, rfl, ?_⟩ ?_
  · omega
  · simp only [List.length_replicate]; rfl
  rintro mm ss ⟨k, hI, rfl, rfl⟩
  have hn := may_t (by assumption)
  refine gS [] [] 21 [(3, vo 9), (11, vc (i6 ((n).toNat : Int))), (12, vc (i6 (k : Int))), (13, vc (bo (decide ((k : Int) < ((n).toNat : Int)))))] [(9, AObj.grow 3 1 Int 0 rowI (ints k ++ List.replicate ((n).toNat - k) 0))] trivial ?_
  refine gQ ?_
  refine gC ((k : Int) < ((n).toNat : Int)) (fun hc2 => ?_) fun hc2 => ?_
  ·
   refine AMx.skip ?_
   refine gQ ?_
   refine AMx.block ?_
   refine gS [] [] 21 [(3, vo 9), (4, vc (i6 (k : Int))), (11, vc (i6 ((n).toNat : Int))), (12, vc (i6 (k : Int)))] [(9, AObj.grow 3 1 Int 0 rowI (ints k ++ List.replicate ((n).toNat - k) 0))] trivial ?_
   refine gR [(4, CE.obj (AObj.grow 3 1 Int 0 rowI (List.set (ints k ++ List.replicate ((n).toNat - k) 0) k (k : Int))))] [(0 : Int) ≤ (k : Int), (k : Int) < List.length (ints k ++ List.replicate ((n).toNat - k) 0 : List Int), StoreC k 0 [.s (i6 (k : Int))] (AObj.grow 3 1 Int 0 rowI (ints k ++ List.replicate ((n).toNat - k) 0)) (AObj.grow 3 1 Int 0 rowI (List.set (ints k ++ List.replicate ((n).toNat - k) 0) k (k : Int)))] 21 [(3, vo 9), (11, vc (i6 ((n).toNat : Int))), (12, vc (i6 (k : Int)))] [(9, AObj.grow 3 1 Int 0 rowI (List.set (ints k ++ List.replicate ((n).toNat - k) 0) k (k : Int)))] ⟨(by first | omega | (have := may_t (by assumption); omega) | (simp [ints_length]; omega)), (by first | omega | (have := may_t (by assumption); omega) | (simp [ints_length]; omega)), (⟨(k : Int), rfl, by first | omega | (have := may_t (by assumption); omega) | (simp [ints_length]; omega), rfl⟩)⟩ ?_
   refine AMx.blk ?_
   refine gR [] [InR .i64 ((k : Int) + 1)] 21 [(3, vo 9), (11, vc (i6 ((n).toNat : Int))), (12, vc (i6 ((k : Int) + 1)))] [(9, AObj.grow 3 1 Int 0 rowI (List.set (ints k ++ List.replicate ((n).toNat - k) 0) k (k : Int)))] (show InR .i64 ((k : Int) + 1) from (inR64 (by first | omega | (have := may_t (by assumption); omega) | (simp [ints_length]; omega)) (by first | omega | (have := may_t (by assumption); omega) | (simp [ints_length]; omega)))) ?_
   refine AMx.ent_inv (s' := AS.lst 21 [(3, vo 9), (11, vc (i6 ((n).toNat : Int))), (12, vc (i6 ((k : Int) + 1)))] [(9, AObj.grow 3 1 Int 0 rowI (List.set (ints k ++ List.replicate ((n).toNat - k) 0) k (k : Int)))]) (ent_proj [3, 11, 12] [9]) ?_
   refine AMx.inv ⟨_, ?_, k + 1, ?_, rfl, ?_⟩
   rotate_left
   · omega
   · rw [ints_set _ k (by omega)]; rfl
   · omega
  ·
   refine AMx.exit ?_
   refine AMx.code_exit ?_
   refine AMx.inv_exit ?_
   refine AMx.blk_exit ?_
   refine gS [] [] 21 [(2, vo 9)] [(9, AObj.grow 3 1 Int 0 rowI (ints k ++ List.replicate ((n).toNat - k) 0))] trivial ?_
   refine AMx.ent (s' := AS.lst 21 [(2, vc (SC.sl 1 Int 0 rowI (ints k ++ List.replicate ((n).toNat - k) 0)))] []) (ent_freeze (id := 9) (T := 3) (by kernel_rfl)) ?_
   exact gT (vc (SC.sl 1 Int 0 rowI (ints k ++ List.replicate ((n).toNat - k) 0))) (by rw [all_end n k (by assumption) (by omega)])

theorem f48_body : Try.f48.body = some (.seq (.region 0 (rg Try.f48 0) false) (.seq (.seq (.region 1 (rg Try.f48 1) false) (.cond (.tmp 13) (.seq (.region 2 (rg Try.f48 2) false) (.ret)) (.skip))) (.seq (.region 3 (rg Try.f48 3) false) (.seq (.seq (.region 4 (rg Try.f48 4) false) (.block 0 (.loop (.seq (.region 5 (rg Try.f48 5) false) (.seq (.cond (.tmp 17) (.skip) (.exit 0)) (.seq (.block 1 (.seq (.region 6 (rg Try.f48 6) false) (.region 7 (rg Try.f48 7) false))) (.region 8 (rg Try.f48 8) false))))))) (.seq (.region 9 (rg Try.f48 9) false) (.seq (.seq (.region 10 (rg Try.f48 10) false) (.block 2 (.loop (.seq (.region 11 (rg Try.f48 11) false) (.seq (.cond (.tmp 27) (.skip) (.exit 2)) (.seq (.block 3 (.seq (.region 12 (rg Try.f48 12) false) (.seq (.region 13 (rg Try.f48 13) false) (.cond (.tmp 30) (.region 14 (rg Try.f48 14) false) (.skip))))) (.region 15 (rg Try.f48 15) false))))))) (.seq (.region 16 (rg Try.f48 16) false) (.ret)))))))) := by kernel_rfl

set_option maxRecDepth 100000 in
set_option maxHeartbeats 8000000 in
theorem Shards_c (n : Int) (l : List Bytes) : Pure Try.prog 48 [tc (i6 n), tc (SC.sl 1 Bytes [] rowS l)] (vc (SC.sl 1 Int 0 rowI (shardsS n l))) := by
 refine Pure.of_body Try.func48 f48_body (by kernel_rfl) Try.ntmps48 (by kernel_rfl) (by kernel_rfl) ?_
 refine AMx.sl 1 (l := l) rfl (fun hl => ?_)
 simp only [maxLen] at hl
 refine gS [] [] 37 [(0, vc (i6 n)), (1, vc (SC.sl 1 Bytes [] rowS l))] [] trivial ?_
 refine gQ ?_
 refine gS [(1, CE.call [] [] (vc (bo (mayS n))) [])] [Spec Try.prog 64 [tc (i6 n)] (ofH []) (vc (bo (mayS n))) (ofH [])] 37 [(0, vc (i6 n)), (1, vc (SC.sl 1 Bytes [] rowS l)), (13, vc (bo (!(mayS n))))] [] (may_c n) ?_
 refine gB (!(mayS n)) (fun hc1 => ?_) fun hc1 => ?_
 ·
  try simp only [xT, xF, xN, xM] at hc1
  refine gS [] [] 37 [(4, vc (SC.nilsl))] [] trivial ?_
  refine AMx.ent (ent_weak 4 (v' := vc (SC.sl 1 Int 0 rowI [])) (by kernel_rfl) (AV.le_t (TV.le_c AC.le_nil))) ?_
  exact gT (vc (SC.sl 1 Int 0 rowI [])) (by rw [shards_0 n l (by assumption)])
 ·
  try simp only [xT, xF, xN, xM] at hc1
  refine AMx.skip ?_
  refine gS [(0, CE.obj (AObj.arr 1 8 Bool false rowB (List.replicate 8 false)))] [flat 1 rowB (List.replicate 8 false) = [.s (bo false), .s (bo false), .s (bo false), .s (bo false), .s (bo false), .s (bo false), .s (bo false), .s (bo false)], List.length (List.replicate 8 false : List Bool) = 8] 37 [(0, vc (i6 n)), (1, vc (SC.sl 1 Bytes [] rowS l)), (5, vp 5 0)] [(5, AObj.arr 1 8 Bool false rowB (List.replicate 8 false))] ⟨rfl, rfl⟩ ?_
  refine gQ ?_
  refine gS [] [] 37 [(0, vc (i6 n)), (5, vp 5 0), (14, vc (SC.sl 1 Bytes [] rowS l)), (15, vc (i6 (List.length l : Int))), (16, vc (i6 0))] [(5, AObj.arr 1 8 Bool false rowB (List.replicate 8 false))] trivial ?_
  refine AMx.block ?_
  refine AMx.ent (s' := AS.lst 37 [(0, vc (i6 n)), (5, vp 5 0), (14, vc (SC.sl 1 Bytes [] rowS l)), (15, vc (i6 (List.length l : Int))), (16, vc (i6 0))] [(5, AObj.arr 1 8 Bool false rowB (List.replicate 8 false))]) (ent_proj [0, 5, 14, 15, 16] [5]) ?_
  refine AMx.loop (fun mm ss => ∃ (k : Nat), (k ≤ l.length) ∧ mm = l.length - k ∧ ss = AS.lst 37 [(0, vc (i6 n)), (5, vp 5 0), (14, vc (SC.sl 1 Bytes [] rowS l)), (15, vc (i6 (List.length l : Int))), (16, vc (i6 (k : Int)))] [(5, AObj.arr 1 8 Bool false rowB (markS n (List.take k l)))]) ⟨0, ?_, rfl, ?_⟩ ?_
  · omega
  · rfl
  rintro mm ss ⟨k, hI, rfl, rfl⟩
  refine gS [] [] 37 [(0, vc (i6 n)), (5, vp 5 0), (14, vc (SC.sl 1 Bytes [] rowS l)), (15, vc (i6 (List.length l : Int))), (16, vc (i6 (k : Int))), (17, vc (bo (decide ((k : Int) < (List.length l : Int)))))] [(5, AObj.arr 1 8 Bool false rowB (markS n (List.take k l)))] trivial ?_
  refine gQ ?_
  refine gC ((k : Int) < (List.length l : Int)) (fun hc2 => ?_) fun hc2 => ?_
  ·
   refine AMx.skip ?_
   refine gQ ?_
   refine AMx.block ?_
   refine gS [] [(0 : Int) ≤ (k : Int), (k : Int) < List.length l] 37 [(0, vc (i6 n)), (5, vp 5 0), (7, vc (st (List.getD l k []))), (14, vc (SC.sl 1 Bytes [] rowS l)), (15, vc (i6 (List.length l : Int))), (16, vc (i6 (k : Int)))] [(5, AObj.arr 1 8 Bool false rowB (markS n (List.take k l)))] ⟨(by first | omega | (have hn := may_t (by assumption); have h2 := shard_lt (List.getD l k []) n (by omega); first | omega | (simp only [mark_len]; omega)) | (simp only [mark_len]; omega)), (show (k : Int) < List.length l from (by first | omega | (have hn := may_t (by assumption); have h2 := shard_lt (List.getD l k []) n (by omega); first | omega | (simp only [mark_len]; omega)) | (simp only [mark_len]; omega)))⟩ ?_
   refine gR [(2, CE.call [] [] (vc (i6 (shardS (List.getD l k []) n))) []), (4, CE.obj (AObj.arr 1 8 Bool false rowB (List.set (markS n (List.take k l)) (shardS (List.getD l k []) n).toNat true)))] [Spec Try.prog 49 [tc (st (List.getD l k [])), tc (i6 n)] (ofH []) (vc (i6 (shardS (List.getD l k []) n))) (ofH []), (0 : Int) ≤ shardS (List.getD l k []) n, shardS (List.getD l k []) n < 8, StoreC ((shardS (List.getD l k []) n).toNat) 0 [.s (bo true)] (AObj.arr 1 8 Bool false rowB (markS n (List.take k l))) (AObj.arr 1 8 Bool false rowB (List.set (markS n (List.take k l)) (shardS (List.getD l k []) n).toNat true))] 37 [(0, vc (i6 n)), (5, vp 5 0), (14, vc (SC.sl 1 Bytes [] rowS l)), (15, vc (i6 (List.length l : Int))), (16, vc (i6 (k : Int)))] [(5, AObj.arr 1 8 Bool false rowB (List.set (markS n (List.take k l)) (shardS (List.getD l k []) n).toNat true))] ⟨(Shard_c (List.getD l k []) n), (by first | omega | (have hn := may_t (by assumption); have h2 := shard_lt (List.getD l k []) n (by omega); first | omega | (simp only [mark_len]; omega)) | (simp only [mark_len]; omega)), (by first | omega | (have hn := may_t (by assumption); have h2 := shard_lt (List.getD l k []) n (by omega); first | omega | (simp only [mark_len]; omega)) | (simp only [mark_len]; omega)), (⟨true, rfl, by first | omega | (have hn := may_t (by assumption); have h2 := shard_lt (List.getD l k []) n (by omega); first | omega | (simp only [mark_len]; omega)) | (simp only [mark_len]; omega), rfl⟩)⟩ ?_
   refine AMx.blk ?_
   refine gR [] [InR .i64 ((k : Int) + 1)] 37 [(0, vc (i6 n)), (5, vp 5 0), (14, vc (SC.sl 1 Bytes [] rowS l)), (15, vc (i6 (List.length l : Int))), (16, vc (i6 ((k : Int) + 1)))] [(5, AObj.arr 1 8 Bool false rowB (List.set (markS n (List.take k l)) (shardS (List.getD l k []) n).toNat true))] (show InR .i64 ((k : Int) + 1) from (inR64 (by first | omega | (have hn := may_t (by assumption); have h2 := shard_lt (List.getD l k []) n (by omega); first | omega | (simp only [mark_len]; omega)) | (simp only [mark_len]; omega)) (by first | omega | (have hn := may_t (by assumption); have h2 := shard_lt (List.getD l k []) n (by omega); first | omega | (simp only [mark_len]; omega)) | (simp only [mark_len]; omega)))) ?_
   refine AMx.ent_inv (s' := AS.lst 37 [(0, vc (i6 n)), (5, vp 5 0), (14, vc (SC.sl 1 Bytes [] rowS l)), (15, vc (i6 (List.length l : Int))), (16, vc (i6 ((k : Int) + 1)))] [(5, AObj.arr 1 8 Bool false rowB (List.set (markS n (List.take k l)) (shardS (List.getD l k []) n).toNat true))]) (ent_proj [0, 5, 14, 15, 16] [5]) ?_
   refine AMx.inv ⟨_, ?_, k + 1, ?_, rfl, ?_⟩
   rotate_left
   · omega
   · rw [mark_step n l k (by omega)]; rfl
   · omega
  ·
   refine AMx.exit ?_
   refine AMx.code_exit ?_
   refine AMx.inv_exit ?_
   refine AMx.blk_exit ?_
   refine gS [] [] 37 [(5, vp 5 0), (8, vc (SC.nilsl))] [(5, AObj.arr 1 8 Bool false rowB (markS n (List.take k l)))] trivial ?_
   refine gQ ?_
   refine gS [] [] 37 [(8, vc (SC.nilsl)), (25, AV.t (TV.arr 1 8 Bool false rowB (markS n (List.take k l)))), (26, vc (i6 0))] [] trivial ?_
   refine AMx.block ?_
   refine AMx.ent (s' := AS.lst 37 [(8, vo 8), (25, AV.t (TV.arr 1 8 Bool false rowB (markS n (List.take k l)))), (26, vc (i6 0))] [(8, AObj.grow 3 1 Int 0 rowI [])]) (ent_adopt (t := 8) (d := 8) 3 1 Int 0 rowI (by kernel_rfl) (by kernel_rfl) (by kernel_rfl) (by kernel_rfl)) ?_
   refine AMx.ent (s' := AS.lst 37 [(8, vo 8), (25, AV.t (TV.arr 1 8 Bool false rowB (markS n (List.take k l)))), (26, vc (i6 0))] [(8, AObj.grow 3 1 Int 0 rowI [])]) (ent_proj [8, 25, 26] [8]) ?_
   refine AMx.loop (fun mm ss => ∃ (i : Nat), (i ≤ 8) ∧ mm = 8 - i ∧ ss = AS.lst 37 [(8, vo 8), (25, AV.t (TV.arr 1 8 Bool false rowB (markS n l))), (26, vc (i6 (i : Int)))] [(8, AObj.grow 3 1 Int 0 rowI (outS (markS n l) i))]) ⟨0, ?_, rfl, ?_⟩ ?_
   · omega
   · rw [List.take_of_length_le (by omega)]; rfl
   rintro mm ss ⟨i, hI, rfl, rfl⟩
   refine gS [] [] 37 [(8, vo 8), (25, AV.t (TV.arr 1 8 Bool false rowB (markS n l))), (26, vc (i6 (i : Int))), (27, vc (bo (decide ((i : Int) < 8))))] [(8, AObj.grow 3 1 Int 0 rowI (outS (markS n l) i))] trivial ?_
   refine gQ ?_
   refine gC ((i : Int) < 8) (fun hc3 => ?_) fun hc3 => ?_
   ·
    refine AMx.skip ?_
    refine gQ ?_
    refine AMx.block ?_
    refine gS [] [(0 : Int) ≤ (i : Int), (i : Int) < 8] 37 [(8, vo 8), (9, vc (i6 (i : Int))), (10, vc (bo (List.getD (markS n l) i false))), (25, AV.t (TV.arr 1 8 Bool false rowB (markS n l))), (26, vc (i6 (i : Int)))] [(8, AObj.grow 3 1 Int 0 rowI (outS (markS n l) i))] ⟨(by first | omega | (have hn := may_t (by assumption); have h2 := shard_lt (List.getD l k []) n (by omega); first | omega | (simp only [mark_len]; omega)) | (simp only [mark_len]; omega)), (show (i : Int) < 8 from (by first | omega | (have hn := may_t (by assumption); have h2 := shard_lt (List.getD l k []) n (by omega); first | omega | (simp only [mark_len]; omega)) | (simp only [mark_len]; omega)))⟩ ?_
    refine gS [] [] 37 [(8, vo 8), (9, vc (i6 (i : Int))), (25, AV.t (TV.arr 1 8 Bool false rowB (markS n l))), (26, vc (i6 (i : Int))), (30, vc (bo (List.getD (markS n l) i false)))] [(8, AObj.grow 3 1 Int 0 rowI (outS (markS n l) i))] trivial ?_
    refine gB ((List.getD (markS n l) i false)) (fun hc4 => ?_) fun hc4 => ?_
    ·
     try simp only [xT, xF] at hc4
     refine gR [(2, CE.obj (AObj.grow 3 1 Int 0 rowI [(i : Int)])), (3, CE.obj (AObj.grow 3 1 Int 0 rowI ((outS (markS n l) i) ++ [(i : Int)])))] [flat 1 rowI [(i : Int)] = [.s (i6 (i : Int))], List.length ([(i : Int)] : List Int) = 1, AppC (flat 1 rowI [(i : Int)]) (List.length ([(i : Int)] : List Int)) 8 (AObj.grow 3 1 Int 0 rowI (outS (markS n l) i)) (AObj.grow 3 1 Int 0 rowI ((outS (markS n l) i) ++ [(i : Int)]))] 37 [(8, vo 34), (25, AV.t (TV.arr 1 8 Bool false rowB (markS n l))), (26, vc (i6 (i : Int)))] [(34, AObj.grow 3 1 Int 0 rowI ((outS (markS n l) i) ++ [(i : Int)]))] ⟨rfl, rfl, (⟨_, rfl, rfl, rfl, by have := out_len (markS n l) i; simp only [List.length_cons, List.length_nil]; omega, by have := out_len (markS n l) i; simp only [maxLen, List.length_cons, List.length_nil]; omega⟩)⟩ ?_
     refine AMx.blk ?_
     refine gR [] [InR .i64 ((i : Int) + 1)] 37 [(8, vo 34), (25, AV.t (TV.arr 1 8 Bool false rowB (markS n l))), (26, vc (i6 ((i : Int) + 1)))] [(34, AObj.grow 3 1 Int 0 rowI ((outS (markS n l) i) ++ [(i : Int)]))] (show InR .i64 ((i : Int) + 1) from (inR64 (by first | omega | (have hn := may_t (by assumption); have h2 := shard_lt (List.getD l k []) n (by omega); first | omega | (simp only [mark_len]; omega)) | (simp only [mark_len]; omega)) (by first | omega | (have hn := may_t (by assumption); have h2 := shard_lt (List.getD l k []) n (by omega); first | omega | (simp only [mark_len]; omega)) | (simp only [mark_len]; omega)))) ?_
     refine AMx.ent_inv (s' := AS.lst 37 [(8, vo 8), (25, AV.t (TV.arr 1 8 Bool false rowB (markS n l))), (26, vc (i6 ((i : Int) + 1)))] [(8, AObj.grow 3 1 Int 0 rowI ((outS (markS n l) i) ++ [(i : Int)]))]) (ent_swap 34 8 (by kernel_rfl) (by kernel_rfl)) ?_
     refine AMx.ent_inv (s' := AS.lst 37 [(8, vo 8), (25, AV.t (TV.arr 1 8 Bool false rowB (markS n l))), (26, vc (i6 ((i : Int) + 1)))] [(8, AObj.grow 3 1 Int 0 rowI ((outS (markS n l) i) ++ [(i : Int)]))]) (ent_proj [8, 25, 26] [8]) ?_
     refine AMx.inv ⟨_, ?_, i + 1, ?_, rfl, ?_⟩
     rotate_left
     · omega
     · first | (rw [out_step_t _ i (by assumption)]; rfl) | (rw [out_step_f _ i (by assumption)]; rfl)
     · omega
    ·
     try simp only [xT, xF] at hc4
     refine AMx.skip ?_
     refine AMx.blk ?_
     refine gR [] [InR .i64 ((i : Int) + 1)] 37 [(8, vo 8), (25, AV.t (TV.arr 1 8 Bool false rowB (markS n l))), (26, vc (i6 ((i : Int) + 1)))] [(8, AObj.grow 3 1 Int 0 rowI (outS (markS n l) i))] (show InR .i64 ((i : Int) + 1) from (inR64 (by first | omega | (have hn := may_t (by assumption); have h2 := shard_lt (List.getD l k []) n (by omega); first | omega | (simp only [mark_len]; omega)) | (simp only [mark_len]; omega)) (by first | omega | (have hn := may_t (by assumption); have h2 := shard_lt (List.getD l k []) n (by omega); first | omega | (simp only [mark_len]; omega)) | (simp only [mark_len]; omega)))) ?_
     refine AMx.ent_inv (s' := AS.lst 37 [(8, vo 8), (25, AV.t (TV.arr 1 8 Bool false rowB (markS n l))), (26, vc (i6 ((i : Int) + 1)))] [(8, AObj.grow 3 1 Int 0 rowI (outS (markS n l) i))]) (ent_proj [8, 25, 26] [8]) ?_
     refine AMx.inv ⟨_, ?_, i + 1, ?_, rfl, ?_⟩
     rotate_left
     · omega
     · first | (rw [out_step_t _ i (by assumption)]; rfl) | (rw [out_step_f _ i (by assumption)]; rfl)
     · omega
   ·
    refine AMx.exit ?_
    refine AMx.code_exit ?_
    refine AMx.inv_exit ?_
    refine AMx.blk_exit ?_
    refine gS [] [] 37 [(4, vo 8)] [(8, AObj.grow 3 1 Int 0 rowI (outS (markS n l) i))] trivial ?_
    refine AMx.ent (s' := AS.lst 37 [(4, vc (SC.sl 1 Int 0 rowI (outS (markS n l) i)))] []) (ent_freeze (id := 8) (T := 3) (by kernel_rfl)) ?_
    exact gT (vc (SC.sl 1 Int 0 rowI (outS (markS n l) i))) (by rw [shards_end n l i (by assumption) (by omega)])

theorem f18_body : Try.f18.body = some (.seq (.region 0 (rg Try.f18 0) false) (.seq (.seq (.region 1 (rg Try.f18 1) false) (.cond (.tmp 10) (.seq (.region 2 (rg Try.f18 2) false) (.ret)) (.skip))) (.seq (.seq (.region 3 (rg Try.f18 3) false) (.block 0 (.loop (.seq (.seq (.region 4 (rg Try.f18 4) false) (.cond (.tmp 14) (.skip) (.exit 0))) (.seq (.block 1 (.seq (.region 6 (rg Try.f18 6) true) (.cond (.tmp 25) (.seq (.region 7 (rg Try.f18 7) false) (.ret)) (.skip)))) (.region 5 (rg Try.f18 5) false)))))) (.seq (.region 8 (rg Try.f18 8) false) (.ret))))) := by kernel_rfl

set_option maxRecDepth 100000 in
set_option maxHeartbeats 8000000 in
theorem SameInts_c (a b : List Int) : Pure Try.prog 18 [tc (SC.sl 1 Int 0 rowI a), tc (SC.sl 1 Int 0 rowI b)] (vc (bo (decide (a = b)))) := by
 refine Pure.of_body Try.func18 f18_body (by kernel_rfl) Try.ntmps18 (by kernel_rfl) (by kernel_rfl) ?_
 refine AMx.sl 0 (l := a) rfl (fun hl => ?_)
 simp only [maxLen] at hl
 refine gS [] [] 26 [(0, vc (SC.sl 1 Int 0 rowI a)), (1, vc (SC.sl 1 Int 0 rowI b))] [] trivial ?_
 refine gQ ?_
 refine gS [] [] 26 [(0, vc (SC.sl 1 Int 0 rowI a)), (1, vc (SC.sl 1 Int 0 rowI b)), (10, vc (bo (!decide ((List.length a : Int) = (List.length b : Int)))))] [] trivial ?_
 refine gN ((List.length a : Int) = (List.length b : Int)) (fun hc1 => ?_) fun hc1 => ?_
 ·
  refine gS [] [] 26 [(4, vc (bo false))] [] trivial ?_
  exact gT (vc (bo false)) (by rw [decide_eq_false (fun h => by subst h; simp_all)])
 ·
  refine AMx.skip ?_
  refine gQ ?_
  refine gS [] [] 26 [(0, vc (SC.sl 1 Int 0 rowI a)), (1, vc (SC.sl 1 Int 0 rowI b)), (5, vc (i6 0))] [] trivial ?_
  refine AMx.block ?_
  refine AMx.ent (s' := AS.lst 26 [(0, vc (SC.sl 1 Int 0 rowI a)), (1, vc (SC.sl 1 Int 0 rowI b)), (5, vc (i6 0))] []) (ent_proj [0, 1, 5] []) ?_
  refine AMx.loop (fun mm ss => ∃ (i : Nat), (i ≤ a.length ∧ List.take i a = List.take i b) ∧ mm = a.length - i ∧ ss = AS.lst 26 [(0, vc (SC.sl 1 Int 0 rowI a)), (1, vc (SC.sl 1 Int 0 rowI b)), (5, vc (i6 (i : Int)))] []) ⟨0, ?_, rfl, ?_⟩ ?_
  · exact ⟨by omega, rfl⟩
  · rfl
  rintro mm ss ⟨i, ⟨hI, hE⟩, rfl, rfl⟩
  refine gQ ?_
  refine gS [] [] 26 [(0, vc (SC.sl 1 Int 0 rowI a)), (1, vc (SC.sl 1 Int 0 rowI b)), (5, vc (i6 (i : Int))), (14, vc (bo (decide ((i : Int) < (List.length a : Int)))))] [] trivial ?_
  refine gC ((i : Int) < (List.length a : Int)) (fun hc2 => ?_) fun hc2 => ?_
  ·
   refine AMx.skip ?_
   refine gQ ?_
   refine AMx.block ?_
   refine gY [] [] [(0 : Int) ≤ (i : Int), (i : Int) < List.length a, (0 : Int) ≤ (i : Int), (i : Int) < List.length b] 26 [(0, vc (SC.sl 1 Int 0 rowI a)), (1, vc (SC.sl 1 Int 0 rowI b)), (5, vc (i6 (i : Int))), (25, vc (bo (!decide ((List.getD a i 0) = (List.getD b i 0)))))] [] mixed ⟨(by omega), (by omega), (by omega), (show (i : Int) < List.length b from (by omega))⟩ ?_
   refine gN ((List.getD a i 0) = (List.getD b i 0)) (fun hc3 => ?_) fun hc3 => ?_
   ·
    refine gS [] [] 26 [(4, vc (bo false))] [] trivial ?_
    exact gT (vc (bo false)) (by rw [decide_eq_false (fun h => by subst h; simp_all)])
   ·
    refine AMx.skip ?_
    refine AMx.blk ?_
    refine gR [] [InR .i64 ((i : Int) + 1)] 26 [(0, vc (SC.sl 1 Int 0 rowI a)), (1, vc (SC.sl 1 Int 0 rowI b)), (5, vc (i6 ((i : Int) + 1)))] [] (show InR .i64 ((i : Int) + 1) from (inR64 (by omega) (by omega))) ?_
    refine AMx.ent_inv (s' := AS.lst 26 [(0, vc (SC.sl 1 Int 0 rowI a)), (1, vc (SC.sl 1 Int 0 rowI b)), (5, vc (i6 ((i : Int) + 1)))] []) (ent_proj [0, 1, 5] []) ?_
    refine AMx.inv ⟨_, ?_, i + 1, ?_, rfl, ?_⟩
    rotate_left
    · exact ⟨by omega, take_same a b i (by omega) (by omega) hE (by assumption)⟩
    · rfl
    · omega
  ·
   refine AMx.exit ?_
   refine AMx.code_exit ?_
   refine AMx.inv_exit ?_
   refine AMx.blk_exit ?_
   refine gS [] [] 26 [(4, vc (bo true))] [] trivial ?_
   exact gT (vc (bo true)) (by rw [decide_eq_true (same_end a b i hE (by omega) (by omega))])

end AL.Fnv
