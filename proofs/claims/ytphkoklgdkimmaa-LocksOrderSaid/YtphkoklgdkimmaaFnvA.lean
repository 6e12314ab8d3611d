/- fnv: the contracts of its functions, by their walks. No condition. -/
import Derived.Test.YtphkoklgdkimmaaFnvD
namespace AL.Fnv
open Go Go.Proofs AL
set_option linter.unusedVariables false
set_option linter.unusedSimpArgs false

theorem f22_body : Try.f22.body = some (.seq (.region 0 (rg Try.f22 0) false) (.seq (.region 1 (rg Try.f22 1) false) (.ret))) := by kernel_rfl

set_option maxRecDepth 100000 in
set_option maxHeartbeats 8000000 in
theorem Add_c (sum b : Int) : Pure Try.prog 22 [tc (u6 sum), tc (u8 b)] (vc (u6 (addS sum b))) := by
  refine Pure.of_body Try.func22 f22_body (by kernel_rfl) Try.ntmps22 (by kernel_rfl) (by kernel_rfl) ?_
  refine AMx.seq ?_
  refine AMx.region (ces := []) (ks := [0, 1]) (hs := []) (cs := []) (s' := AS.lst 10 [(0, vc (u6 sum)), (1, vc (u8 b))] []) (by kernel_rfl) ?_ ?_
  · exact trivial
  refine AMx.seq ?_
  refine AMx.region (ces := []) (ks := [4]) (hs := []) (cs := []) (s' := AS.lst 10 [(4, vc (u6 (IntKind.wrap .u64 ((IntKind.wrap .u64 ((BitVec.ofInt 64 sum ^^^ BitVec.ofInt 64 b).toNat)) * 1099511628211))))] []) (by kernel_rfl) ?_ ?_
  · exact trivial
  refine AMx.ret ?_
  exact RetP.mk (r := vc (u6 (IntKind.wrap .u64 ((IntKind.wrap .u64 ((BitVec.ofInt 64 sum ^^^ BitVec.ofInt 64 b).toNat)) * 1099511628211)))) (by kernel_rfl) rfl

theorem f23_body : Try.f23.body = some (.seq (.region 0 (rg Try.f23 0) false) (.seq (.region 1 (rg Try.f23 1) false) (.ret))) := by kernel_rfl

set_option maxRecDepth 100000 in
set_option maxHeartbeats 8000000 in
theorem RAdd_c (sum b : Int) : Pure Try.prog 23 [tc (u6 sum), tc (u8 b)] (vc (u6 (addS sum b))) := by
  refine Pure.of_body Try.func23 f23_body (by kernel_rfl) Try.ntmps23 (by kernel_rfl) (by kernel_rfl) ?_
  refine AMx.seq ?_
  refine AMx.region (ces := []) (ks := [0, 1]) (hs := []) (cs := []) (s' := AS.lst 10 [(0, vc (u6 sum)), (1, vc (u8 b))] []) (by kernel_rfl) ?_ ?_
  · exact trivial
  refine AMx.seq ?_
  refine AMx.region (ces := []) (ks := [4]) (hs := []) (cs := []) (s' := AS.lst 10 [(4, vc (u6 (IntKind.wrap .u64 ((IntKind.wrap .u64 ((BitVec.ofInt 64 sum ^^^ BitVec.ofInt 64 b).toNat)) * 1099511628211))))] []) (by kernel_rfl) ?_ ?_
  · exact trivial
  refine AMx.ret ?_
  exact RetP.mk (r := vc (u6 (IntKind.wrap .u64 ((IntKind.wrap .u64 ((BitVec.ofInt 64 sum ^^^ BitVec.ofInt 64 b).toNat)) * 1099511628211)))) (by kernel_rfl) rfl

theorem f33_body : Try.f33.body = some (.seq (.region 0 (rg Try.f33 0) false) (.seq (.region 1 (rg Try.f33 1) false) (.ret))) := by kernel_rfl

set_option maxRecDepth 100000 in
set_option maxHeartbeats 8000000 in
theorem Undo_c (sum b : Int) : Pure Try.prog 33 [tc (u6 sum), tc (u8 b)] (vc (u6 (undoS sum b))) := by
  refine Pure.of_body Try.func33 f33_body (by kernel_rfl) Try.ntmps33 (by kernel_rfl) (by kernel_rfl) ?_
  refine AMx.seq ?_
  refine AMx.region (ces := []) (ks := [0, 1]) (hs := []) (cs := []) (s' := AS.lst 10 [(0, vc (u6 sum)), (1, vc (u8 b))] []) (by kernel_rfl) ?_ ?_
  · exact trivial
  refine AMx.seq ?_
  refine AMx.region (ces := []) (ks := [4]) (hs := []) (cs := []) (s' := AS.lst 10 [(4, vc (u6 (IntKind.wrap .u64 ((BitVec.ofInt 64 (IntKind.wrap .u64 (sum * 14886173955864302971)) ^^^ BitVec.ofInt 64 b).toNat))))] []) (by kernel_rfl) ?_ ?_
  · exact trivial
  refine AMx.ret ?_
  exact RetP.mk (r := vc (u6 (IntKind.wrap .u64 ((BitVec.ofInt 64 (IntKind.wrap .u64 (sum * 14886173955864302971)) ^^^ BitVec.ofInt 64 b).toNat)))) (by kernel_rfl) rfl

theorem f24_body : Try.f24.body = some (.seq (.region 0 (rg Try.f24 0) false) (.seq (.region 1 (rg Try.f24 1) false) (.seq (.seq (.region 2 (rg Try.f24 2) false) (.block 0 (.loop (.seq (.region 3 (rg Try.f24 3) false) (.seq (.cond (.tmp 8) (.skip) (.exit 0)) (.seq (.block 1 (.seq (.region 4 (rg Try.f24 4) false) (.region 5 (rg Try.f24 5) false))) (.region 6 (rg Try.f24 6) false))))))) (.seq (.region 7 (rg Try.f24 7) false) (.ret))))) := by kernel_rfl

set_option maxRecDepth 100000 in
set_option maxHeartbeats 8000000 in
theorem Sum_c (t : Bytes) : Pure Try.prog 24 [tc (st t)] (vc (u6 (sumS start t))) := by
  refine Pure.of_body Try.func24 f24_body (by kernel_rfl) Try.ntmps24 (by kernel_rfl) (by kernel_rfl) ?_
  refine AMx.str 0 (b := t) rfl (fun ht => ?_)
  simp only [maxLen] at ht
  refine AMx.seq ?_
  refine AMx.region (ces := []) (ks := [0]) (hs := []) (cs := []) (s' := AS.lst 17 [(0, vc (st t))] []) (by kernel_rfl) ?_ ?_
  · exact trivial
  refine AMx.seq ?_
  refine AMx.region (ces := []) (ks := [0, 3]) (hs := []) (cs := []) (s' := AS.lst 17 [(0, vc (st t)), (3, vc (u6 14695981039346656037))] []) (by kernel_rfl) ?_ ?_
  · exact trivial
  refine AMx.seq ?_
  refine AMx.seq ?_
  refine AMx.region (ces := []) (ks := [0, 3, 6, 7]) (hs := []) (cs := []) (s' := AS.lst 17 [(0, vc (st t)), (3, vc (u6 14695981039346656037)), (6, vc (i6 (List.length t : Int))), (7, vc (i6 0))] []) (by kernel_rfl) ?_ ?_
  · exact trivial
  refine AMx.block ?_
  refine AMx.ent (s' := AS.lst 17 [(0, vc (st t)), (3, vc (u6 14695981039346656037)), (6, vc (i6 (List.length t : Int))), (7, vc (i6 0))] []) (ent_proj [0, 3, 6, 7] []) ?_
  refine AMx.loop (fun mm ss => ∃ (k : Nat), (k ≤ t.length) ∧ mm = t.length - k ∧ ss = AS.lst 17 [(0, vc (st t)), (3, vc (u6 (sumS start (List.take k t)))), (6, vc (i6 (List.length t : Int))), (7, vc (i6 (k : Int)))] []) ⟨0, ?_, rfl, ?_⟩ ?_
  · omega
  · rfl
  rintro mm ss ⟨k, hI, rfl, rfl⟩
  refine AMx.seq ?_
  refine AMx.region (ces := []) (ks := [0, 3, 6, 7, 8]) (hs := []) (cs := []) (s' := AS.lst 17 [(0, vc (st t)), (3, vc (u6 (sumS start (List.take k t)))), (6, vc (i6 (List.length t : Int))), (7, vc (i6 (k : Int))), (8, vc (bo (decide ((k : Int) < (List.length t : Int)))))] []) (by kernel_rfl) ?_ ?_
  · exact trivial
  refine AMx.seq ?_
  refine AMx.cond (b := decide ((k : Int) < (List.length t : Int))) (by kernel_rfl) (fun hc1 => ?_) (fun hc1 => ?_)
  · try simp only [decide_eq_true_eq, decide_eq_false_iff_not] at hc1
    refine AMx.skip ?_
    refine AMx.seq ?_
    refine AMx.block ?_
    refine AMx.seq ?_
    refine AMx.region (ces := []) (ks := [0, 3, 4, 6, 7]) (hs := []) (cs := []) (s' := AS.lst 17 [(0, vc (st t)), (3, vc (u6 (sumS start (List.take k t)))), (4, vc (i6 (k : Int))), (6, vc (i6 (List.length t : Int))), (7, vc (i6 (k : Int)))] []) (by kernel_rfl) ?_ ?_
    · exact trivial
    refine AMx.region (ces := [(4, CE.call [] [] (vc (u6 (addS (sumS start (List.take k t)) ((List.getD t k 0).toNat : Int)))) [])]) (ks := [0, 3, 6, 7]) (hs := []) (cs := [(0 : Int) ≤ (k : Int), (k : Int) < List.length t, Spec Try.prog 22 [tc (u6 (sumS start (List.take k t))), tc (u8 ((List.getD t k 0).toNat : Int))] (ofH []) (vc (u6 (addS (sumS start (List.take k t)) ((List.getD t k 0).toNat : Int)))) (ofH [])]) (s' := AS.lst 17 [(0, vc (st t)), (3, vc (u6 (addS (sumS start (List.take k t)) ((List.getD t k 0).toNat : Int)))), (6, vc (i6 (List.length t : Int))), (7, vc (i6 (k : Int)))] []) (by kernel_rfl) ?_ ?_
    · exact ⟨(show (0 : Int) ≤ (k : Int) from (by omega)), (show (k : Int) < List.length t from (by omega)), (Add_c (sumS start (List.take k t)) ((List.getD t k 0).toNat : Int))⟩
    refine AMx.blk ?_
    refine AMx.region (ces := []) (ks := [0, 3, 6, 7]) (hs := []) (cs := [InR .i64 ((k : Int) + 1)]) (s' := AS.lst 17 [(0, vc (st t)), (3, vc (u6 (addS (sumS start (List.take k t)) ((List.getD t k 0).toNat : Int)))), (6, vc (i6 (List.length t : Int))), (7, vc (i6 ((k : Int) + 1)))] []) (by kernel_rfl) ?_ ?_
    · exact (show InR .i64 ((k : Int) + 1) from (inR64 (by omega) (by omega)))
    refine AMx.ent_inv (s' := AS.lst 17 [(0, vc (st t)), (3, vc (u6 (addS (sumS start (List.take k t)) ((List.getD t k 0).toNat : Int)))), (6, vc (i6 (List.length t : Int))), (7, vc (i6 ((k : Int) + 1)))] []) (ent_proj [0, 3, 6, 7] []) ?_
    refine AMx.inv ⟨_, ?_, k + 1, ?_, rfl, ?_⟩
    rotate_left
    · omega
    · rw [sumS_step start t k (by omega)]; rfl
    · omega
  · try simp only [decide_eq_true_eq, decide_eq_false_iff_not] at hc1
    refine AMx.exit ?_
    refine AMx.code_exit ?_
    refine AMx.inv_exit ?_
    refine AMx.blk_exit ?_
    refine AMx.seq ?_
    refine AMx.region (ces := []) (ks := [2]) (hs := []) (cs := []) (s' := AS.lst 17 [(2, vc (u6 (sumS start (List.take k t))))] []) (by kernel_rfl) ?_ ?_
    · exact trivial
    refine AMx.ret ?_
    exact RetP.mk (r := vc (u6 (sumS start (List.take k t)))) (by kernel_rfl) (by rw [List.take_of_length_le (by omega)])

theorem f25_body : Try.f25.body = some (.seq (.region 0 (rg Try.f25 0) false) (.seq (.region 1 (rg Try.f25 1) false) (.seq (.seq (.region 2 (rg Try.f25 2) false) (.block 0 (.loop (.seq (.seq (.region 3 (rg Try.f25 3) false) (.cond (.tmp 8) (.skip) (.exit 0))) (.seq (.block 1 (.region 5 (rg Try.f25 5) false)) (.region 4 (rg Try.f25 4) false)))))) (.seq (.region 6 (rg Try.f25 6) false) (.ret))))) := by kernel_rfl

set_option maxRecDepth 100000 in
set_option maxHeartbeats 8000000 in
theorem RSum_c (t : Bytes) : Pure Try.prog 25 [tc (st t)] (vc (u6 (sumS start t))) := by
  refine Pure.of_body Try.func25 f25_body (by kernel_rfl) Try.ntmps25 (by kernel_rfl) (by kernel_rfl) ?_
  refine AMx.str 0 (b := t) rfl (fun ht => ?_)
  simp only [maxLen] at ht
  refine AMx.seq ?_
  refine AMx.region (ces := []) (ks := [0]) (hs := []) (cs := []) (s' := AS.lst 17 [(0, vc (st t))] []) (by kernel_rfl) ?_ ?_
  · exact trivial
  refine AMx.seq ?_
  refine AMx.region (ces := []) (ks := [0, 3]) (hs := []) (cs := []) (s' := AS.lst 17 [(0, vc (st t)), (3, vc (u6 14695981039346656037))] []) (by kernel_rfl) ?_ ?_
  · exact trivial
  refine AMx.seq ?_
  refine AMx.seq ?_
  refine AMx.region (ces := []) (ks := [0, 3, 4]) (hs := []) (cs := []) (s' := AS.lst 17 [(0, vc (st t)), (3, vc (u6 14695981039346656037)), (4, vc (i6 0))] []) (by kernel_rfl) ?_ ?_
  · exact trivial
  refine AMx.block ?_
  refine AMx.ent (s' := AS.lst 17 [(0, vc (st t)), (3, vc (u6 14695981039346656037)), (4, vc (i6 0))] []) (ent_proj [0, 3, 4] []) ?_
  refine AMx.loop (fun mm ss => ∃ (k : Nat), (k ≤ t.length) ∧ mm = t.length - k ∧ ss = AS.lst 17 [(0, vc (st t)), (3, vc (u6 (sumS start (List.take k t)))), (4, vc (i6 (k : Int)))] []) ⟨0, ?_, rfl, ?_⟩ ?_
  · omega
  · rfl
  rintro mm ss ⟨k, hI, rfl, rfl⟩
  refine AMx.seq ?_
  refine AMx.seq ?_
  refine AMx.region (ces := []) (ks := [0, 3, 4, 8]) (hs := []) (cs := []) (s' := AS.lst 17 [(0, vc (st t)), (3, vc (u6 (sumS start (List.take k t)))), (4, vc (i6 (k : Int))), (8, vc (bo (decide ((k : Int) < (List.length t : Int)))))] []) (by kernel_rfl) ?_ ?_
  · exact trivial
  refine AMx.cond (b := decide ((k : Int) < (List.length t : Int))) (by kernel_rfl) (fun hc1 => ?_) (fun hc1 => ?_)
  · try simp only [decide_eq_true_eq, decide_eq_false_iff_not] at hc1
    refine AMx.skip ?_
    refine AMx.seq ?_
    refine AMx.block ?_
    refine AMx.region (ces := [(4, CE.call [] [] (vc (u6 (addS (sumS start (List.take k t)) ((List.getD t k 0).toNat : Int)))) [])]) (ks := [0, 3, 4]) (hs := []) (cs := [(0 : Int) ≤ (k : Int), (k : Int) < List.length t, Spec Try.prog 23 [tc (u6 (sumS start (List.take k t))), tc (u8 ((List.getD t k 0).toNat : Int))] (ofH []) (vc (u6 (addS (sumS start (List.take k t)) ((List.getD t k 0).toNat : Int)))) (ofH [])]) (s' := AS.lst 17 [(0, vc (st t)), (3, vc (u6 (addS (sumS start (List.take k t)) ((List.getD t k 0).toNat : Int)))), (4, vc (i6 (k : Int)))] []) (by kernel_rfl) ?_ ?_
    · exact ⟨(show (0 : Int) ≤ (k : Int) from (by omega)), (show (k : Int) < List.length t from (by omega)), (RAdd_c (sumS start (List.take k t)) ((List.getD t k 0).toNat : Int))⟩
    refine AMx.blk ?_
    refine AMx.region (ces := []) (ks := [0, 3, 4]) (hs := []) (cs := [InR .i64 ((k : Int) + 1)]) (s' := AS.lst 17 [(0, vc (st t)), (3, vc (u6 (addS (sumS start (List.take k t)) ((List.getD t k 0).toNat : Int)))), (4, vc (i6 ((k : Int) + 1)))] []) (by kernel_rfl) ?_ ?_
    · exact (show InR .i64 ((k : Int) + 1) from (inR64 (by omega) (by omega)))
    refine AMx.ent_inv (s' := AS.lst 17 [(0, vc (st t)), (3, vc (u6 (addS (sumS start (List.take k t)) ((List.getD t k 0).toNat : Int)))), (4, vc (i6 ((k : Int) + 1)))] []) (ent_proj [0, 3, 4] []) ?_
    refine AMx.inv ⟨_, ?_, k + 1, ?_, rfl, ?_⟩
    rotate_left
    · omega
    · rw [sumS_step start t k (by omega)]; rfl
    · omega
  · try simp only [decide_eq_true_eq, decide_eq_false_iff_not] at hc1
    refine AMx.exit ?_
    refine AMx.code_exit ?_
    refine AMx.inv_exit ?_
    refine AMx.blk_exit ?_
    refine AMx.seq ?_
    refine AMx.region (ces := []) (ks := [2]) (hs := []) (cs := []) (s' := AS.lst 17 [(2, vc (u6 (sumS start (List.take k t))))] []) (by kernel_rfl) ?_ ?_
    · exact trivial
    refine AMx.ret ?_
    exact RetP.mk (r := vc (u6 (sumS start (List.take k t)))) (by kernel_rfl) (by rw [List.take_of_length_le (by omega)])

theorem f89_body : Try.f89.body = some (.seq (.region 0 (rg Try.f89 0) false) (.seq (.region 1 (rg Try.f89 1) false) (.ret))) := by kernel_rfl

set_option maxRecDepth 100000 in
set_option maxHeartbeats 8000000 in
theorem may_c (n : Int) : Pure Try.prog 89 [tc (i6 n)] (vc (bo (mayS n))) := by
  refine Pure.of_body Try.func89 f89_body (by kernel_rfl) Try.ntmps89 (by kernel_rfl) (by kernel_rfl) ?_
  refine AMx.seq ?_
  refine AMx.region (ces := []) (ks := [0]) (hs := []) (cs := []) (s' := AS.lst 9 [(0, vc (i6 n))] []) (by kernel_rfl) ?_ ?_
  · exact trivial
  refine AMx.seq ?_
  refine AMx.region (ces := []) (ks := [2]) (hs := []) (cs := [((decide (1 ≤ n)) = true) → allP [], ((decide (1 ≤ n)) = true) → allP [(decide (1 ≤ n)) = true], (decide (1 ≤ n)) = true → allP [(decide (1 ≤ n)) = true]]) (s' := AS.lst 9 [(2, vc (bo ((decide (1 ≤ n)) && (decide (n ≤ 8)))))] []) (by kernel_rfl) ?_ ?_
  · exact ⟨(fun _ => trivial), (fun hp => hp), (fun hp2 => (by first | exact hp2 | exact ⟨hp, hp2⟩))⟩
  refine AMx.ret ?_
  exact RetP.mk (r := vc (bo ((decide (1 ≤ n)) && (decide (n ≤ 8))))) (by kernel_rfl) rfl

theorem f26_body : Try.f26.body = some (.seq (.region 0 (rg Try.f26 0) false) (.seq (.seq (.region 1 (rg Try.f26 1) false) (.cond (.tmp 8) (.seq (.region 2 (rg Try.f26 2) false) (.ret)) (.skip))) (.seq (.region 3 (rg Try.f26 3) false) (.seq (.region 4 (rg Try.f26 4) false) (.ret))))) := by kernel_rfl

set_option maxRecDepth 100000 in
set_option maxHeartbeats 8000000 in
theorem Shard_c (t : Bytes) (n : Int) : Pure Try.prog 26 [tc (st t), tc (i6 n)] (vc (i6 (shardS t n))) := by
  refine Pure.of_body Try.func26 f26_body (by kernel_rfl) Try.ntmps26 (by kernel_rfl) (by kernel_rfl) ?_
  refine AMx.seq ?_
  refine AMx.region (ces := []) (ks := [0, 1]) (hs := []) (cs := []) (s' := AS.lst 20 [(0, vc (st t)), (1, vc (i6 n))] []) (by kernel_rfl) ?_ ?_
  · exact trivial
  refine AMx.seq ?_
  refine AMx.seq ?_
  refine AMx.region (ces := [(1, CE.call [] [] (vc (bo (mayS n))) [])]) (ks := [0, 1, 8]) (hs := []) (cs := [Spec Try.prog 89 [tc (i6 n)] (ofH []) (vc (bo (mayS n))) (ofH [])]) (s' := AS.lst 20 [(0, vc (st t)), (1, vc (i6 n)), (8, vc (bo (!(mayS n))))] []) (by kernel_rfl) ?_ ?_
  · exact (may_c n)
  refine AMx.cond (b := !(mayS n)) (by kernel_rfl) (fun hc1 => ?_) (fun hc1 => ?_)
  · try simp only [decide_eq_true_eq, decide_eq_false_iff_not, Bool.not_eq_true', Bool.not_eq_false'] at hc1
    refine AMx.seq ?_
    refine AMx.region (ces := []) (ks := [4]) (hs := []) (cs := []) (s' := AS.lst 20 [(4, vc (i6 0))] []) (by kernel_rfl) ?_ ?_
    · exact trivial
    refine AMx.ret ?_
    exact RetP.mk (r := vc (i6 0)) (by kernel_rfl) (by rw [shard_0 t n (by assumption)])
  · try simp only [decide_eq_true_eq, decide_eq_false_iff_not, Bool.not_eq_true', Bool.not_eq_false'] at hc1
    refine AMx.skip ?_
    refine AMx.seq ?_
    refine AMx.region (ces := [(1, CE.call [] [] (vc (u6 (sumS start t))) [])]) (ks := [1, 5]) (hs := []) (cs := [Spec Try.prog 24 [tc (st t)] (ofH []) (vc (u6 (sumS start t))) (ofH [])]) (s' := AS.lst 20 [(1, vc (i6 n)), (5, vc (u6 (sumS start t)))] []) (by kernel_rfl) ?_ ?_
    · exact (Sum_c t)
    refine AMx.seq ?_
    refine AMx.region (ces := []) (ks := [4]) (hs := []) (cs := [(0 : Int) ≤ 32, (n : Int) ≠ 0]) (s' := AS.lst 20 [(4, vc (i6 (Int.tmod (IntKind.wrap .u32 ((BitVec.ofInt 32 (IntKind.wrap .u32 (Int.fdiv (sumS start t) (2 ^ (min (32 : Int).toNat (IntKind.bits .u64))))) ^^^ BitVec.ofInt 32 (IntKind.wrap .u32 (sumS start t))).toNat)) n)))] []) (by kernel_rfl) ?_ ?_
    · exact ⟨(show (0 : Int) ≤ 32 from (by first | omega | (have := may_t (by assumption); omega))), (show (n : Int) ≠ 0 from (by first | omega | (have := may_t (by assumption); omega)))⟩
    refine AMx.ret ?_
    exact RetP.mk (r := vc (i6 (Int.tmod (IntKind.wrap .u32 ((BitVec.ofInt 32 (IntKind.wrap .u32 (Int.fdiv (sumS start t) (2 ^ (min (32 : Int).toNat (IntKind.bits .u64))))) ^^^ BitVec.ofInt 32 (IntKind.wrap .u32 (sumS start t))).toNat)) n))) (by kernel_rfl) (by rw [shard_a t n (by assumption)])

theorem f27_body : Try.f27.body = some (.seq (.region 0 (rg Try.f27 0) false) (.seq (.seq (.region 1 (rg Try.f27 1) false) (.cond (.tmp 11) (.seq (.region 2 (rg Try.f27 2) false) (.ret)) (.skip))) (.seq (.region 3 (rg Try.f27 3) false) (.seq (.region 4 (rg Try.f27 4) false) (.ret))))) := by kernel_rfl

set_option maxRecDepth 100000 in
set_option maxHeartbeats 8000000 in
theorem RShard_c (t : Bytes) (n : Int) : Pure Try.prog 27 [tc (st t), tc (i6 n)] (vc (i6 (shardS t n))) := by
  refine Pure.of_body Try.func27 f27_body (by kernel_rfl) Try.ntmps27 (by kernel_rfl) (by kernel_rfl) ?_
  refine AMx.seq ?_
  refine AMx.region (ces := []) (ks := [0, 1]) (hs := []) (cs := []) (s' := AS.lst 23 [(0, vc (st t)), (1, vc (i6 n))] []) (by kernel_rfl) ?_ ?_
  · exact trivial
  refine AMx.seq ?_
  refine AMx.seq ?_
  refine AMx.region (ces := []) (ks := [0, 1, 11]) (hs := []) (cs := [((decide (n < 1)) = false) → allP [], ((decide (n < 1)) = false) → allP [(decide (n < 1)) = false], (decide (n < 1)) = false → allP [(decide (n < 1)) = false]]) (s' := AS.lst 23 [(0, vc (st t)), (1, vc (i6 n)), (11, vc (bo ((decide (n < 1)) || (decide (8 < n)))))] []) (by kernel_rfl) ?_ ?_
  · exact ⟨(fun _ => trivial), (fun hp => hp), (fun hp2 => (by first | exact hp2 | exact ⟨hp, hp2⟩))⟩
  refine AMx.cond (b := ((decide (n < 1)) || (decide (8 < n)))) (by kernel_rfl) (fun hc1 => ?_) (fun hc1 => ?_)
  · try simp only [decide_eq_true_eq, decide_eq_false_iff_not, Bool.or_eq_true, Bool.or_eq_false_iff] at hc1
    refine AMx.seq ?_
    refine AMx.region (ces := []) (ks := [4]) (hs := []) (cs := []) (s' := AS.lst 23 [(4, vc (i6 0))] []) (by kernel_rfl) ?_ ?_
    · exact trivial
    refine AMx.ret ?_
    exact RetP.mk (r := vc (i6 0)) (by kernel_rfl) (by rw [shard_0 t n (by simp [mayS]; omega)])
  · try simp only [decide_eq_true_eq, decide_eq_false_iff_not, Bool.or_eq_true, Bool.or_eq_false_iff] at hc1
    refine AMx.skip ?_
    refine AMx.seq ?_
    refine AMx.region (ces := [(1, CE.call [] [] (vc (u6 (sumS start t))) [])]) (ks := [1, 5]) (hs := []) (cs := [Spec Try.prog 25 [tc (st t)] (ofH []) (vc (u6 (sumS start t))) (ofH [])]) (s' := AS.lst 23 [(1, vc (i6 n)), (5, vc (u6 (sumS start t)))] []) (by kernel_rfl) ?_ ?_
    · exact (RSum_c t)
    refine AMx.seq ?_
    refine AMx.region (ces := []) (ks := [4]) (hs := []) (cs := [(4294967296 : Int) ≠ 0, (4294967296 : Int) ≠ 0, (IntKind.wrap .u64 (n) : Int) ≠ 0, InR .i64 (Int.tmod (IntKind.wrap .u64 ((BitVec.ofInt 64 (IntKind.wrap .u64 (Int.tdiv (sumS start t) 4294967296)) ^^^ BitVec.ofInt 64 (Int.tmod (sumS start t) 4294967296)).toNat)) (IntKind.wrap .u64 (n)))]) (s' := AS.lst 23 [(4, vc (i6 (Int.tmod (IntKind.wrap .u64 ((BitVec.ofInt 64 (IntKind.wrap .u64 (Int.tdiv (sumS start t) 4294967296)) ^^^ BitVec.ofInt 64 (Int.tmod (sumS start t) 4294967296)).toNat)) (IntKind.wrap .u64 (n)))))] []) (by kernel_rfl) ?_ ?_
    · exact ⟨(show (4294967296 : Int) ≠ 0 from (by first | omega | (have h1 := shard_b t n (by omega); have h2 := shard_lt t n (by omega); have h3 := wrap_id n (by omega); omega))), (show (4294967296 : Int) ≠ 0 from (by first | omega | (have h1 := shard_b t n (by omega); have h2 := shard_lt t n (by omega); have h3 := wrap_id n (by omega); omega))), (show (IntKind.wrap .u64 (n) : Int) ≠ 0 from (by first | omega | (have h1 := shard_b t n (by omega); have h2 := shard_lt t n (by omega); have h3 := wrap_id n (by omega); omega))), (show InR .i64 (Int.tmod (IntKind.wrap .u64 ((BitVec.ofInt 64 (IntKind.wrap .u64 (Int.tdiv (sumS start t) 4294967296)) ^^^ BitVec.ofInt 64 (Int.tmod (sumS start t) 4294967296)).toNat)) (IntKind.wrap .u64 (n))) from (inR64 (by first | omega | (have h1 := shard_b t n (by omega); have h2 := shard_lt t n (by omega); have h3 := wrap_id n (by omega); omega)) (by first | omega | (have h1 := shard_b t n (by omega); have h2 := shard_lt t n (by omega); have h3 := wrap_id n (by omega); omega))))⟩
    refine AMx.ret ?_
    exact RetP.mk (r := vc (i6 (Int.tmod (IntKind.wrap .u64 ((BitVec.ofInt 64 (IntKind.wrap .u64 (Int.tdiv (sumS start t) 4294967296)) ^^^ BitVec.ofInt 64 (Int.tmod (sumS start t) 4294967296)).toNat)) (IntKind.wrap .u64 (n))))) (by kernel_rfl) (by rw [shard_b t n (by omega)])

theorem f29_body : Try.f29.body = some (.seq (.region 0 (rg Try.f29 0) false) (.seq (.seq (.region 1 (rg Try.f29 1) false) (.cond (.tmp 7) (.seq (.region 2 (rg Try.f29 2) false) (.ret)) (.skip))) (.seq (.region 3 (rg Try.f29 3) false) (.seq (.seq (.region 4 (rg Try.f29 4) false) (.block 0 (.loop (.seq (.region 5 (rg Try.f29 5) false) (.seq (.cond (.tmp 13) (.skip) (.exit 0)) (.seq (.block 1 (.seq (.region 6 (rg Try.f29 6) false) (.region 7 (rg Try.f29 7) false))) (.region 8 (rg Try.f29 8) false))))))) (.seq (.region 9 (rg Try.f29 9) false) (.ret)))))) := by kernel_rfl

set_option maxRecDepth 100000 in
set_option maxHeartbeats 8000000 in
theorem All_c (n : Int) : Pure Try.prog 29 [tc (i6 n)] (vc (SC.sl 1 Int 0 rowI (allS n))) := by
  refine Pure.of_body Try.func29 f29_body (by kernel_rfl) Try.ntmps29 (by kernel_rfl) (by kernel_rfl) ?_
  refine AMx.seq ?_
  refine AMx.region (ces := []) (ks := [0]) (hs := []) (cs := []) (s' := AS.lst 21 [(0, vc (i6 n))] []) (by kernel_rfl) ?_ ?_
  · exact trivial
  refine AMx.seq ?_
  refine AMx.seq ?_
  refine AMx.region (ces := [(1, CE.call [] [] (vc (bo (mayS n))) [])]) (ks := [0, 7]) (hs := []) (cs := [Spec Try.prog 89 [tc (i6 n)] (ofH []) (vc (bo (mayS n))) (ofH [])]) (s' := AS.lst 21 [(0, vc (i6 n)), (7, vc (bo (!(mayS n))))] []) (by kernel_rfl) ?_ ?_
  · exact (may_c n)
  refine AMx.cond (b := !(mayS n)) (by kernel_rfl) (fun hc1 => ?_) (fun hc1 => ?_)
  · try simp only [decide_eq_true_eq, decide_eq_false_iff_not, Bool.not_eq_true', Bool.not_eq_false'] at hc1
    refine AMx.seq ?_
    refine AMx.region (ces := []) (ks := [2]) (hs := []) (cs := []) (s' := AS.lst 21 [(2, vc (SC.nilsl))] []) (by kernel_rfl) ?_ ?_
    · exact trivial
    refine AMx.ent (ent_weak 2 (v' := vc (SC.sl 1 Int 0 rowI [])) (by kernel_rfl) (AV.le_t (TV.le_c AC.le_nil))) ?_
    refine AMx.ret ?_
    exact RetP.mk (r := vc (SC.sl 1 Int 0 rowI [])) (by kernel_rfl) (by rw [all_0 n (by assumption)])
  · try simp only [decide_eq_true_eq, decide_eq_false_iff_not, Bool.not_eq_true', Bool.not_eq_false'] at hc1
    refine AMx.skip ?_
    refine AMx.seq ?_
    refine AMx.region (ces := [(1, CE.obj (AObj.grow 3 1 Int 0 rowI (List.replicate (n).toNat 0)))]) (ks := [3]) (hs := [9]) (cs := [0 ≤ n, n ≤ n, (8 : Int) * n ≤ 281474976710656, n ≤ 9223372036854775807, MakeC (n).toNat [.s (i6 0)] (AObj.grow 3 1 Int 0 rowI (List.replicate (n).toNat 0))]) (s' := AS.lst 21 [(3, vo 9)] [(9, AObj.grow 3 1 Int 0 rowI (List.replicate (n).toNat 0))]) (by kernel_rfl) ?_ ?_
    · exact ⟨(show 0 ≤ n from (by first | omega | (have := may_t (by assumption); omega) | (simp [ints_length]; omega))), (show n ≤ n from (by first | omega | (have := may_t (by assumption); omega) | (simp [ints_length]; omega))), (show (8 : Int) * n ≤ 281474976710656 from (by first | omega | (have := may_t (by assumption); omega) | (simp [ints_length]; omega))), (show n ≤ 9223372036854775807 from (by first | omega | (have := may_t (by assumption); omega) | (simp [ints_length]; omega))), (⟨_, rfl, rfl⟩)⟩
    refine AMx.seq ?_
    refine AMx.seq ?_
    refine AMx.region (ces := []) (ks := [3, 11, 12]) (hs := [9]) (cs := []) (s' := AS.lst 21 [(3, vo 9), (11, vc (i6 (List.length (List.replicate (n).toNat 0 : List Int) : Int))), (12, vc (i6 0))] [(9, AObj.grow 3 1 Int 0 rowI (List.replicate (n).toNat 0))]) (by kernel_rfl) ?_ ?_
    · exact trivial
    refine AMx.block ?_
    refine AMx.ent (s' := AS.lst 21 [(3, vo 9), (11, vc (i6 (List.length (List.replicate (n).toNat 0 : List Int) : Int))), (12, vc (i6 0))] [(9, AObj.grow 3 1 Int 0 rowI (List.replicate (n).toNat 0))]) (ent_proj [3, 11, 12] [9]) ?_
    refine AMx.loop (fun mm ss => ∃ (k : Nat), (k ≤ (n).toNat) ∧ mm = (n).toNat - k ∧ ss = AS.lst 21 [(3, vo 9), (11, vc (i6 ((n).toNat : Int))), (12, vc (i6 (k : Int)))] [(9, AObj.grow 3 1 Int 0 rowI (ints k ++ List.replicate ((n).toNat - k) 0))]) ⟨0, ?_, rfl, ?_⟩ ?_
    · omega
    · simp only [List.length_replicate]; rfl
    rintro mm ss ⟨k, hI, rfl, rfl⟩
    have hn := may_t (by assumption)
    refine AMx.seq ?_
    refine AMx.region (ces := []) (ks := [3, 11, 12, 13]) (hs := [9]) (cs := []) (s' := AS.lst 21 [(3, vo 9), (11, vc (i6 ((n).toNat : Int))), (12, vc (i6 (k : Int))), (13, vc (bo (decide ((k : Int) < ((n).toNat : Int)))))] [(9, AObj.grow 3 1 Int 0 rowI (ints k ++ List.replicate ((n).toNat - k) 0))]) (by kernel_rfl) ?_ ?_
    · exact trivial
    refine AMx.seq ?_
    refine AMx.cond (b := decide ((k : Int) < ((n).toNat : Int))) (by kernel_rfl) (fun hc2 => ?_) (fun hc2 => ?_)
    · try simp only [decide_eq_true_eq, decide_eq_false_iff_not] at hc2
      refine AMx.skip ?_
      refine AMx.seq ?_
      refine AMx.block ?_
      refine AMx.seq ?_
      refine AMx.region (ces := []) (ks := [3, 4, 11, 12]) (hs := [9]) (cs := []) (s' := AS.lst 21 [(3, vo 9), (4, vc (i6 (k : Int))), (11, vc (i6 ((n).toNat : Int))), (12, vc (i6 (k : Int)))] [(9, AObj.grow 3 1 Int 0 rowI (ints k ++ List.replicate ((n).toNat - k) 0))]) (by kernel_rfl) ?_ ?_
      · exact trivial
      refine AMx.region (ces := [(4, CE.obj (AObj.grow 3 1 Int 0 rowI (List.set (ints k ++ List.replicate ((n).toNat - k) 0) k (k : Int))))]) (ks := [3, 11, 12]) (hs := [9]) (cs := [(0 : Int) ≤ (k : Int), (k : Int) < List.length (ints k ++ List.replicate ((n).toNat - k) 0 : List Int), StoreC k 0 [.s (i6 (k : Int))] (AObj.grow 3 1 Int 0 rowI (ints k ++ List.replicate ((n).toNat - k) 0)) (AObj.grow 3 1 Int 0 rowI (List.set (ints k ++ List.replicate ((n).toNat - k) 0) k (k : Int)))]) (s' := AS.lst 21 [(3, vo 9), (11, vc (i6 ((n).toNat : Int))), (12, vc (i6 (k : Int)))] [(9, AObj.grow 3 1 Int 0 rowI (List.set (ints k ++ List.replicate ((n).toNat - k) 0) k (k : Int)))]) (by kernel_rfl) ?_ ?_
      · exact ⟨(show (0 : Int) ≤ (k : Int) from (by first | omega | (have := may_t (by assumption); omega) | (simp [ints_length]; omega))), (show (k : Int) < List.length (ints k ++ List.replicate ((n).toNat - k) 0 : List Int) from (by first | omega | (have := may_t (by assumption); omega) | (simp [ints_length]; omega))), (⟨(k : Int), rfl, by first | omega | (have := may_t (by assumption); omega) | (simp [ints_length]; omega), rfl⟩)⟩
      refine AMx.blk ?_
      refine AMx.region (ces := []) (ks := [3, 11, 12]) (hs := [9]) (cs := [InR .i64 ((k : Int) + 1)]) (s' := AS.lst 21 [(3, vo 9), (11, vc (i6 ((n).toNat : Int))), (12, vc (i6 ((k : Int) + 1)))] [(9, AObj.grow 3 1 Int 0 rowI (List.set (ints k ++ List.replicate ((n).toNat - k) 0) k (k : Int)))]) (by kernel_rfl) ?_ ?_
      · exact (show InR .i64 ((k : Int) + 1) from (inR64 (by first | omega | (have := may_t (by assumption); omega) | (simp [ints_length]; omega)) (by first | omega | (have := may_t (by assumption); omega) | (simp [ints_length]; omega))))
      refine AMx.ent_inv (s' := AS.lst 21 [(3, vo 9), (11, vc (i6 ((n).toNat : Int))), (12, vc (i6 ((k : Int) + 1)))] [(9, AObj.grow 3 1 Int 0 rowI (List.set (ints k ++ List.replicate ((n).toNat - k) 0) k (k : Int)))]) (ent_proj [3, 11, 12] [9]) ?_
      refine AMx.inv ⟨_, ?_, k + 1, ?_, rfl, ?_⟩
      rotate_left
      · omega
      · rw [ints_set _ k (by omega)]; rfl
      · omega
    · try simp only [decide_eq_true_eq, decide_eq_false_iff_not] at hc2
      refine AMx.exit ?_
      refine AMx.code_exit ?_
      refine AMx.inv_exit ?_
      refine AMx.blk_exit ?_
      refine AMx.seq ?_
      refine AMx.region (ces := []) (ks := [2]) (hs := [9]) (cs := []) (s' := AS.lst 21 [(2, vo 9)] [(9, AObj.grow 3 1 Int 0 rowI (ints k ++ List.replicate ((n).toNat - k) 0))]) (by kernel_rfl) ?_ ?_
      · exact trivial
      refine AMx.ent (s' := AS.lst 21 [(2, vc (SC.sl 1 Int 0 rowI (ints k ++ List.replicate ((n).toNat - k) 0)))] []) (ent_freeze (id := 9) (T := 3) (by kernel_rfl)) ?_
      refine AMx.ret ?_
      exact RetP.mk (r := vc (SC.sl 1 Int 0 rowI (ints k ++ List.replicate ((n).toNat - k) 0))) (by kernel_rfl) (by rw [all_end n k (by assumption) (by omega)])

theorem f30_body : Try.f30.body = some (.seq (.region 0 (rg Try.f30 0) false) (.seq (.seq (.region 1 (rg Try.f30 1) false) (.cond (.tmp 13) (.seq (.region 2 (rg Try.f30 2) false) (.ret)) (.skip))) (.seq (.region 3 (rg Try.f30 3) false) (.seq (.seq (.region 4 (rg Try.f30 4) false) (.block 0 (.loop (.seq (.region 5 (rg Try.f30 5) false) (.seq (.cond (.tmp 17) (.skip) (.exit 0)) (.seq (.block 1 (.seq (.region 6 (rg Try.f30 6) false) (.region 7 (rg Try.f30 7) false))) (.region 8 (rg Try.f30 8) false))))))) (.seq (.region 9 (rg Try.f30 9) false) (.seq (.seq (.region 10 (rg Try.f30 10) false) (.block 2 (.loop (.seq (.region 11 (rg Try.f30 11) false) (.seq (.cond (.tmp 27) (.skip) (.exit 2)) (.seq (.block 3 (.seq (.region 12 (rg Try.f30 12) false) (.seq (.region 13 (rg Try.f30 13) false) (.cond (.tmp 30) (.region 14 (rg Try.f30 14) false) (.skip))))) (.region 15 (rg Try.f30 15) false))))))) (.seq (.region 16 (rg Try.f30 16) false) (.ret)))))))) := by kernel_rfl

set_option maxRecDepth 100000 in
set_option maxHeartbeats 8000000 in
theorem Shards_c (n : Int) (l : List Bytes) : Pure Try.prog 30 [tc (i6 n), tc (SC.sl 1 Bytes [] rowS l)] (vc (SC.sl 1 Int 0 rowI (shardsS n l))) := by
  refine Pure.of_body Try.func30 f30_body (by kernel_rfl) Try.ntmps30 (by kernel_rfl) (by kernel_rfl) ?_
  refine AMx.sl 1 (l := l) rfl (fun hl => ?_)
  simp only [maxLen] at hl
  refine AMx.seq ?_
  refine AMx.region (ces := []) (ks := [0, 1]) (hs := []) (cs := []) (s' := AS.lst 37 [(0, vc (i6 n)), (1, vc (SC.sl 1 Bytes [] rowS l))] []) (by kernel_rfl) ?_ ?_
  · exact trivial
  refine AMx.seq ?_
  refine AMx.seq ?_
  refine AMx.region (ces := [(1, CE.call [] [] (vc (bo (mayS n))) [])]) (ks := [0, 1, 13]) (hs := []) (cs := [Spec Try.prog 89 [tc (i6 n)] (ofH []) (vc (bo (mayS n))) (ofH [])]) (s' := AS.lst 37 [(0, vc (i6 n)), (1, vc (SC.sl 1 Bytes [] rowS l)), (13, vc (bo (!(mayS n))))] []) (by kernel_rfl) ?_ ?_
  · exact (may_c n)
  refine AMx.cond (b := !(mayS n)) (by kernel_rfl) (fun hc1 => ?_) (fun hc1 => ?_)
  · try simp only [decide_eq_true_eq, decide_eq_false_iff_not, Bool.not_eq_true', Bool.not_eq_false'] at hc1
    refine AMx.seq ?_
    refine AMx.region (ces := []) (ks := [4]) (hs := []) (cs := []) (s' := AS.lst 37 [(4, vc (SC.nilsl))] []) (by kernel_rfl) ?_ ?_
    · exact trivial
    refine AMx.ent (ent_weak 4 (v' := vc (SC.sl 1 Int 0 rowI [])) (by kernel_rfl) (AV.le_t (TV.le_c AC.le_nil))) ?_
    refine AMx.ret ?_
    exact RetP.mk (r := vc (SC.sl 1 Int 0 rowI [])) (by kernel_rfl) (by rw [shards_0 n l (by assumption)])
  · try simp only [decide_eq_true_eq, decide_eq_false_iff_not, Bool.not_eq_true', Bool.not_eq_false'] at hc1
    refine AMx.skip ?_
    refine AMx.seq ?_
    refine AMx.region (ces := [(0, CE.obj (AObj.arr 1 8 Bool false rowB (List.replicate 8 false)))]) (ks := [0, 1, 5]) (hs := [5]) (cs := [flat 1 rowB (List.replicate 8 false) = [.s (bo false), .s (bo false), .s (bo false), .s (bo false), .s (bo false), .s (bo false), .s (bo false), .s (bo false)], List.length (List.replicate 8 false : List Bool) = 8]) (s' := AS.lst 37 [(0, vc (i6 n)), (1, vc (SC.sl 1 Bytes [] rowS l)), (5, vp 5 0)] [(5, AObj.arr 1 8 Bool false rowB (List.replicate 8 false))]) (by kernel_rfl) ?_ ?_
    · exact ⟨rfl, rfl⟩
    refine AMx.seq ?_
    refine AMx.seq ?_
    refine AMx.region (ces := []) (ks := [0, 5, 14, 15, 16]) (hs := [5]) (cs := []) (s' := AS.lst 37 [(0, vc (i6 n)), (5, vp 5 0), (14, vc (SC.sl 1 Bytes [] rowS l)), (15, vc (i6 (List.length l : Int))), (16, vc (i6 0))] [(5, AObj.arr 1 8 Bool false rowB (List.replicate 8 false))]) (by kernel_rfl) ?_ ?_
    · exact trivial
    refine AMx.block ?_
    refine AMx.ent (s' := AS.lst 37 [(0, vc (i6 n)), (5, vp 5 0), (14, vc (SC.sl 1 Bytes [] rowS l)), (15, vc (i6 (List.length l : Int))), (16, vc (i6 0))] [(5, AObj.arr 1 8 Bool false rowB (List.replicate 8 false))]) (ent_proj [0, 5, 14, 15, 16] [5]) ?_
    refine AMx.loop (fun mm ss => ∃ (k : Nat), (k ≤ l.length) ∧ mm = l.length - k ∧ ss = AS.lst 37 [(0, vc (i6 n)), (5, vp 5 0), (14, vc (SC.sl 1 Bytes [] rowS l)), (15, vc (i6 (List.length l : Int))), (16, vc (i6 (k : Int)))] [(5, AObj.arr 1 8 Bool false rowB (markS n (List.take k l)))]) ⟨0, ?_, rfl, ?_⟩ ?_
    · omega
    · rfl
    rintro mm ss ⟨k, hI, rfl, rfl⟩
    refine AMx.seq ?_
    refine AMx.region (ces := []) (ks := [0, 5, 14, 15, 16, 17]) (hs := [5]) (cs := []) (s' := AS.lst 37 [(0, vc (i6 n)), (5, vp 5 0), (14, vc (SC.sl 1 Bytes [] rowS l)), (15, vc (i6 (List.length l : Int))), (16, vc (i6 (k : Int))), (17, vc (bo (decide ((k : Int) < (List.length l : Int)))))] [(5, AObj.arr 1 8 Bool false rowB (markS n (List.take k l)))]) (by kernel_rfl) ?_ ?_
    · exact trivial
    refine AMx.seq ?_
    refine AMx.cond (b := decide ((k : Int) < (List.length l : Int))) (by kernel_rfl) (fun hc2 => ?_) (fun hc2 => ?_)
    · try simp only [decide_eq_true_eq, decide_eq_false_iff_not] at hc2
      refine AMx.skip ?_
      refine AMx.seq ?_
      refine AMx.block ?_
      refine AMx.seq ?_
      refine AMx.region (ces := []) (ks := [0, 5, 7, 14, 15, 16]) (hs := [5]) (cs := [(0 : Int) ≤ (k : Int), (k : Int) < List.length l]) (s' := AS.lst 37 [(0, vc (i6 n)), (5, vp 5 0), (7, vc (st (List.getD l k []))), (14, vc (SC.sl 1 Bytes [] rowS l)), (15, vc (i6 (List.length l : Int))), (16, vc (i6 (k : Int)))] [(5, AObj.arr 1 8 Bool false rowB (markS n (List.take k l)))]) (by kernel_rfl) ?_ ?_
      · exact ⟨(show (0 : Int) ≤ (k : Int) from (by first | omega | (have hn := may_t (by assumption); have h2 := shard_lt (List.getD l k []) n (by omega); first | omega | (simp only [mark_len]; omega)) | (simp only [mark_len]; omega))), (show (k : Int) < List.length l from (by first | omega | (have hn := may_t (by assumption); have h2 := shard_lt (List.getD l k []) n (by omega); first | omega | (simp only [mark_len]; omega)) | (simp only [mark_len]; omega)))⟩
      refine AMx.region (ces := [(2, CE.call [] [] (vc (i6 (shardS (List.getD l k []) n))) []), (4, CE.obj (AObj.arr 1 8 Bool false rowB (List.set (markS n (List.take k l)) (shardS (List.getD l k []) n).toNat true)))]) (ks := [0, 5, 14, 15, 16]) (hs := [5]) (cs := [Spec Try.prog 26 [tc (st (List.getD l k [])), tc (i6 n)] (ofH []) (vc (i6 (shardS (List.getD l k []) n))) (ofH []), (0 : Int) ≤ shardS (List.getD l k []) n, shardS (List.getD l k []) n < 8, StoreC ((shardS (List.getD l k []) n).toNat) 0 [.s (bo true)] (AObj.arr 1 8 Bool false rowB (markS n (List.take k l))) (AObj.arr 1 8 Bool false rowB (List.set (markS n (List.take k l)) (shardS (List.getD l k []) n).toNat true))]) (s' := AS.lst 37 [(0, vc (i6 n)), (5, vp 5 0), (14, vc (SC.sl 1 Bytes [] rowS l)), (15, vc (i6 (List.length l : Int))), (16, vc (i6 (k : Int)))] [(5, AObj.arr 1 8 Bool false rowB (List.set (markS n (List.take k l)) (shardS (List.getD l k []) n).toNat true))]) (by kernel_rfl) ?_ ?_
      · exact ⟨(Shard_c (List.getD l k []) n), (show (0 : Int) ≤ shardS (List.getD l k []) n from (by first | omega | (have hn := may_t (by assumption); have h2 := shard_lt (List.getD l k []) n (by omega); first | omega | (simp only [mark_len]; omega)) | (simp only [mark_len]; omega))), (show shardS (List.getD l k []) n < 8 from (by first | omega | (have hn := may_t (by assumption); have h2 := shard_lt (List.getD l k []) n (by omega); first | omega | (simp only [mark_len]; omega)) | (simp only [mark_len]; omega))), (⟨true, rfl, by first | omega | (have hn := may_t (by assumption); have h2 := shard_lt (List.getD l k []) n (by omega); first | omega | (simp only [mark_len]; omega)) | (simp only [mark_len]; omega), rfl⟩)⟩
      refine AMx.blk ?_
      refine AMx.region (ces := []) (ks := [0, 5, 14, 15, 16]) (hs := [5]) (cs := [InR .i64 ((k : Int) + 1)]) (s' := AS.lst 37 [(0, vc (i6 n)), (5, vp 5 0), (14, vc (SC.sl 1 Bytes [] rowS l)), (15, vc (i6 (List.length l : Int))), (16, vc (i6 ((k : Int) + 1)))] [(5, AObj.arr 1 8 Bool false rowB (List.set (markS n (List.take k l)) (shardS (List.getD l k []) n).toNat true))]) (by kernel_rfl) ?_ ?_
      · exact (show InR .i64 ((k : Int) + 1) from (inR64 (by first | omega | (have hn := may_t (by assumption); have h2 := shard_lt (List.getD l k []) n (by omega); first | omega | (simp only [mark_len]; omega)) | (simp only [mark_len]; omega)) (by first | omega | (have hn := may_t (by assumption); have h2 := shard_lt (List.getD l k []) n (by omega); first | omega | (simp only [mark_len]; omega)) | (simp only [mark_len]; omega))))
      refine AMx.ent_inv (s' := AS.lst 37 [(0, vc (i6 n)), (5, vp 5 0), (14, vc (SC.sl 1 Bytes [] rowS l)), (15, vc (i6 (List.length l : Int))), (16, vc (i6 ((k : Int) + 1)))] [(5, AObj.arr 1 8 Bool false rowB (List.set (markS n (List.take k l)) (shardS (List.getD l k []) n).toNat true))]) (ent_proj [0, 5, 14, 15, 16] [5]) ?_
      refine AMx.inv ⟨_, ?_, k + 1, ?_, rfl, ?_⟩
      rotate_left
      · omega
      · rw [mark_step n l k (by omega)]; rfl
      · omega
    · try simp only [decide_eq_true_eq, decide_eq_false_iff_not] at hc2
      refine AMx.exit ?_
      refine AMx.code_exit ?_
      refine AMx.inv_exit ?_
      refine AMx.blk_exit ?_
      refine AMx.seq ?_
      refine AMx.region (ces := []) (ks := [5, 8]) (hs := [5]) (cs := []) (s' := AS.lst 37 [(5, vp 5 0), (8, vc (SC.nilsl))] [(5, AObj.arr 1 8 Bool false rowB (markS n (List.take k l)))]) (by kernel_rfl) ?_ ?_
      · exact trivial
      refine AMx.seq ?_
      refine AMx.seq ?_
      refine AMx.region (ces := []) (ks := [8, 25, 26]) (hs := []) (cs := []) (s' := AS.lst 37 [(8, vc (SC.nilsl)), (25, AV.t (TV.arr 1 8 Bool false rowB (markS n (List.take k l)))), (26, vc (i6 0))] []) (by kernel_rfl) ?_ ?_
      · exact trivial
      refine AMx.block ?_
      refine AMx.ent (s' := AS.lst 37 [(8, vo 8), (25, AV.t (TV.arr 1 8 Bool false rowB (markS n (List.take k l)))), (26, vc (i6 0))] [(8, AObj.grow 3 1 Int 0 rowI [])]) (ent_adopt (t := 8) (d := 8) 3 1 Int 0 rowI (by kernel_rfl) (by kernel_rfl) (by kernel_rfl) (by kernel_rfl)) ?_
      refine AMx.ent (s' := AS.lst 37 [(8, vo 8), (25, AV.t (TV.arr 1 8 Bool false rowB (markS n (List.take k l)))), (26, vc (i6 0))] [(8, AObj.grow 3 1 Int 0 rowI [])]) (ent_proj [8, 25, 26] [8]) ?_
      refine AMx.loop (fun mm ss => ∃ (i : Nat), (i ≤ 8) ∧ mm = 8 - i ∧ ss = AS.lst 37 [(8, vo 8), (25, AV.t (TV.arr 1 8 Bool false rowB (markS n l))), (26, vc (i6 (i : Int)))] [(8, AObj.grow 3 1 Int 0 rowI (outS (markS n l) i))]) ⟨0, ?_, rfl, ?_⟩ ?_
      · omega
      · rw [List.take_of_length_le (by omega)]; rfl
      rintro mm ss ⟨i, hI, rfl, rfl⟩
      refine AMx.seq ?_
      refine AMx.region (ces := []) (ks := [8, 25, 26, 27]) (hs := [8]) (cs := []) (s' := AS.lst 37 [(8, vo 8), (25, AV.t (TV.arr 1 8 Bool false rowB (markS n l))), (26, vc (i6 (i : Int))), (27, vc (bo (decide ((i : Int) < 8))))] [(8, AObj.grow 3 1 Int 0 rowI (outS (markS n l) i))]) (by kernel_rfl) ?_ ?_
      · exact trivial
      refine AMx.seq ?_
      refine AMx.cond (b := decide ((i : Int) < 8)) (by kernel_rfl) (fun hc3 => ?_) (fun hc3 => ?_)
      · try simp only [decide_eq_true_eq, decide_eq_false_iff_not] at hc3
        refine AMx.skip ?_
        refine AMx.seq ?_
        refine AMx.block ?_
        refine AMx.seq ?_
        refine AMx.region (ces := []) (ks := [8, 9, 10, 25, 26]) (hs := [8]) (cs := [(0 : Int) ≤ (i : Int), (i : Int) < 8]) (s' := AS.lst 37 [(8, vo 8), (9, vc (i6 (i : Int))), (10, vc (bo (List.getD (markS n l) i false))), (25, AV.t (TV.arr 1 8 Bool false rowB (markS n l))), (26, vc (i6 (i : Int)))] [(8, AObj.grow 3 1 Int 0 rowI (outS (markS n l) i))]) (by kernel_rfl) ?_ ?_
        · exact ⟨(show (0 : Int) ≤ (i : Int) from (by first | omega | (have hn := may_t (by assumption); have h2 := shard_lt (List.getD l k []) n (by omega); first | omega | (simp only [mark_len]; omega)) | (simp only [mark_len]; omega))), (show (i : Int) < 8 from (by first | omega | (have hn := may_t (by assumption); have h2 := shard_lt (List.getD l k []) n (by omega); first | omega | (simp only [mark_len]; omega)) | (simp only [mark_len]; omega)))⟩
        refine AMx.seq ?_
        refine AMx.region (ces := []) (ks := [8, 9, 25, 26, 30]) (hs := [8]) (cs := []) (s' := AS.lst 37 [(8, vo 8), (9, vc (i6 (i : Int))), (25, AV.t (TV.arr 1 8 Bool false rowB (markS n l))), (26, vc (i6 (i : Int))), (30, vc (bo (List.getD (markS n l) i false)))] [(8, AObj.grow 3 1 Int 0 rowI (outS (markS n l) i))]) (by kernel_rfl) ?_ ?_
        · exact trivial
        refine AMx.cond (b := (List.getD (markS n l) i false)) (by kernel_rfl) (fun hc4 => ?_) (fun hc4 => ?_)
        · try simp only [decide_eq_true_eq, decide_eq_false_iff_not] at hc4
          refine AMx.region (ces := [(2, CE.obj (AObj.grow 3 1 Int 0 rowI [(i : Int)])), (3, CE.obj (AObj.grow 3 1 Int 0 rowI ((outS (markS n l) i) ++ [(i : Int)])))]) (ks := [8, 25, 26]) (hs := [34]) (cs := [flat 1 rowI [(i : Int)] = [.s (i6 (i : Int))], List.length ([(i : Int)] : List Int) = 1, AppC (flat 1 rowI [(i : Int)]) (List.length ([(i : Int)] : List Int)) 8 (AObj.grow 3 1 Int 0 rowI (outS (markS n l) i)) (AObj.grow 3 1 Int 0 rowI ((outS (markS n l) i) ++ [(i : Int)]))]) (s' := AS.lst 37 [(8, vo 34), (25, AV.t (TV.arr 1 8 Bool false rowB (markS n l))), (26, vc (i6 (i : Int)))] [(34, AObj.grow 3 1 Int 0 rowI ((outS (markS n l) i) ++ [(i : Int)]))]) (by kernel_rfl) ?_ ?_
          · exact ⟨rfl, rfl, (⟨_, rfl, rfl, rfl, by have := out_len (markS n l) i; simp only [List.length_cons, List.length_nil]; omega, by have := out_len (markS n l) i; simp only [maxLen, List.length_cons, List.length_nil]; omega⟩)⟩
          refine AMx.blk ?_
          refine AMx.region (ces := []) (ks := [8, 25, 26]) (hs := [34]) (cs := [InR .i64 ((i : Int) + 1)]) (s' := AS.lst 37 [(8, vo 34), (25, AV.t (TV.arr 1 8 Bool false rowB (markS n l))), (26, vc (i6 ((i : Int) + 1)))] [(34, AObj.grow 3 1 Int 0 rowI ((outS (markS n l) i) ++ [(i : Int)]))]) (by kernel_rfl) ?_ ?_
          · exact (show InR .i64 ((i : Int) + 1) from (inR64 (by first | omega | (have hn := may_t (by assumption); have h2 := shard_lt (List.getD l k []) n (by omega); first | omega | (simp only [mark_len]; omega)) | (simp only [mark_len]; omega)) (by first | omega | (have hn := may_t (by assumption); have h2 := shard_lt (List.getD l k []) n (by omega); first | omega | (simp only [mark_len]; omega)) | (simp only [mark_len]; omega))))
          refine AMx.ent_inv (s' := AS.lst 37 [(8, vo 8), (25, AV.t (TV.arr 1 8 Bool false rowB (markS n l))), (26, vc (i6 ((i : Int) + 1)))] [(8, AObj.grow 3 1 Int 0 rowI ((outS (markS n l) i) ++ [(i : Int)]))]) (ent_swap 34 8 (by kernel_rfl) (by kernel_rfl)) ?_
          refine AMx.ent_inv (s' := AS.lst 37 [(8, vo 8), (25, AV.t (TV.arr 1 8 Bool false rowB (markS n l))), (26, vc (i6 ((i : Int) + 1)))] [(8, AObj.grow 3 1 Int 0 rowI ((outS (markS n l) i) ++ [(i : Int)]))]) (ent_proj [8, 25, 26] [8]) ?_
          refine AMx.inv ⟨_, ?_, i + 1, ?_, rfl, ?_⟩
          rotate_left
          · omega
          · first | (rw [out_step_t _ i (by assumption)]; rfl) | (rw [out_step_f _ i (by assumption)]; rfl)
          · omega
        · try simp only [decide_eq_true_eq, decide_eq_false_iff_not] at hc4
          refine AMx.skip ?_
          refine AMx.blk ?_
          refine AMx.region (ces := []) (ks := [8, 25, 26]) (hs := [8]) (cs := [InR .i64 ((i : Int) + 1)]) (s' := AS.lst 37 [(8, vo 8), (25, AV.t (TV.arr 1 8 Bool false rowB (markS n l))), (26, vc (i6 ((i : Int) + 1)))] [(8, AObj.grow 3 1 Int 0 rowI (outS (markS n l) i))]) (by kernel_rfl) ?_ ?_
          · exact (show InR .i64 ((i : Int) + 1) from (inR64 (by first | omega | (have hn := may_t (by assumption); have h2 := shard_lt (List.getD l k []) n (by omega); first | omega | (simp only [mark_len]; omega)) | (simp only [mark_len]; omega)) (by first | omega | (have hn := may_t (by assumption); have h2 := shard_lt (List.getD l k []) n (by omega); first | omega | (simp only [mark_len]; omega)) | (simp only [mark_len]; omega))))
          refine AMx.ent_inv (s' := AS.lst 37 [(8, vo 8), (25, AV.t (TV.arr 1 8 Bool false rowB (markS n l))), (26, vc (i6 ((i : Int) + 1)))] [(8, AObj.grow 3 1 Int 0 rowI (outS (markS n l) i))]) (ent_proj [8, 25, 26] [8]) ?_
          refine AMx.inv ⟨_, ?_, i + 1, ?_, rfl, ?_⟩
          rotate_left
          · omega
          · first | (rw [out_step_t _ i (by assumption)]; rfl) | (rw [out_step_f _ i (by assumption)]; rfl)
          · omega
      · try simp only [decide_eq_true_eq, decide_eq_false_iff_not] at hc3
        refine AMx.exit ?_
        refine AMx.code_exit ?_
        refine AMx.inv_exit ?_
        refine AMx.blk_exit ?_
        refine AMx.seq ?_
        refine AMx.region (ces := []) (ks := [4]) (hs := [8]) (cs := []) (s' := AS.lst 37 [(4, vo 8)] [(8, AObj.grow 3 1 Int 0 rowI (outS (markS n l) i))]) (by kernel_rfl) ?_ ?_
        · exact trivial
        refine AMx.ent (s' := AS.lst 37 [(4, vc (SC.sl 1 Int 0 rowI (outS (markS n l) i)))] []) (ent_freeze (id := 8) (T := 3) (by kernel_rfl)) ?_
        refine AMx.ret ?_
        exact RetP.mk (r := vc (SC.sl 1 Int 0 rowI (outS (markS n l) i))) (by kernel_rfl) (by rw [shards_end n l i (by assumption) (by omega)])

theorem f31_body : Try.f31.body = some (.seq (.region 0 (rg Try.f31 0) false) (.seq (.seq (.region 1 (rg Try.f31 1) false) (.cond (.tmp 10) (.seq (.region 2 (rg Try.f31 2) false) (.ret)) (.skip))) (.seq (.seq (.region 3 (rg Try.f31 3) false) (.block 0 (.loop (.seq (.seq (.region 4 (rg Try.f31 4) false) (.cond (.tmp 14) (.skip) (.exit 0))) (.seq (.block 1 (.seq (.region 6 (rg Try.f31 6) true) (.cond (.tmp 25) (.seq (.region 7 (rg Try.f31 7) false) (.ret)) (.skip)))) (.region 5 (rg Try.f31 5) false)))))) (.seq (.region 8 (rg Try.f31 8) false) (.ret))))) := by kernel_rfl

set_option maxRecDepth 100000 in
set_option maxHeartbeats 8000000 in
theorem SameInts_c (a b : List Int) : Pure Try.prog 31 [tc (SC.sl 1 Int 0 rowI a), tc (SC.sl 1 Int 0 rowI b)] (vc (bo (decide (a = b)))) := by
  refine Pure.of_body Try.func31 f31_body (by kernel_rfl) Try.ntmps31 (by kernel_rfl) (by kernel_rfl) ?_
  refine AMx.sl 0 (l := a) rfl (fun hl => ?_)
  simp only [maxLen] at hl
  refine AMx.seq ?_
  refine AMx.region (ces := []) (ks := [0, 1]) (hs := []) (cs := []) (s' := AS.lst 26 [(0, vc (SC.sl 1 Int 0 rowI a)), (1, vc (SC.sl 1 Int 0 rowI b))] []) (by kernel_rfl) ?_ ?_
  · exact trivial
  refine AMx.seq ?_
  refine AMx.seq ?_
  refine AMx.region (ces := []) (ks := [0, 1, 10]) (hs := []) (cs := []) (s' := AS.lst 26 [(0, vc (SC.sl 1 Int 0 rowI a)), (1, vc (SC.sl 1 Int 0 rowI b)), (10, vc (bo (!decide ((List.length a : Int) = (List.length b : Int)))))] []) (by kernel_rfl) ?_ ?_
  · exact trivial
  refine AMx.cond (b := !decide ((List.length a : Int) = (List.length b : Int))) (by kernel_rfl) (fun hc1 => ?_) (fun hc1 => ?_)
  · try simp only [decide_eq_true_eq, decide_eq_false_iff_not, Bool.not_eq_true', Bool.not_eq_false'] at hc1
    refine AMx.seq ?_
    refine AMx.region (ces := []) (ks := [4]) (hs := []) (cs := []) (s' := AS.lst 26 [(4, vc (bo false))] []) (by kernel_rfl) ?_ ?_
    · exact trivial
    refine AMx.ret ?_
    exact RetP.mk (r := vc (bo false)) (by kernel_rfl) (by rw [decide_eq_false (fun h => by subst h; simp_all)])
  · try simp only [decide_eq_true_eq, decide_eq_false_iff_not, Bool.not_eq_true', Bool.not_eq_false'] at hc1
    refine AMx.skip ?_
    refine AMx.seq ?_
    refine AMx.seq ?_
    refine AMx.region (ces := []) (ks := [0, 1, 5]) (hs := []) (cs := []) (s' := AS.lst 26 [(0, vc (SC.sl 1 Int 0 rowI a)), (1, vc (SC.sl 1 Int 0 rowI b)), (5, vc (i6 0))] []) (by kernel_rfl) ?_ ?_
    · exact trivial
    refine AMx.block ?_
    refine AMx.ent (s' := AS.lst 26 [(0, vc (SC.sl 1 Int 0 rowI a)), (1, vc (SC.sl 1 Int 0 rowI b)), (5, vc (i6 0))] []) (ent_proj [0, 1, 5] []) ?_
    refine AMx.loop (fun mm ss => ∃ (i : Nat), (i ≤ a.length ∧ List.take i a = List.take i b) ∧ mm = a.length - i ∧ ss = AS.lst 26 [(0, vc (SC.sl 1 Int 0 rowI a)), (1, vc (SC.sl 1 Int 0 rowI b)), (5, vc (i6 (i : Int)))] []) ⟨0, ?_, rfl, ?_⟩ ?_
    · exact ⟨by omega, rfl⟩
    · rfl
    rintro mm ss ⟨i, ⟨hI, hE⟩, rfl, rfl⟩
    refine AMx.seq ?_
    refine AMx.seq ?_
    refine AMx.region (ces := []) (ks := [0, 1, 5, 14]) (hs := []) (cs := []) (s' := AS.lst 26 [(0, vc (SC.sl 1 Int 0 rowI a)), (1, vc (SC.sl 1 Int 0 rowI b)), (5, vc (i6 (i : Int))), (14, vc (bo (decide ((i : Int) < (List.length a : Int)))))] []) (by kernel_rfl) ?_ ?_
    · exact trivial
    refine AMx.cond (b := decide ((i : Int) < (List.length a : Int))) (by kernel_rfl) (fun hc2 => ?_) (fun hc2 => ?_)
    · try simp only [decide_eq_true_eq, decide_eq_false_iff_not] at hc2
      refine AMx.skip ?_
      refine AMx.seq ?_
      refine AMx.block ?_
      refine AMx.seq ?_
      refine AMx.region_draw (ces := []) (ros := []) (ks := [0, 1, 5, 25]) (hs := []) (cs := [(0 : Int) ≤ (i : Int), (i : Int) < List.length a, (0 : Int) ≤ (i : Int), (i : Int) < List.length b]) (s' := AS.lst 26 [(0, vc (SC.sl 1 Int 0 rowI a)), (1, vc (SC.sl 1 Int 0 rowI b)), (5, vc (i6 (i : Int))), (25, vc (bo (!decide ((List.getD a i 0) = (List.getD b i 0)))))] []) mixed (by kernel_rfl) ?_ ?_
      · exact ⟨(show (0 : Int) ≤ (i : Int) from (by omega)), (show (i : Int) < List.length a from (by omega)), (show (0 : Int) ≤ (i : Int) from (by omega)), (show (i : Int) < List.length b from (by omega))⟩
      refine AMx.cond (b := !decide ((List.getD a i 0) = (List.getD b i 0))) (by kernel_rfl) (fun hc3 => ?_) (fun hc3 => ?_)
      · try simp only [decide_eq_true_eq, decide_eq_false_iff_not, Bool.not_eq_true', Bool.not_eq_false'] at hc3
        refine AMx.seq ?_
        refine AMx.region (ces := []) (ks := [4]) (hs := []) (cs := []) (s' := AS.lst 26 [(4, vc (bo false))] []) (by kernel_rfl) ?_ ?_
        · exact trivial
        refine AMx.ret ?_
        exact RetP.mk (r := vc (bo false)) (by kernel_rfl) (by rw [decide_eq_false (fun h => by subst h; simp_all)])
      · try simp only [decide_eq_true_eq, decide_eq_false_iff_not, Bool.not_eq_true', Bool.not_eq_false'] at hc3
        refine AMx.skip ?_
        refine AMx.blk ?_
        refine AMx.region (ces := []) (ks := [0, 1, 5]) (hs := []) (cs := [InR .i64 ((i : Int) + 1)]) (s' := AS.lst 26 [(0, vc (SC.sl 1 Int 0 rowI a)), (1, vc (SC.sl 1 Int 0 rowI b)), (5, vc (i6 ((i : Int) + 1)))] []) (by kernel_rfl) ?_ ?_
        · exact (show InR .i64 ((i : Int) + 1) from (inR64 (by omega) (by omega)))
        refine AMx.ent_inv (s' := AS.lst 26 [(0, vc (SC.sl 1 Int 0 rowI a)), (1, vc (SC.sl 1 Int 0 rowI b)), (5, vc (i6 ((i : Int) + 1)))] []) (ent_proj [0, 1, 5] []) ?_
        refine AMx.inv ⟨_, ?_, i + 1, ?_, rfl, ?_⟩
        rotate_left
        · exact ⟨by omega, take_same a b i (by omega) (by omega) hE (by assumption)⟩
        · rfl
        · omega
    · try simp only [decide_eq_true_eq, decide_eq_false_iff_not] at hc2
      refine AMx.exit ?_
      refine AMx.code_exit ?_
      refine AMx.inv_exit ?_
      refine AMx.blk_exit ?_
      refine AMx.seq ?_
      refine AMx.region (ces := []) (ks := [4]) (hs := []) (cs := []) (s' := AS.lst 26 [(4, vc (bo true))] []) (by kernel_rfl) ?_ ?_
      · exact trivial
      refine AMx.ret ?_
      exact RetP.mk (r := vc (bo true)) (by kernel_rfl) (by rw [decide_eq_true (same_end a b i hE (by omega) (by omega))])

theorem f32_body : Try.f32.body = some (.seq (.region 0 (rg Try.f32 0) false) (.seq (.region 1 (rg Try.f32 1) false) (.seq (.seq (.region 2 (rg Try.f32 2) false) (.block 0 (.loop (.seq (.seq (.region 3 (rg Try.f32 3) false) (.cond (.tmp 15) (.skip) (.exit 0))) (.seq (.block 1 (.seq (.region 5 (rg Try.f32 5) false) (.seq (.seq (.region 6 (rg Try.f32 6) false) (.block 2 (.loop (.seq (.seq (.region 7 (rg Try.f32 7) false) (.cond (.tmp 21) (.skip) (.exit 2))) (.seq (.block 3 (.region 9 (rg Try.f32 9) false)) (.region 8 (rg Try.f32 8) false)))))) (.seq (.region 10 (rg Try.f32 10) false) (.cond (.tmp 35) (.region 11 (rg Try.f32 11) false) (.skip)))))) (.region 4 (rg Try.f32 4) false)))))) (.seq (.region 12 (rg Try.f32 12) false) (.ret))))) := by kernel_rfl

set_option maxRecDepth 100000 in
set_option maxHeartbeats 8000000 in
theorem RShards_c (n : Int) (l : List Bytes) (hn : 1 ≤ n ∧ n ≤ 8) : Pure Try.prog 32 [tc (i6 n), tc (SC.sl 1 Bytes [] rowS l)] (vc (SC.sl 1 Int 0 rowI (shardsS n l))) := by
  refine Pure.of_body Try.func32 f32_body (by kernel_rfl) Try.ntmps32 (by kernel_rfl) (by kernel_rfl) ?_
  refine AMx.sl 1 (l := l) rfl (fun hl => ?_)
  simp only [maxLen] at hl
  refine AMx.seq ?_
  refine AMx.region (ces := []) (ks := [0, 1]) (hs := []) (cs := []) (s' := AS.lst 41 [(0, vc (i6 n)), (1, vc (SC.sl 1 Bytes [] rowS l))] []) (by kernel_rfl) ?_ ?_
  · exact trivial
  refine AMx.seq ?_
  refine AMx.region (ces := []) (ks := [0, 1, 5]) (hs := []) (cs := []) (s' := AS.lst 41 [(0, vc (i6 n)), (1, vc (SC.sl 1 Bytes [] rowS l)), (5, vc (SC.nilsl))] []) (by kernel_rfl) ?_ ?_
  · exact trivial
  refine AMx.seq ?_
  refine AMx.seq ?_
  refine AMx.region (ces := []) (ks := [0, 1, 5, 6]) (hs := []) (cs := []) (s' := AS.lst 41 [(0, vc (i6 n)), (1, vc (SC.sl 1 Bytes [] rowS l)), (5, vc (SC.nilsl)), (6, vc (i6 0))] []) (by kernel_rfl) ?_ ?_
  · exact trivial
  refine AMx.block ?_
  refine AMx.ent (s' := AS.lst 41 [(0, vc (i6 n)), (1, vc (SC.sl 1 Bytes [] rowS l)), (5, vo 5), (6, vc (i6 0))] [(5, AObj.grow 3 1 Int 0 rowI [])]) (ent_adopt (t := 5) (d := 5) 3 1 Int 0 rowI (by kernel_rfl) (by kernel_rfl) (by kernel_rfl) (by kernel_rfl)) ?_
  refine AMx.ent (s' := AS.lst 41 [(0, vc (i6 n)), (1, vc (SC.sl 1 Bytes [] rowS l)), (5, vo 5), (6, vc (i6 0))] [(5, AObj.grow 3 1 Int 0 rowI [])]) (ent_proj [0, 1, 5, 6] [5]) ?_
  refine AMx.loop (fun mm ss => ∃ (k : Nat), (k ≤ (n).toNat) ∧ mm = (n).toNat - k ∧ ss = AS.lst 41 [(0, vc (i6 n)), (1, vc (SC.sl 1 Bytes [] rowS l)), (5, vo 5), (6, vc (i6 (k : Int)))] [(5, AObj.grow 3 1 Int 0 rowI (refS n l k))]) ⟨0, ?_, rfl, ?_⟩ ?_
  · omega
  · rfl
  rintro mm ss ⟨k, hI, rfl, rfl⟩
  refine AMx.seq ?_
  refine AMx.seq ?_
  refine AMx.region (ces := []) (ks := [0, 1, 5, 6, 15]) (hs := [5]) (cs := [((decide ((k : Int) < n)) = true) → allP [], ((decide ((k : Int) < n)) = true) → allP [(decide ((k : Int) < n)) = true], (decide ((k : Int) < n)) = true → allP [(decide ((k : Int) < n)) = true]]) (s' := AS.lst 41 [(0, vc (i6 n)), (1, vc (SC.sl 1 Bytes [] rowS l)), (5, vo 5), (6, vc (i6 (k : Int))), (15, vc (bo ((decide ((k : Int) < n)) && (decide (n ≤ 8)))))] [(5, AObj.grow 3 1 Int 0 rowI (refS n l k))]) (by kernel_rfl) ?_ ?_
  · exact ⟨(fun _ => trivial), (fun hp => hp), (fun hp2 => (by first | exact hp2 | exact ⟨hp, hp2⟩))⟩
  refine AMx.cond (b := ((decide ((k : Int) < n)) && (decide (n ≤ 8)))) (by kernel_rfl) (fun hc1 => ?_) (fun hc1 => ?_)
  · try simp only [decide_eq_true_eq, decide_eq_false_iff_not, Bool.and_eq_true, Bool.and_eq_false_iff] at hc1
    refine AMx.skip ?_
    refine AMx.seq ?_
    refine AMx.block ?_
    refine AMx.seq ?_
    refine AMx.region (ces := []) (ks := [0, 1, 5, 6, 7]) (hs := [5]) (cs := []) (s' := AS.lst 41 [(0, vc (i6 n)), (1, vc (SC.sl 1 Bytes [] rowS l)), (5, vo 5), (6, vc (i6 (k : Int))), (7, vc (bo false))] [(5, AObj.grow 3 1 Int 0 rowI (refS n l k))]) (by kernel_rfl) ?_ ?_
    · exact trivial
    refine AMx.seq ?_
    refine AMx.seq ?_
    refine AMx.region (ces := []) (ks := [0, 1, 5, 6, 7, 8]) (hs := [5]) (cs := []) (s' := AS.lst 41 [(0, vc (i6 n)), (1, vc (SC.sl 1 Bytes [] rowS l)), (5, vo 5), (6, vc (i6 (k : Int))), (7, vc (bo false)), (8, vc (i6 0))] [(5, AObj.grow 3 1 Int 0 rowI (refS n l k))]) (by kernel_rfl) ?_ ?_
    · exact trivial
    refine AMx.block ?_
    refine AMx.ent (s' := AS.lst 41 [(0, vc (i6 n)), (1, vc (SC.sl 1 Bytes [] rowS l)), (5, vo 5), (6, vc (i6 (k : Int))), (7, vc (bo false)), (8, vc (i6 0))] [(5, AObj.grow 3 1 Int 0 rowI (refS n l k))]) (ent_proj [0, 1, 5, 6, 7, 8] [5]) ?_
    refine AMx.loop (fun mm ss => ∃ (i : Nat), (i ≤ l.length) ∧ mm = l.length - i ∧ ss = AS.lst 41 [(0, vc (i6 n)), (1, vc (SC.sl 1 Bytes [] rowS l)), (5, vo 5), (6, vc (i6 (k : Int))), (7, vc (bo (isS n (List.take i l) (k : Int)))), (8, vc (i6 (i : Int)))] [(5, AObj.grow 3 1 Int 0 rowI (refS n l k))]) ⟨0, ?_, rfl, ?_⟩ ?_
    · omega
    · rfl
    rintro mm ss ⟨i, hI, rfl, rfl⟩
    refine AMx.seq ?_
    refine AMx.seq ?_
    refine AMx.region (ces := []) (ks := [0, 1, 5, 6, 7, 8, 21]) (hs := [5]) (cs := []) (s' := AS.lst 41 [(0, vc (i6 n)), (1, vc (SC.sl 1 Bytes [] rowS l)), (5, vo 5), (6, vc (i6 (k : Int))), (7, vc (bo (isS n (List.take i l) (k : Int)))), (8, vc (i6 (i : Int))), (21, vc (bo (decide ((i : Int) < (List.length l : Int)))))] [(5, AObj.grow 3 1 Int 0 rowI (refS n l k))]) (by kernel_rfl) ?_ ?_
    · exact trivial
    refine AMx.cond (b := decide ((i : Int) < (List.length l : Int))) (by kernel_rfl) (fun hc2 => ?_) (fun hc2 => ?_)
    · try simp only [decide_eq_true_eq, decide_eq_false_iff_not] at hc2
      refine AMx.skip ?_
      refine AMx.seq ?_
      refine AMx.block ?_
      refine AMx.region (ces := [(7, CE.call [] [] (vc (i6 (shardS (List.getD l i []) n))) [])]) (ks := [0, 1, 5, 6, 7, 8]) (hs := [5]) (cs := [((isS n (List.take i l) (k : Int)) = false) → allP [], ((isS n (List.take i l) (k : Int)) = false) → allP [], ((isS n (List.take i l) (k : Int)) = false) → allP [(isS n (List.take i l) (k : Int)) = false, (isS n (List.take i l) (k : Int)) = false, (0 : Int) ≤ (i : Int), (i : Int) < List.length l], ((isS n (List.take i l) (k : Int)) = false) → allP [(isS n (List.take i l) (k : Int)) = false], ((isS n (List.take i l) (k : Int)) = false) → allP [], ((isS n (List.take i l) (k : Int)) = false) → allP [(isS n (List.take i l) (k : Int)) = false, (isS n (List.take i l) (k : Int)) = false, Spec Try.prog 27 [tc (st (List.getD l i [])), tc (i6 n)] (ofH []) (vc (i6 (shardS (List.getD l i []) n))) (ofH [])], ((isS n (List.take i l) (k : Int)) = false) → allP [], ((isS n (List.take i l) (k : Int)) = false) → allP [(isS n (List.take i l) (k : Int)) = false, (isS n (List.take i l) (k : Int)) = false], (isS n (List.take i l) (k : Int)) = false → allP [(isS n (List.take i l) (k : Int)) = false]]) (s' := AS.lst 41 [(0, vc (i6 n)), (1, vc (SC.sl 1 Bytes [] rowS l)), (5, vo 5), (6, vc (i6 (k : Int))), (7, vc (bo ((isS n (List.take i l) (k : Int)) || (decide (shardS (List.getD l i []) n = (k : Int)))))), (8, vc (i6 (i : Int)))] [(5, AObj.grow 3 1 Int 0 rowI (refS n l k))]) (by kernel_rfl) ?_ ?_
      · exact ⟨(fun _ => trivial), (fun _ => trivial), (fun hp => by have hq := hp; (try simp only [decide_eq_true_eq, decide_eq_false_iff_not, Bool.and_eq_true, Bool.or_eq_true, Bool.and_eq_false_iff, Bool.or_eq_false_iff, Bool.not_eq_true', Bool.not_eq_false', Bool.not_eq_true, Bool.not_eq_false] at hq); exact ⟨hp, hp, (show (0 : Int) ≤ (i : Int) from (by omega)), (show (i : Int) < List.length l from (by omega))⟩), (fun hp => hp), (fun _ => trivial), (fun hp => by have hq := hp; (try simp only [decide_eq_true_eq, decide_eq_false_iff_not, Bool.and_eq_true, Bool.or_eq_true, Bool.and_eq_false_iff, Bool.or_eq_false_iff, Bool.not_eq_true', Bool.not_eq_false', Bool.not_eq_true, Bool.not_eq_false] at hq); exact ⟨hp, hp, (RShard_c (List.getD l i []) n)⟩), (fun _ => trivial), (fun hp => ⟨hp, hp⟩), (fun hp2 => (by first | exact hp2 | exact ⟨hp, hp2⟩))⟩
      refine AMx.blk ?_
      refine AMx.region (ces := []) (ks := [0, 1, 5, 6, 7, 8]) (hs := [5]) (cs := [InR .i64 ((i : Int) + 1)]) (s' := AS.lst 41 [(0, vc (i6 n)), (1, vc (SC.sl 1 Bytes [] rowS l)), (5, vo 5), (6, vc (i6 (k : Int))), (7, vc (bo ((isS n (List.take i l) (k : Int)) || (decide (shardS (List.getD l i []) n = (k : Int)))))), (8, vc (i6 ((i : Int) + 1)))] [(5, AObj.grow 3 1 Int 0 rowI (refS n l k))]) (by kernel_rfl) ?_ ?_
      · exact (show InR .i64 ((i : Int) + 1) from (inR64 (by omega) (by omega)))
      refine AMx.ent_inv (s' := AS.lst 41 [(0, vc (i6 n)), (1, vc (SC.sl 1 Bytes [] rowS l)), (5, vo 5), (6, vc (i6 (k : Int))), (7, vc (bo ((isS n (List.take i l) (k : Int)) || (decide (shardS (List.getD l i []) n = (k : Int)))))), (8, vc (i6 ((i : Int) + 1)))] [(5, AObj.grow 3 1 Int 0 rowI (refS n l k))]) (ent_proj [0, 1, 5, 6, 7, 8] [5]) ?_
      refine AMx.inv ⟨_, ?_, i + 1, ?_, rfl, ?_⟩
      rotate_left
      · omega
      · rw [is_step n l i _ (by omega)]; rfl
      · omega
    · try simp only [decide_eq_true_eq, decide_eq_false_iff_not] at hc2
      refine AMx.exit ?_
      refine AMx.code_exit ?_
      refine AMx.inv_exit ?_
      refine AMx.blk_exit ?_
      refine AMx.seq ?_
      refine AMx.region (ces := []) (ks := [0, 1, 5, 6, 35]) (hs := [5]) (cs := []) (s' := AS.lst 41 [(0, vc (i6 n)), (1, vc (SC.sl 1 Bytes [] rowS l)), (5, vo 5), (6, vc (i6 (k : Int))), (35, vc (bo (isS n (List.take i l) (k : Int))))] [(5, AObj.grow 3 1 Int 0 rowI (refS n l k))]) (by kernel_rfl) ?_ ?_
      · exact trivial
      refine AMx.cond (b := isS n (List.take i l) (k : Int)) (by kernel_rfl) (fun hc3 => ?_) (fun hc3 => ?_)
      · try simp only [decide_eq_true_eq, decide_eq_false_iff_not] at hc3
        refine AMx.region (ces := [(2, CE.obj (AObj.grow 3 1 Int 0 rowI [(k : Int)])), (3, CE.obj (AObj.grow 3 1 Int 0 rowI ((refS n l k) ++ [(k : Int)])))]) (ks := [0, 1, 5, 6]) (hs := [39]) (cs := [flat 1 rowI [(k : Int)] = [.s (i6 (k : Int))], List.length ([(k : Int)] : List Int) = 1, AppC (flat 1 rowI [(k : Int)]) (List.length ([(k : Int)] : List Int)) 8 (AObj.grow 3 1 Int 0 rowI (refS n l k)) (AObj.grow 3 1 Int 0 rowI ((refS n l k) ++ [(k : Int)]))]) (s' := AS.lst 41 [(0, vc (i6 n)), (1, vc (SC.sl 1 Bytes [] rowS l)), (5, vo 39), (6, vc (i6 (k : Int)))] [(39, AObj.grow 3 1 Int 0 rowI ((refS n l k) ++ [(k : Int)]))]) (by kernel_rfl) ?_ ?_
        · exact ⟨rfl, rfl, (⟨_, rfl, rfl, rfl, by have := ref_len n l k; simp only [List.length_cons, List.length_nil]; omega, by have := ref_len n l k; simp only [maxLen, List.length_cons, List.length_nil]; omega⟩)⟩
        refine AMx.blk ?_
        refine AMx.region (ces := []) (ks := [0, 1, 5, 6]) (hs := [39]) (cs := [InR .i64 ((k : Int) + 1)]) (s' := AS.lst 41 [(0, vc (i6 n)), (1, vc (SC.sl 1 Bytes [] rowS l)), (5, vo 39), (6, vc (i6 ((k : Int) + 1)))] [(39, AObj.grow 3 1 Int 0 rowI ((refS n l k) ++ [(k : Int)]))]) (by kernel_rfl) ?_ ?_
        · exact (show InR .i64 ((k : Int) + 1) from (inR64 (by omega) (by omega)))
        refine AMx.ent_inv (s' := AS.lst 41 [(0, vc (i6 n)), (1, vc (SC.sl 1 Bytes [] rowS l)), (5, vo 5), (6, vc (i6 ((k : Int) + 1)))] [(5, AObj.grow 3 1 Int 0 rowI ((refS n l k) ++ [(k : Int)]))]) (ent_swap 39 5 (by kernel_rfl) (by kernel_rfl)) ?_
        refine AMx.ent_inv (s' := AS.lst 41 [(0, vc (i6 n)), (1, vc (SC.sl 1 Bytes [] rowS l)), (5, vo 5), (6, vc (i6 ((k : Int) + 1)))] [(5, AObj.grow 3 1 Int 0 rowI ((refS n l k) ++ [(k : Int)]))]) (ent_proj [0, 1, 5, 6] [5]) ?_
        refine AMx.inv ⟨_, ?_, k + 1, ?_, rfl, ?_⟩
        rotate_left
        · omega
        · first | (rw [ref_step_t n l k (by have h := List.take_of_length_le (l := l) (i := i) (by omega); simp_all)]; rfl) | (rw [ref_step_f n l k (by have h := List.take_of_length_le (l := l) (i := i) (by omega); simp_all)]; rfl)
        · omega
      · try simp only [decide_eq_true_eq, decide_eq_false_iff_not] at hc3
        refine AMx.skip ?_
        refine AMx.blk ?_
        refine AMx.region (ces := []) (ks := [0, 1, 5, 6]) (hs := [5]) (cs := [InR .i64 ((k : Int) + 1)]) (s' := AS.lst 41 [(0, vc (i6 n)), (1, vc (SC.sl 1 Bytes [] rowS l)), (5, vo 5), (6, vc (i6 ((k : Int) + 1)))] [(5, AObj.grow 3 1 Int 0 rowI (refS n l k))]) (by kernel_rfl) ?_ ?_
        · exact (show InR .i64 ((k : Int) + 1) from (inR64 (by omega) (by omega)))
        refine AMx.ent_inv (s' := AS.lst 41 [(0, vc (i6 n)), (1, vc (SC.sl 1 Bytes [] rowS l)), (5, vo 5), (6, vc (i6 ((k : Int) + 1)))] [(5, AObj.grow 3 1 Int 0 rowI (refS n l k))]) (ent_proj [0, 1, 5, 6] [5]) ?_
        refine AMx.inv ⟨_, ?_, k + 1, ?_, rfl, ?_⟩
        rotate_left
        · omega
        · first | (rw [ref_step_t n l k (by have h := List.take_of_length_le (l := l) (i := i) (by omega); simp_all)]; rfl) | (rw [ref_step_f n l k (by have h := List.take_of_length_le (l := l) (i := i) (by omega); simp_all)]; rfl)
        · omega
  · try simp only [decide_eq_true_eq, decide_eq_false_iff_not, Bool.and_eq_true, Bool.and_eq_false_iff] at hc1
    refine AMx.exit ?_
    refine AMx.code_exit ?_
    refine AMx.inv_exit ?_
    refine AMx.blk_exit ?_
    refine AMx.seq ?_
    refine AMx.region (ces := []) (ks := [4]) (hs := [5]) (cs := []) (s' := AS.lst 41 [(4, vo 5)] [(5, AObj.grow 3 1 Int 0 rowI (refS n l k))]) (by kernel_rfl) ?_ ?_
    · exact trivial
    refine AMx.ent (s' := AS.lst 41 [(4, vc (SC.sl 1 Int 0 rowI (refS n l k)))] []) (ent_freeze (id := 5) (T := 3) (by kernel_rfl)) ?_
    refine AMx.ret ?_
    exact RetP.mk (r := vc (SC.sl 1 Int 0 rowI (refS n l k))) (by kernel_rfl) (by rw [show k = (n).toNat by omega, ref_eq n l hn])

theorem f28_body : Try.f28.body = some (.seq (.region 0 (rg Try.f28 0) false) (.seq (.seq (.region 1 (rg Try.f28 1) false) (.cond (.tmp 6) (.seq (.region 2 (rg Try.f28 2) false) (.ret)) (.skip))) (.seq (.seq (.region 3 (rg Try.f28 3) false) (.block 0 (.loop (.seq (.seq (.region 4 (rg Try.f28 4) false) (.cond (.tmp 10) (.skip) (.exit 0))) (.seq (.block 1 (.seq (.region 6 (rg Try.f28 6) false) (.cond (.tmp 18) (.seq (.region 7 (rg Try.f28 7) false) (.ret)) (.skip)))) (.region 5 (rg Try.f28 5) false)))))) (.seq (.region 8 (rg Try.f28 8) false) (.ret))))) := by kernel_rfl

set_option maxRecDepth 100000 in
set_option maxHeartbeats 8000000 in
theorem Over_c (l : List Bytes) : Pure Try.prog 28 [tc (SC.sl 1 Bytes [] rowS l)] (vc (i6 (overS l))) := by
  refine Pure.of_body Try.func28 f28_body (by kernel_rfl) Try.ntmps28 (by kernel_rfl) (by kernel_rfl) ?_
  refine AMx.sl 0 (l := l) rfl (fun hl => ?_)
  simp only [maxLen] at hl
  refine AMx.seq ?_
  refine AMx.region (ces := []) (ks := [0]) (hs := []) (cs := []) (s' := AS.lst 19 [(0, vc (SC.sl 1 Bytes [] rowS l))] []) (by kernel_rfl) ?_ ?_
  · exact trivial
  refine AMx.seq ?_
  refine AMx.seq ?_
  refine AMx.region (ces := []) (ks := [0, 6]) (hs := []) (cs := []) (s' := AS.lst 19 [(0, vc (SC.sl 1 Bytes [] rowS l)), (6, vc (bo (decide (40 < (List.length l : Int)))))] []) (by kernel_rfl) ?_ ?_
  · exact trivial
  refine AMx.cond (b := decide (40 < (List.length l : Int))) (by kernel_rfl) (fun hc1 => ?_) (fun hc1 => ?_)
  · try simp only [decide_eq_true_eq, decide_eq_false_iff_not] at hc1
    refine AMx.seq ?_
    refine AMx.region (ces := []) (ks := [2]) (hs := []) (cs := []) (s' := AS.lst 19 [(2, vc (i6 1))] []) (by kernel_rfl) ?_ ?_
    · exact trivial
    refine AMx.ret ?_
    exact RetP.mk (r := vc (i6 1)) (by kernel_rfl) (by first | rw [over_1 l (by omega)] | rw [over_2 l i (by omega) (by omega)])
  · try simp only [decide_eq_true_eq, decide_eq_false_iff_not] at hc1
    refine AMx.skip ?_
    refine AMx.seq ?_
    refine AMx.seq ?_
    refine AMx.region (ces := []) (ks := [0, 3]) (hs := []) (cs := []) (s' := AS.lst 19 [(0, vc (SC.sl 1 Bytes [] rowS l)), (3, vc (i6 0))] []) (by kernel_rfl) ?_ ?_
    · exact trivial
    refine AMx.block ?_
    refine AMx.ent (s' := AS.lst 19 [(0, vc (SC.sl 1 Bytes [] rowS l)), (3, vc (i6 0))] []) (ent_proj [0, 3] []) ?_
    refine AMx.loop (fun mm ss => ∃ (i : Nat), (i ≤ l.length ∧ List.any (List.take i l) (fun s => decide (200 < s.length)) = false) ∧ mm = l.length - i ∧ ss = AS.lst 19 [(0, vc (SC.sl 1 Bytes [] rowS l)), (3, vc (i6 (i : Int)))] []) ⟨0, ?_, rfl, ?_⟩ ?_
    · exact ⟨by omega, rfl⟩
    · rfl
    rintro mm ss ⟨i, ⟨hI, hE⟩, rfl, rfl⟩
    refine AMx.seq ?_
    refine AMx.seq ?_
    refine AMx.region (ces := []) (ks := [0, 3, 10]) (hs := []) (cs := []) (s' := AS.lst 19 [(0, vc (SC.sl 1 Bytes [] rowS l)), (3, vc (i6 (i : Int))), (10, vc (bo (decide ((i : Int) < (List.length l : Int)))))] []) (by kernel_rfl) ?_ ?_
    · exact trivial
    refine AMx.cond (b := decide ((i : Int) < (List.length l : Int))) (by kernel_rfl) (fun hc2 => ?_) (fun hc2 => ?_)
    · try simp only [decide_eq_true_eq, decide_eq_false_iff_not] at hc2
      refine AMx.skip ?_
      refine AMx.seq ?_
      refine AMx.block ?_
      refine AMx.seq ?_
      refine AMx.region (ces := []) (ks := [0, 3, 18]) (hs := []) (cs := [(0 : Int) ≤ (i : Int), (i : Int) < List.length l]) (s' := AS.lst 19 [(0, vc (SC.sl 1 Bytes [] rowS l)), (3, vc (i6 (i : Int))), (18, vc (bo (decide (200 < (List.length ((List.getD l i []) : List UInt8) : Int)))))] []) (by kernel_rfl) ?_ ?_
      · exact ⟨(show (0 : Int) ≤ (i : Int) from (by omega)), (show (i : Int) < List.length l from (by omega))⟩
      refine AMx.cond (b := decide (200 < (List.length ((List.getD l i []) : List UInt8) : Int))) (by kernel_rfl) (fun hc3 => ?_) (fun hc3 => ?_)
      · try simp only [decide_eq_true_eq, decide_eq_false_iff_not] at hc3
        refine AMx.seq ?_
        refine AMx.region (ces := []) (ks := [2]) (hs := []) (cs := []) (s' := AS.lst 19 [(2, vc (i6 1))] []) (by kernel_rfl) ?_ ?_
        · exact trivial
        refine AMx.ret ?_
        exact RetP.mk (r := vc (i6 1)) (by kernel_rfl) (by first | rw [over_1 l (by omega)] | rw [over_2 l i (by omega) (by omega)])
      · try simp only [decide_eq_true_eq, decide_eq_false_iff_not] at hc3
        refine AMx.skip ?_
        refine AMx.blk ?_
        refine AMx.region (ces := []) (ks := [0, 3]) (hs := []) (cs := [InR .i64 ((i : Int) + 1)]) (s' := AS.lst 19 [(0, vc (SC.sl 1 Bytes [] rowS l)), (3, vc (i6 ((i : Int) + 1)))] []) (by kernel_rfl) ?_ ?_
        · exact (show InR .i64 ((i : Int) + 1) from (inR64 (by omega) (by omega)))
        refine AMx.ent_inv (s' := AS.lst 19 [(0, vc (SC.sl 1 Bytes [] rowS l)), (3, vc (i6 ((i : Int) + 1)))] []) (ent_proj [0, 3] []) ?_
        refine AMx.inv ⟨_, ?_, i + 1, ?_, rfl, ?_⟩
        rotate_left
        · exact ⟨by omega, over_step l i (by omega) hE (by omega)⟩
        · rfl
        · omega
    · try simp only [decide_eq_true_eq, decide_eq_false_iff_not] at hc2
      refine AMx.exit ?_
      refine AMx.code_exit ?_
      refine AMx.inv_exit ?_
      refine AMx.blk_exit ?_
      refine AMx.seq ?_
      refine AMx.region (ces := []) (ks := [2]) (hs := []) (cs := []) (s' := AS.lst 19 [(2, vc (i6 0))] []) (by kernel_rfl) ?_ ?_
      · exact trivial
      refine AMx.ret ?_
      exact RetP.mk (r := vc (i6 0)) (by kernel_rfl) (by rw [over_0 l i (by omega) (by omega) hE])

theorem f34_body : Try.f34.body = some (.seq (.region 0 (rg Try.f34 0) false) (.seq (.seq (.region 1 (rg Try.f34 1) false) (.block 0 (.loop (.seq (.seq (.region 2 (rg Try.f34 2) false) (.cond (.tmp 9) (.skip) (.exit 0))) (.seq (.block 1 (.seq (.region 4 (rg Try.f34 4) false) (.cond (.tmp 17) (.seq (.region 5 (rg Try.f34 5) false) (.ret)) (.skip)))) (.region 3 (rg Try.f34 3) false)))))) (.seq (.region 6 (rg Try.f34 6) false) (.ret)))) := by kernel_rfl

set_option maxRecDepth 100000 in
set_option maxHeartbeats 8000000 in
theorem in_c (l : List Int) (n : Int) : Pure Try.prog 34 [tc (SC.sl 1 Int 0 rowI l), tc (i6 n)] (vc (bo (inS l n))) := by
  refine Pure.of_body Try.func34 f34_body (by kernel_rfl) Try.ntmps34 (by kernel_rfl) (by kernel_rfl) ?_
  refine AMx.sl 0 (l := l) rfl (fun hl => ?_)
  simp only [maxLen] at hl
  refine AMx.seq ?_
  refine AMx.region (ces := []) (ks := [0, 1]) (hs := []) (cs := []) (s' := AS.lst 18 [(0, vc (SC.sl 1 Int 0 rowI l)), (1, vc (i6 n))] []) (by kernel_rfl) ?_ ?_
  · exact trivial
  refine AMx.seq ?_
  refine AMx.seq ?_
  refine AMx.region (ces := []) (ks := [0, 1, 5]) (hs := []) (cs := []) (s' := AS.lst 18 [(0, vc (SC.sl 1 Int 0 rowI l)), (1, vc (i6 n)), (5, vc (i6 0))] []) (by kernel_rfl) ?_ ?_
  · exact trivial
  refine AMx.block ?_
  refine AMx.ent (s' := AS.lst 18 [(0, vc (SC.sl 1 Int 0 rowI l)), (1, vc (i6 n)), (5, vc (i6 0))] []) (ent_proj [0, 1, 5] []) ?_
  refine AMx.loop (fun mm ss => ∃ (i : Nat), (i ≤ l.length ∧ List.any (List.take i l) (fun x => decide (x = n)) = false) ∧ mm = l.length - i ∧ ss = AS.lst 18 [(0, vc (SC.sl 1 Int 0 rowI l)), (1, vc (i6 n)), (5, vc (i6 (i : Int)))] []) ⟨0, ?_, rfl, ?_⟩ ?_
  · exact ⟨by omega, rfl⟩
  · rfl
  rintro mm ss ⟨i, ⟨hI, hE⟩, rfl, rfl⟩
  refine AMx.seq ?_
  refine AMx.seq ?_
  refine AMx.region (ces := []) (ks := [0, 1, 5, 9]) (hs := []) (cs := []) (s' := AS.lst 18 [(0, vc (SC.sl 1 Int 0 rowI l)), (1, vc (i6 n)), (5, vc (i6 (i : Int))), (9, vc (bo (decide ((i : Int) < (List.length l : Int)))))] []) (by kernel_rfl) ?_ ?_
  · exact trivial
  refine AMx.cond (b := decide ((i : Int) < (List.length l : Int))) (by kernel_rfl) (fun hc1 => ?_) (fun hc1 => ?_)
  · try simp only [decide_eq_true_eq, decide_eq_false_iff_not] at hc1
    refine AMx.skip ?_
    refine AMx.seq ?_
    refine AMx.block ?_
    refine AMx.seq ?_
    refine AMx.region (ces := []) (ks := [0, 1, 5, 17]) (hs := []) (cs := [(0 : Int) ≤ (i : Int), (i : Int) < List.length l]) (s' := AS.lst 18 [(0, vc (SC.sl 1 Int 0 rowI l)), (1, vc (i6 n)), (5, vc (i6 (i : Int))), (17, vc (bo (decide ((List.getD l i 0) = n))))] []) (by kernel_rfl) ?_ ?_
    · exact ⟨(show (0 : Int) ≤ (i : Int) from (by omega)), (show (i : Int) < List.length l from (by omega))⟩
    refine AMx.cond (b := decide ((List.getD l i 0) = n)) (by kernel_rfl) (fun hc2 => ?_) (fun hc2 => ?_)
    · try simp only [decide_eq_true_eq, decide_eq_false_iff_not] at hc2
      refine AMx.seq ?_
      refine AMx.region (ces := []) (ks := [4]) (hs := []) (cs := []) (s' := AS.lst 18 [(4, vc (bo true))] []) (by kernel_rfl) ?_ ?_
      · exact trivial
      refine AMx.ret ?_
      exact RetP.mk (r := vc (bo true)) (by kernel_rfl) (by rw [show inS l n = true from any_t 0 l _ i (by omega) (decide_eq_true (by assumption))])
    · try simp only [decide_eq_true_eq, decide_eq_false_iff_not] at hc2
      refine AMx.skip ?_
      refine AMx.blk ?_
      refine AMx.region (ces := []) (ks := [0, 1, 5]) (hs := []) (cs := [InR .i64 ((i : Int) + 1)]) (s' := AS.lst 18 [(0, vc (SC.sl 1 Int 0 rowI l)), (1, vc (i6 n)), (5, vc (i6 ((i : Int) + 1)))] []) (by kernel_rfl) ?_ ?_
      · exact (show InR .i64 ((i : Int) + 1) from (inR64 (by omega) (by omega)))
      refine AMx.ent_inv (s' := AS.lst 18 [(0, vc (SC.sl 1 Int 0 rowI l)), (1, vc (i6 n)), (5, vc (i6 ((i : Int) + 1)))] []) (ent_proj [0, 1, 5] []) ?_
      refine AMx.inv ⟨_, ?_, i + 1, ?_, rfl, ?_⟩
      rotate_left
      · exact ⟨by omega, any_step 0 l _ i (by omega) hE (decide_eq_false (by assumption))⟩
      · rfl
      · omega
  · try simp only [decide_eq_true_eq, decide_eq_false_iff_not] at hc1
    refine AMx.exit ?_
    refine AMx.code_exit ?_
    refine AMx.inv_exit ?_
    refine AMx.blk_exit ?_
    refine AMx.seq ?_
    refine AMx.region (ces := []) (ks := [4]) (hs := []) (cs := []) (s' := AS.lst 18 [(4, vc (bo false))] []) (by kernel_rfl) ?_ ?_
    · exact trivial
    refine AMx.ret ?_
    exact RetP.mk (r := vc (bo false)) (by kernel_rfl) (by rw [show inS l n = false from any_f 0 l _ i (by omega) hE])

theorem f21_body : Try.f21.body = some (.seq (.region 0 (rg Try.f21 0) false) (.seq (.region 1 (rg Try.f21 1) false) (.seq (.region 2 (rg Try.f21 2) true) (.ret)))) := by kernel_rfl

set_option maxRecDepth 100000 in
set_option maxHeartbeats 8000000 in
theorem awake_c  : Pure Try.prog 21 [] (vc (bo true)) := by
  refine Pure.of_body Try.func21 f21_body (by kernel_rfl) Try.ntmps21 (by kernel_rfl) (by kernel_rfl) ?_
  refine AMx.seq ?_
  refine AMx.region (ces := []) (ks := []) (hs := []) (cs := []) (s' := AS.lst 38 [] []) (by kernel_rfl) ?_ ?_
  · exact trivial
  refine AMx.seq ?_
  refine AMx.region (ces := [(0, CE.obj (AObj.grow 9 1 Bytes [] rowS [[97], [97]])), (1, CE.call [2] [] (vc (SC.sl 1 Int 0 rowI (shardsS 8 [[97], [97]]))) [])]) (ks := [1]) (hs := []) (cs := [flat 1 rowS [[97], [97]] = [.s (st [97]), .s (st [97])], List.length ([[97], [97]] : List Bytes) = 2, Spec Try.prog 30 [tc (i6 8), tc (SC.sl 1 Bytes [] rowS [[97], [97]])] (ofH []) (vc (SC.sl 1 Int 0 rowI (shardsS 8 [[97], [97]]))) (ofH [])]) (s' := AS.lst 38 [(1, vc (SC.sl 1 Int 0 rowI (shardsS 8 [[97], [97]])))] []) (by kernel_rfl) ?_ ?_
  · exact ⟨rfl, rfl, (Shards_c 8 [[97], [97]])⟩
  refine AMx.seq ?_
  refine AMx.region_draw (ces := [(0, CE.call [] [] (vc (u6 (sumS start [97]))) []), (3, CE.call [] [] (vc (u6 (sumS start []))) []), (15, CE.call [] [] (vc (i6 (shardS [97] 8))) []), (19, CE.call [] [] (vc (SC.sl 1 Int 0 rowI (allS 3))) []), (24, CE.call [] [] (vc (u6 (sumS start [97]))) []), (25, CE.call [] [] (vc (u6 (undoS (sumS start [97]) 97))) []), (29, CE.call [] [] (vc (i6 (shardS [97] 9))) [])]) (ros := []) (ks := [0]) (hs := []) (cs := [Spec Try.prog 24 [tc (st [97])] (ofH []) (vc (u6 (sumS start [97]))) (ofH []), ((decide (sumS start [97] = 12638187200555641996)) = true) → allP [Spec Try.prog 24 [tc (st [])] (ofH []) (vc (u6 (sumS start []))) (ofH [])], ((decide (sumS start [97] = 12638187200555641996)) = true) → allP [(decide (sumS start [97] = 12638187200555641996)) = true], (decide (sumS start [97] = 12638187200555641996)) = true → allP [(decide (sumS start [97] = 12638187200555641996)) = true], (((decide (sumS start [97] = 12638187200555641996)) && (decide ((14695981039346656037 : Int) = sumS start []))) = true) → allP [], (((decide (sumS start [97] = 12638187200555641996)) && (decide ((14695981039346656037 : Int) = sumS start []))) = true) → allP [((decide (sumS start [97] = 12638187200555641996)) && (decide ((14695981039346656037 : Int) = sumS start []))) = true], (((decide (sumS start [97] = 12638187200555641996)) && (decide ((14695981039346656037 : Int) = sumS start []))) = true) → allP [((decide (sumS start [97] = 12638187200555641996)) && (decide ((14695981039346656037 : Int) = sumS start []))) = true], ((decide (sumS start [97] = 12638187200555641996)) && (decide ((14695981039346656037 : Int) = sumS start []))) = true → allP [((decide (sumS start [97] = 12638187200555641996)) && (decide ((14695981039346656037 : Int) = sumS start []))) = true], ((((decide (sumS start [97] = 12638187200555641996)) && (decide ((14695981039346656037 : Int) = sumS start []))) && (decide ((List.length (shardsS 8 [[97], [97]] : List Int) : Int) = 1))) = true) → allP [], ((((decide (sumS start [97] = 12638187200555641996)) && (decide ((14695981039346656037 : Int) = sumS start []))) && (decide ((List.length (shardsS 8 [[97], [97]] : List Int) : Int) = 1))) = true) → allP [(((decide (sumS start [97] = 12638187200555641996)) && (decide ((14695981039346656037 : Int) = sumS start []))) && (decide ((List.length (shardsS 8 [[97], [97]] : List Int) : Int) = 1))) = true, (0 : Int) ≤ 0, (0 : Int) < List.length (shardsS 8 [[97], [97]] : List Int)], ((((decide (sumS start [97] = 12638187200555641996)) && (decide ((14695981039346656037 : Int) = sumS start []))) && (decide ((List.length (shardsS 8 [[97], [97]] : List Int) : Int) = 1))) = true) → allP [(((decide (sumS start [97] = 12638187200555641996)) && (decide ((14695981039346656037 : Int) = sumS start []))) && (decide ((List.length (shardsS 8 [[97], [97]] : List Int) : Int) = 1))) = true], ((((decide (sumS start [97] = 12638187200555641996)) && (decide ((14695981039346656037 : Int) = sumS start []))) && (decide ((List.length (shardsS 8 [[97], [97]] : List Int) : Int) = 1))) = true) → allP [Spec Try.prog 26 [tc (st [97]), tc (i6 8)] (ofH []) (vc (i6 (shardS [97] 8))) (ofH [])], ((((decide (sumS start [97] = 12638187200555641996)) && (decide ((14695981039346656037 : Int) = sumS start []))) && (decide ((List.length (shardsS 8 [[97], [97]] : List Int) : Int) = 1))) = true) → allP [(((decide (sumS start [97] = 12638187200555641996)) && (decide ((14695981039346656037 : Int) = sumS start []))) && (decide ((List.length (shardsS 8 [[97], [97]] : List Int) : Int) = 1))) = true, (((decide (sumS start [97] = 12638187200555641996)) && (decide ((14695981039346656037 : Int) = sumS start []))) && (decide ((List.length (shardsS 8 [[97], [97]] : List Int) : Int) = 1))) = true], (((decide (sumS start [97] = 12638187200555641996)) && (decide ((14695981039346656037 : Int) = sumS start []))) && (decide ((List.length (shardsS 8 [[97], [97]] : List Int) : Int) = 1))) = true → allP [(((decide (sumS start [97] = 12638187200555641996)) && (decide ((14695981039346656037 : Int) = sumS start []))) && (decide ((List.length (shardsS 8 [[97], [97]] : List Int) : Int) = 1))) = true], (((((decide (sumS start [97] = 12638187200555641996)) && (decide ((14695981039346656037 : Int) = sumS start []))) && (decide ((List.length (shardsS 8 [[97], [97]] : List Int) : Int) = 1))) && (decide ((List.getD (shardsS 8 [[97], [97]]) 0 0) = shardS [97] 8))) = true) → allP [Spec Try.prog 29 [tc (i6 3)] (ofH []) (vc (SC.sl 1 Int 0 rowI (allS 3))) (ofH [])], (((((decide (sumS start [97] = 12638187200555641996)) && (decide ((14695981039346656037 : Int) = sumS start []))) && (decide ((List.length (shardsS 8 [[97], [97]] : List Int) : Int) = 1))) && (decide ((List.getD (shardsS 8 [[97], [97]]) 0 0) = shardS [97] 8))) = true) → allP [((((decide (sumS start [97] = 12638187200555641996)) && (decide ((14695981039346656037 : Int) = sumS start []))) && (decide ((List.length (shardsS 8 [[97], [97]] : List Int) : Int) = 1))) && (decide ((List.getD (shardsS 8 [[97], [97]]) 0 0) = shardS [97] 8))) = true], (((((decide (sumS start [97] = 12638187200555641996)) && (decide ((14695981039346656037 : Int) = sumS start []))) && (decide ((List.length (shardsS 8 [[97], [97]] : List Int) : Int) = 1))) && (decide ((List.getD (shardsS 8 [[97], [97]]) 0 0) = shardS [97] 8))) = true) → allP [((((decide (sumS start [97] = 12638187200555641996)) && (decide ((14695981039346656037 : Int) = sumS start []))) && (decide ((List.length (shardsS 8 [[97], [97]] : List Int) : Int) = 1))) && (decide ((List.getD (shardsS 8 [[97], [97]]) 0 0) = shardS [97] 8))) = true], ((((decide (sumS start [97] = 12638187200555641996)) && (decide ((14695981039346656037 : Int) = sumS start []))) && (decide ((List.length (shardsS 8 [[97], [97]] : List Int) : Int) = 1))) && (decide ((List.getD (shardsS 8 [[97], [97]]) 0 0) = shardS [97] 8))) = true → allP [((((decide (sumS start [97] = 12638187200555641996)) && (decide ((14695981039346656037 : Int) = sumS start []))) && (decide ((List.length (shardsS 8 [[97], [97]] : List Int) : Int) = 1))) && (decide ((List.getD (shardsS 8 [[97], [97]]) 0 0) = shardS [97] 8))) = true], ((((((decide (sumS start [97] = 12638187200555641996)) && (decide ((14695981039346656037 : Int) = sumS start []))) && (decide ((List.length (shardsS 8 [[97], [97]] : List Int) : Int) = 1))) && (decide ((List.getD (shardsS 8 [[97], [97]]) 0 0) = shardS [97] 8))) && (decide ((List.length (allS 3 : List Int) : Int) = 3))) = true) → allP [Spec Try.prog 24 [tc (st [97])] (ofH []) (vc (u6 (sumS start [97]))) (ofH [])], ((((((decide (sumS start [97] = 12638187200555641996)) && (decide ((14695981039346656037 : Int) = sumS start []))) && (decide ((List.length (shardsS 8 [[97], [97]] : List Int) : Int) = 1))) && (decide ((List.getD (shardsS 8 [[97], [97]]) 0 0) = shardS [97] 8))) && (decide ((List.length (allS 3 : List Int) : Int) = 3))) = true) → allP [(((((decide (sumS start [97] = 12638187200555641996)) && (decide ((14695981039346656037 : Int) = sumS start []))) && (decide ((List.length (shardsS 8 [[97], [97]] : List Int) : Int) = 1))) && (decide ((List.getD (shardsS 8 [[97], [97]]) 0 0) = shardS [97] 8))) && (decide ((List.length (allS 3 : List Int) : Int) = 3))) = true, Spec Try.prog 33 [tc (u6 (sumS start [97])), tc (u8 97)] (ofH []) (vc (u6 (undoS (sumS start [97]) 97))) (ofH [])], ((((((decide (sumS start [97] = 12638187200555641996)) && (decide ((14695981039346656037 : Int) = sumS start []))) && (decide ((List.length (shardsS 8 [[97], [97]] : List Int) : Int) = 1))) && (decide ((List.getD (shardsS 8 [[97], [97]]) 0 0) = shardS [97] 8))) && (decide ((List.length (allS 3 : List Int) : Int) = 3))) = true) → allP [(((((decide (sumS start [97] = 12638187200555641996)) && (decide ((14695981039346656037 : Int) = sumS start []))) && (decide ((List.length (shardsS 8 [[97], [97]] : List Int) : Int) = 1))) && (decide ((List.getD (shardsS 8 [[97], [97]]) 0 0) = shardS [97] 8))) && (decide ((List.length (allS 3 : List Int) : Int) = 3))) = true], (((((decide (sumS start [97] = 12638187200555641996)) && (decide ((14695981039346656037 : Int) = sumS start []))) && (decide ((List.length (shardsS 8 [[97], [97]] : List Int) : Int) = 1))) && (decide ((List.getD (shardsS 8 [[97], [97]]) 0 0) = shardS [97] 8))) && (decide ((List.length (allS 3 : List Int) : Int) = 3))) = true → allP [(((((decide (sumS start [97] = 12638187200555641996)) && (decide ((14695981039346656037 : Int) = sumS start []))) && (decide ((List.length (shardsS 8 [[97], [97]] : List Int) : Int) = 1))) && (decide ((List.getD (shardsS 8 [[97], [97]]) 0 0) = shardS [97] 8))) && (decide ((List.length (allS 3 : List Int) : Int) = 3))) = true], (((((((decide (sumS start [97] = 12638187200555641996)) && (decide ((14695981039346656037 : Int) = sumS start []))) && (decide ((List.length (shardsS 8 [[97], [97]] : List Int) : Int) = 1))) && (decide ((List.getD (shardsS 8 [[97], [97]]) 0 0) = shardS [97] 8))) && (decide ((List.length (allS 3 : List Int) : Int) = 3))) && (decide (undoS (sumS start [97]) 97 = 14695981039346656037))) = true) → allP [Spec Try.prog 26 [tc (st [97]), tc (i6 9)] (ofH []) (vc (i6 (shardS [97] 9))) (ofH [])], (((((((decide (sumS start [97] = 12638187200555641996)) && (decide ((14695981039346656037 : Int) = sumS start []))) && (decide ((List.length (shardsS 8 [[97], [97]] : List Int) : Int) = 1))) && (decide ((List.getD (shardsS 8 [[97], [97]]) 0 0) = shardS [97] 8))) && (decide ((List.length (allS 3 : List Int) : Int) = 3))) && (decide (undoS (sumS start [97]) 97 = 14695981039346656037))) = true) → allP [((((((decide (sumS start [97] = 12638187200555641996)) && (decide ((14695981039346656037 : Int) = sumS start []))) && (decide ((List.length (shardsS 8 [[97], [97]] : List Int) : Int) = 1))) && (decide ((List.getD (shardsS 8 [[97], [97]]) 0 0) = shardS [97] 8))) && (decide ((List.length (allS 3 : List Int) : Int) = 3))) && (decide (undoS (sumS start [97]) 97 = 14695981039346656037))) = true], ((((((decide (sumS start [97] = 12638187200555641996)) && (decide ((14695981039346656037 : Int) = sumS start []))) && (decide ((List.length (shardsS 8 [[97], [97]] : List Int) : Int) = 1))) && (decide ((List.getD (shardsS 8 [[97], [97]]) 0 0) = shardS [97] 8))) && (decide ((List.length (allS 3 : List Int) : Int) = 3))) && (decide (undoS (sumS start [97]) 97 = 14695981039346656037))) = true → allP [((((((decide (sumS start [97] = 12638187200555641996)) && (decide ((14695981039346656037 : Int) = sumS start []))) && (decide ((List.length (shardsS 8 [[97], [97]] : List Int) : Int) = 1))) && (decide ((List.getD (shardsS 8 [[97], [97]]) 0 0) = shardS [97] 8))) && (decide ((List.length (allS 3 : List Int) : Int) = 3))) && (decide (undoS (sumS start [97]) 97 = 14695981039346656037))) = true], (((((((decide (sumS start [97] = 12638187200555641996)) && (decide ((14695981039346656037 : Int) = sumS start []))) && (decide ((List.length (shardsS 8 [[97], [97]] : List Int) : Int) = 1))) && (decide ((List.getD (shardsS 8 [[97], [97]]) 0 0) = shardS [97] 8))) && (decide ((List.length (allS 3 : List Int) : Int) = 3))) && (decide (undoS (sumS start [97]) 97 = 14695981039346656037))) && (decide (shardS [97] 9 = 0))) = false → allP []]) (s' := AS.lst 38 [(0, vc (bo ((((((((decide (sumS start [97] = 12638187200555641996)) && (decide ((14695981039346656037 : Int) = sumS start []))) && (decide ((List.length (shardsS 8 [[97], [97]] : List Int) : Int) = 1))) && (decide ((List.getD (shardsS 8 [[97], [97]]) 0 0) = shardS [97] 8))) && (decide ((List.length (allS 3 : List Int) : Int) = 3))) && (decide (undoS (sumS start [97]) 97 = 14695981039346656037))) && (decide (shardS [97] 9 = 0))) || false)))] []) mixed (by kernel_rfl) ?_ ?_
  · exact ⟨(Sum_c [97]), (fun hp => by have hq := hp; (try simp only [decide_eq_true_eq, decide_eq_false_iff_not, Bool.and_eq_true, Bool.or_eq_true, Bool.and_eq_false_iff, Bool.or_eq_false_iff, Bool.not_eq_true', Bool.not_eq_false', Bool.not_eq_true, Bool.not_eq_false] at hq); exact (Sum_c [])), (fun hp => hp), (fun hp2 => (by first | exact hp2 | exact ⟨hp, hp2⟩)), (fun _ => trivial), (fun hp => hp), (fun hp => hp), (fun hp2 => (by first | exact hp2 | exact ⟨hp, hp2⟩)), (fun _ => trivial), (fun hp => by have hq := hp; (try simp only [decide_eq_true_eq, decide_eq_false_iff_not, Bool.and_eq_true, Bool.or_eq_true, Bool.and_eq_false_iff, Bool.or_eq_false_iff, Bool.not_eq_true', Bool.not_eq_false', Bool.not_eq_true, Bool.not_eq_false] at hq); exact ⟨hp, (show (0 : Int) ≤ 0 from (by first | omega | decide +kernel)), (show (0 : Int) < List.length (shardsS 8 [[97], [97]] : List Int) from (by first | omega | decide +kernel))⟩), (fun hp => hp), (fun hp => by have hq := hp; (try simp only [decide_eq_true_eq, decide_eq_false_iff_not, Bool.and_eq_true, Bool.or_eq_true, Bool.and_eq_false_iff, Bool.or_eq_false_iff, Bool.not_eq_true', Bool.not_eq_false', Bool.not_eq_true, Bool.not_eq_false] at hq); exact (Shard_c [97] 8)), (fun hp => ⟨hp, hp⟩), (fun hp2 => (by first | exact hp2 | exact ⟨hp, hp2⟩)), (fun hp => by have hq := hp; (try simp only [decide_eq_true_eq, decide_eq_false_iff_not, Bool.and_eq_true, Bool.or_eq_true, Bool.and_eq_false_iff, Bool.or_eq_false_iff, Bool.not_eq_true', Bool.not_eq_false', Bool.not_eq_true, Bool.not_eq_false] at hq); exact (All_c 3)), (fun hp => hp), (fun hp => hp), (fun hp2 => (by first | exact hp2 | exact ⟨hp, hp2⟩)), (fun hp => by have hq := hp; (try simp only [decide_eq_true_eq, decide_eq_false_iff_not, Bool.and_eq_true, Bool.or_eq_true, Bool.and_eq_false_iff, Bool.or_eq_false_iff, Bool.not_eq_true', Bool.not_eq_false', Bool.not_eq_true, Bool.not_eq_false] at hq); exact (Sum_c [97])), (fun hp => by have hq := hp; (try simp only [decide_eq_true_eq, decide_eq_false_iff_not, Bool.and_eq_true, Bool.or_eq_true, Bool.and_eq_false_iff, Bool.or_eq_false_iff, Bool.not_eq_true', Bool.not_eq_false', Bool.not_eq_true, Bool.not_eq_false] at hq); exact ⟨hp, (Undo_c (sumS start [97]) 97)⟩), (fun hp => hp), (fun hp2 => (by first | exact hp2 | exact ⟨hp, hp2⟩)), (fun hp => by have hq := hp; (try simp only [decide_eq_true_eq, decide_eq_false_iff_not, Bool.and_eq_true, Bool.or_eq_true, Bool.and_eq_false_iff, Bool.or_eq_false_iff, Bool.not_eq_true', Bool.not_eq_false', Bool.not_eq_true, Bool.not_eq_false] at hq); exact (Shard_c [97] 9)), (fun hp => hp), (fun hp2 => (by first | exact hp2 | exact ⟨hp, hp2⟩)), (fun _ => trivial)⟩
  refine AMx.ret ?_
  exact RetP.mk (r := vc (bo ((((((((decide (sumS start [97] = 12638187200555641996)) && (decide ((14695981039346656037 : Int) = sumS start []))) && (decide ((List.length (shardsS 8 [[97], [97]] : List Int) : Int) = 1))) && (decide ((List.getD (shardsS 8 [[97], [97]]) 0 0) = shardS [97] 8))) && (decide ((List.length (allS 3 : List Int) : Int) = 3))) && (decide (undoS (sumS start [97]) 97 = 14695981039346656037))) && (decide (shardS [97] 9 = 0))) || false))) (by kernel_rfl) (by kernel_rfl)

theorem f3_body : Try.f3.body = some (.seq (.region 0 (rg Try.f3 0) false) (.seq (.seq (.region 1 (rg Try.f3 1) false) (.cond (.tmp 9) (.seq (.region 2 (rg Try.f3 2) false) (.ret)) (.skip))) (.seq (.region 3 (rg Try.f3 3) false) (.ret)))) := by kernel_rfl

set_option maxRecDepth 100000 in
set_option maxHeartbeats 8000000 in
theorem FnvSums_c (a0 : Int) (a1 : Bytes) (a2 : Int) : Pure Try.prog 3 [tc (u6 a0), tc (st a1), tc (i6 a2)] (vc (bo true)) := by
  refine Pure.of_body Try.func3 f3_body (by kernel_rfl) Try.ntmps3 (by kernel_rfl) (by kernel_rfl) ?_
  refine AMx.seq ?_
  refine AMx.region (ces := []) (ks := [0, 1, 2]) (hs := []) (cs := []) (s' := AS.lst 41 [(0, vc (u6 a0)), (1, vc (st a1)), (2, vc (i6 a2))] []) (by kernel_rfl) ?_ ?_
  · exact trivial
  refine AMx.seq ?_
  refine AMx.seq ?_
  refine AMx.region (ces := []) (ks := [0, 1, 2, 9]) (hs := []) (cs := []) (s' := AS.lst 41 [(0, vc (u6 a0)), (1, vc (st a1)), (2, vc (i6 a2)), (9, vc (bo (decide (300 < (List.length a1 : Int)))))] []) (by kernel_rfl) ?_ ?_
  · exact trivial
  refine AMx.cond (b := decide (300 < (List.length a1 : Int))) (by kernel_rfl) (fun hc1 => ?_) (fun hc1 => ?_)
  · try simp only [decide_eq_true_eq, decide_eq_false_iff_not] at hc1
    refine AMx.seq ?_
    refine AMx.region (ces := [(0, CE.call [] [] (vc (bo true)) [])]) (ks := [6]) (hs := []) (cs := [Spec Try.prog 21 [] (ofH []) (vc (bo true)) (ofH [])]) (s' := AS.lst 41 [(6, vc (bo true))] []) (by kernel_rfl) ?_ ?_
    · exact (awake_c)
    refine AMx.ret ?_
    exact RetP.mk (r := vc (bo true)) (by kernel_rfl) rfl
  · try simp only [decide_eq_true_eq, decide_eq_false_iff_not] at hc1
    refine AMx.skip ?_
    refine AMx.seq ?_
    refine AMx.region (ces := [(4, CE.call [] [] (vc (u6 (addS a0 (IntKind.wrap .u8 (IntKind.wrap .u64 (Int.tdiv a0 256)))))) []), (9, CE.call [] [] (vc (u6 (addS a0 (IntKind.wrap .u8 (IntKind.wrap .u64 (Int.tdiv a0 256)))))) []), (13, CE.call [] [] (vc (u6 (sumS start a1))) []), (15, CE.call [] [] (vc (u6 (sumS start a1))) []), (21, CE.call [] [] (vc (i6 (shardS a1 a2))) []), (24, CE.call [] [] (vc (i6 (shardS a1 a2))) []), (28, CE.call [] [] (vc (bo true)) [])]) (ks := [6]) (hs := []) (cs := [(256 : Int) ≠ 0, Spec Try.prog 22 [tc (u6 a0), tc (u8 (IntKind.wrap .u8 (IntKind.wrap .u64 (Int.tdiv a0 256))))] (ofH []) (vc (u6 (addS a0 (IntKind.wrap .u8 (IntKind.wrap .u64 (Int.tdiv a0 256)))))) (ofH []), (256 : Int) ≠ 0, Spec Try.prog 23 [tc (u6 a0), tc (u8 (IntKind.wrap .u8 (IntKind.wrap .u64 (Int.tdiv a0 256))))] (ofH []) (vc (u6 (addS a0 (IntKind.wrap .u8 (IntKind.wrap .u64 (Int.tdiv a0 256)))))) (ofH []), ((decide (addS a0 (IntKind.wrap .u8 (IntKind.wrap .u64 (Int.tdiv a0 256))) = addS a0 (IntKind.wrap .u8 (IntKind.wrap .u64 (Int.tdiv a0 256))))) = true) → allP [], ((decide (addS a0 (IntKind.wrap .u8 (IntKind.wrap .u64 (Int.tdiv a0 256))) = addS a0 (IntKind.wrap .u8 (IntKind.wrap .u64 (Int.tdiv a0 256))))) = true) → allP [(decide (addS a0 (IntKind.wrap .u8 (IntKind.wrap .u64 (Int.tdiv a0 256))) = addS a0 (IntKind.wrap .u8 (IntKind.wrap .u64 (Int.tdiv a0 256))))) = true, Spec Try.prog 24 [tc (st a1)] (ofH []) (vc (u6 (sumS start a1))) (ofH [])], ((decide (addS a0 (IntKind.wrap .u8 (IntKind.wrap .u64 (Int.tdiv a0 256))) = addS a0 (IntKind.wrap .u8 (IntKind.wrap .u64 (Int.tdiv a0 256))))) = true) → allP [], ((decide (addS a0 (IntKind.wrap .u8 (IntKind.wrap .u64 (Int.tdiv a0 256))) = addS a0 (IntKind.wrap .u8 (IntKind.wrap .u64 (Int.tdiv a0 256))))) = true) → allP [(decide (addS a0 (IntKind.wrap .u8 (IntKind.wrap .u64 (Int.tdiv a0 256))) = addS a0 (IntKind.wrap .u8 (IntKind.wrap .u64 (Int.tdiv a0 256))))) = true, Spec Try.prog 25 [tc (st a1)] (ofH []) (vc (u6 (sumS start a1))) (ofH [])], ((decide (addS a0 (IntKind.wrap .u8 (IntKind.wrap .u64 (Int.tdiv a0 256))) = addS a0 (IntKind.wrap .u8 (IntKind.wrap .u64 (Int.tdiv a0 256))))) = true) → allP [(decide (addS a0 (IntKind.wrap .u8 (IntKind.wrap .u64 (Int.tdiv a0 256))) = addS a0 (IntKind.wrap .u8 (IntKind.wrap .u64 (Int.tdiv a0 256))))) = true, (decide (addS a0 (IntKind.wrap .u8 (IntKind.wrap .u64 (Int.tdiv a0 256))) = addS a0 (IntKind.wrap .u8 (IntKind.wrap .u64 (Int.tdiv a0 256))))) = true], (decide (addS a0 (IntKind.wrap .u8 (IntKind.wrap .u64 (Int.tdiv a0 256))) = addS a0 (IntKind.wrap .u8 (IntKind.wrap .u64 (Int.tdiv a0 256))))) = true → allP [(decide (addS a0 (IntKind.wrap .u8 (IntKind.wrap .u64 (Int.tdiv a0 256))) = addS a0 (IntKind.wrap .u8 (IntKind.wrap .u64 (Int.tdiv a0 256))))) = true], (((decide (addS a0 (IntKind.wrap .u8 (IntKind.wrap .u64 (Int.tdiv a0 256))) = addS a0 (IntKind.wrap .u8 (IntKind.wrap .u64 (Int.tdiv a0 256))))) && (decide (sumS start a1 = sumS start a1))) = true) → allP [], (((decide (addS a0 (IntKind.wrap .u8 (IntKind.wrap .u64 (Int.tdiv a0 256))) = addS a0 (IntKind.wrap .u8 (IntKind.wrap .u64 (Int.tdiv a0 256))))) && (decide (sumS start a1 = sumS start a1))) = true) → allP [], (((decide (addS a0 (IntKind.wrap .u8 (IntKind.wrap .u64 (Int.tdiv a0 256))) = addS a0 (IntKind.wrap .u8 (IntKind.wrap .u64 (Int.tdiv a0 256))))) && (decide (sumS start a1 = sumS start a1))) = true) → allP [((decide (addS a0 (IntKind.wrap .u8 (IntKind.wrap .u64 (Int.tdiv a0 256))) = addS a0 (IntKind.wrap .u8 (IntKind.wrap .u64 (Int.tdiv a0 256))))) && (decide (sumS start a1 = sumS start a1))) = true, ((decide (addS a0 (IntKind.wrap .u8 (IntKind.wrap .u64 (Int.tdiv a0 256))) = addS a0 (IntKind.wrap .u8 (IntKind.wrap .u64 (Int.tdiv a0 256))))) && (decide (sumS start a1 = sumS start a1))) = true, Spec Try.prog 26 [tc (st a1), tc (i6 a2)] (ofH []) (vc (i6 (shardS a1 a2))) (ofH [])], (((decide (addS a0 (IntKind.wrap .u8 (IntKind.wrap .u64 (Int.tdiv a0 256))) = addS a0 (IntKind.wrap .u8 (IntKind.wrap .u64 (Int.tdiv a0 256))))) && (decide (sumS start a1 = sumS start a1))) = true) → allP [], (((decide (addS a0 (IntKind.wrap .u8 (IntKind.wrap .u64 (Int.tdiv a0 256))) = addS a0 (IntKind.wrap .u8 (IntKind.wrap .u64 (Int.tdiv a0 256))))) && (decide (sumS start a1 = sumS start a1))) = true) → allP [], (((decide (addS a0 (IntKind.wrap .u8 (IntKind.wrap .u64 (Int.tdiv a0 256))) = addS a0 (IntKind.wrap .u8 (IntKind.wrap .u64 (Int.tdiv a0 256))))) && (decide (sumS start a1 = sumS start a1))) = true) → allP [((decide (addS a0 (IntKind.wrap .u8 (IntKind.wrap .u64 (Int.tdiv a0 256))) = addS a0 (IntKind.wrap .u8 (IntKind.wrap .u64 (Int.tdiv a0 256))))) && (decide (sumS start a1 = sumS start a1))) = true, ((decide (addS a0 (IntKind.wrap .u8 (IntKind.wrap .u64 (Int.tdiv a0 256))) = addS a0 (IntKind.wrap .u8 (IntKind.wrap .u64 (Int.tdiv a0 256))))) && (decide (sumS start a1 = sumS start a1))) = true, Spec Try.prog 27 [tc (st a1), tc (i6 a2)] (ofH []) (vc (i6 (shardS a1 a2))) (ofH [])], (((decide (addS a0 (IntKind.wrap .u8 (IntKind.wrap .u64 (Int.tdiv a0 256))) = addS a0 (IntKind.wrap .u8 (IntKind.wrap .u64 (Int.tdiv a0 256))))) && (decide (sumS start a1 = sumS start a1))) = true) → allP [((decide (addS a0 (IntKind.wrap .u8 (IntKind.wrap .u64 (Int.tdiv a0 256))) = addS a0 (IntKind.wrap .u8 (IntKind.wrap .u64 (Int.tdiv a0 256))))) && (decide (sumS start a1 = sumS start a1))) = true, ((decide (addS a0 (IntKind.wrap .u8 (IntKind.wrap .u64 (Int.tdiv a0 256))) = addS a0 (IntKind.wrap .u8 (IntKind.wrap .u64 (Int.tdiv a0 256))))) && (decide (sumS start a1 = sumS start a1))) = true], ((decide (addS a0 (IntKind.wrap .u8 (IntKind.wrap .u64 (Int.tdiv a0 256))) = addS a0 (IntKind.wrap .u8 (IntKind.wrap .u64 (Int.tdiv a0 256))))) && (decide (sumS start a1 = sumS start a1))) = true → allP [((decide (addS a0 (IntKind.wrap .u8 (IntKind.wrap .u64 (Int.tdiv a0 256))) = addS a0 (IntKind.wrap .u8 (IntKind.wrap .u64 (Int.tdiv a0 256))))) && (decide (sumS start a1 = sumS start a1))) = true], ((((decide (addS a0 (IntKind.wrap .u8 (IntKind.wrap .u64 (Int.tdiv a0 256))) = addS a0 (IntKind.wrap .u8 (IntKind.wrap .u64 (Int.tdiv a0 256))))) && (decide (sumS start a1 = sumS start a1))) && (decide (shardS a1 a2 = shardS a1 a2))) = true) → allP [Spec Try.prog 21 [] (ofH []) (vc (bo true)) (ofH [])], (((decide (addS a0 (IntKind.wrap .u8 (IntKind.wrap .u64 (Int.tdiv a0 256))) = addS a0 (IntKind.wrap .u8 (IntKind.wrap .u64 (Int.tdiv a0 256))))) && (decide (sumS start a1 = sumS start a1))) && (decide (shardS a1 a2 = shardS a1 a2))) = true → allP [(((decide (addS a0 (IntKind.wrap .u8 (IntKind.wrap .u64 (Int.tdiv a0 256))) = addS a0 (IntKind.wrap .u8 (IntKind.wrap .u64 (Int.tdiv a0 256))))) && (decide (sumS start a1 = sumS start a1))) && (decide (shardS a1 a2 = shardS a1 a2))) = true]]) (s' := AS.lst 41 [(6, vc (bo ((((decide (addS a0 (IntKind.wrap .u8 (IntKind.wrap .u64 (Int.tdiv a0 256))) = addS a0 (IntKind.wrap .u8 (IntKind.wrap .u64 (Int.tdiv a0 256))))) && (decide (sumS start a1 = sumS start a1))) && (decide (shardS a1 a2 = shardS a1 a2))) && true)))] []) (by kernel_rfl) ?_ ?_
    · exact ⟨(show (256 : Int) ≠ 0 from (by omega)), (Add_c a0 (IntKind.wrap .u8 (IntKind.wrap .u64 (Int.tdiv a0 256)))), (show (256 : Int) ≠ 0 from (by omega)), (RAdd_c a0 (IntKind.wrap .u8 (IntKind.wrap .u64 (Int.tdiv a0 256)))), (fun _ => trivial), (fun hp => by have hq := hp; (try simp only [decide_eq_true_eq, decide_eq_false_iff_not, Bool.and_eq_true, Bool.or_eq_true, Bool.and_eq_false_iff, Bool.or_eq_false_iff, Bool.not_eq_true', Bool.not_eq_false', Bool.not_eq_true, Bool.not_eq_false] at hq); exact ⟨hp, (Sum_c a1)⟩), (fun _ => trivial), (fun hp => by have hq := hp; (try simp only [decide_eq_true_eq, decide_eq_false_iff_not, Bool.and_eq_true, Bool.or_eq_true, Bool.and_eq_false_iff, Bool.or_eq_false_iff, Bool.not_eq_true', Bool.not_eq_false', Bool.not_eq_true, Bool.not_eq_false] at hq); exact ⟨hp, (RSum_c a1)⟩), (fun hp => ⟨hp, hp⟩), (fun hp2 => (by first | exact hp2 | exact ⟨hp, hp2⟩)), (fun _ => trivial), (fun _ => trivial), (fun hp => by have hq := hp; (try simp only [decide_eq_true_eq, decide_eq_false_iff_not, Bool.and_eq_true, Bool.or_eq_true, Bool.and_eq_false_iff, Bool.or_eq_false_iff, Bool.not_eq_true', Bool.not_eq_false', Bool.not_eq_true, Bool.not_eq_false] at hq); exact ⟨hp, hp, (Shard_c a1 a2)⟩), (fun _ => trivial), (fun _ => trivial), (fun hp => by have hq := hp; (try simp only [decide_eq_true_eq, decide_eq_false_iff_not, Bool.and_eq_true, Bool.or_eq_true, Bool.and_eq_false_iff, Bool.or_eq_false_iff, Bool.not_eq_true', Bool.not_eq_false', Bool.not_eq_true, Bool.not_eq_false] at hq); exact ⟨hp, hp, (RShard_c a1 a2)⟩), (fun hp => ⟨hp, hp⟩), (fun hp2 => (by first | exact hp2 | exact ⟨hp, hp2⟩)), (fun hp => by have hq := hp; (try simp only [decide_eq_true_eq, decide_eq_false_iff_not, Bool.and_eq_true, Bool.or_eq_true, Bool.and_eq_false_iff, Bool.or_eq_false_iff, Bool.not_eq_true', Bool.not_eq_false', Bool.not_eq_true, Bool.not_eq_false] at hq); exact (awake_c)), (fun hp2 => (by first | exact hp2 | exact ⟨hp, hp2⟩))⟩
    refine AMx.ret ?_
    exact RetP.mk (r := vc (bo ((((decide (addS a0 (IntKind.wrap .u8 (IntKind.wrap .u64 (Int.tdiv a0 256))) = addS a0 (IntKind.wrap .u8 (IntKind.wrap .u64 (Int.tdiv a0 256))))) && (decide (sumS start a1 = sumS start a1))) && (decide (shardS a1 a2 = shardS a1 a2))) && true))) (by kernel_rfl) (by simp)

theorem f4_body : Try.f4.body = some (.seq (.region 0 (rg Try.f4 0) false) (.seq (.seq (.region 1 (rg Try.f4 1) false) (.cond (.tmp 9) (.seq (.region 2 (rg Try.f4 2) false) (.ret)) (.skip))) (.seq (.region 3 (rg Try.f4 3) false) (.seq (.seq (.region 4 (rg Try.f4 4) false) (.cond (.tmp 18) (.seq (.region 5 (rg Try.f4 5) false) (.ret)) (.skip))) (.seq (.seq (.region 6 (rg Try.f4 6) false) (.block 0 (.loop (.seq (.seq (.region 7 (rg Try.f4 7) false) (.cond (.tmp 35) (.skip) (.exit 0))) (.seq (.block 1 (.seq (.region 9 (rg Try.f4 9) false) (.cond (.tmp 43) (.seq (.region 10 (rg Try.f4 10) false) (.ret)) (.skip)))) (.region 8 (rg Try.f4 8) false)))))) (.seq (.region 11 (rg Try.f4 11) false) (.ret))))))) := by kernel_rfl

set_option maxRecDepth 100000 in
set_option maxHeartbeats 8000000 in
theorem FnvShards_c (n : Int) (l : List Bytes) : Pure Try.prog 4 [tc (i6 n), tc (SC.sl 1 Bytes [] rowS l)] (vc (bo true)) := by
  refine Pure.of_body Try.func4 f4_body (by kernel_rfl) Try.ntmps4 (by kernel_rfl) (by kernel_rfl) ?_
  refine AMx.sl 1 (l := l) rfl (fun hl => ?_)
  simp only [maxLen] at hl
  refine AMx.seq ?_
  refine AMx.region (ces := []) (ks := [0, 1]) (hs := []) (cs := []) (s' := AS.lst 60 [(0, vc (i6 n)), (1, vc (SC.sl 1 Bytes [] rowS l))] []) (by kernel_rfl) ?_ ?_
  · exact trivial
  refine AMx.seq ?_
  refine AMx.seq ?_
  refine AMx.region (ces := [(1, CE.call [] [] (vc (i6 (overS l))) [])]) (ks := [0, 1, 9]) (hs := []) (cs := [Spec Try.prog 28 [tc (SC.sl 1 Bytes [] rowS l)] (ofH []) (vc (i6 (overS l))) (ofH [])]) (s' := AS.lst 60 [(0, vc (i6 n)), (1, vc (SC.sl 1 Bytes [] rowS l)), (9, vc (bo (decide (0 < overS l))))] []) (by kernel_rfl) ?_ ?_
  · exact (Over_c l)
  refine AMx.cond (b := decide (0 < overS l)) (by kernel_rfl) (fun hc1 => ?_) (fun hc1 => ?_)
  · try simp only [decide_eq_true_eq, decide_eq_false_iff_not] at hc1
    refine AMx.seq ?_
    refine AMx.region (ces := [(0, CE.call [] [] (vc (bo true)) [])]) (ks := [4]) (hs := []) (cs := [Spec Try.prog 21 [] (ofH []) (vc (bo true)) (ofH [])]) (s' := AS.lst 60 [(4, vc (bo true))] []) (by kernel_rfl) ?_ ?_
    · exact (awake_c)
    refine AMx.ret ?_
    exact RetP.mk (r := vc (bo true)) (by kernel_rfl) rfl
  · try simp only [decide_eq_true_eq, decide_eq_false_iff_not] at hc1
    refine AMx.skip ?_
    refine AMx.seq ?_
    refine AMx.region (ces := [(1, CE.call [] [] (vc (SC.sl 1 Int 0 rowI (allS n))) [])]) (ks := [0, 1, 5]) (hs := []) (cs := [Spec Try.prog 29 [tc (i6 n)] (ofH []) (vc (SC.sl 1 Int 0 rowI (allS n))) (ofH [])]) (s' := AS.lst 60 [(0, vc (i6 n)), (1, vc (SC.sl 1 Bytes [] rowS l)), (5, vc (SC.sl 1 Int 0 rowI (allS n)))] []) (by kernel_rfl) ?_ ?_
    · exact (All_c n)
    refine AMx.seq ?_
    refine AMx.seq ?_
    refine AMx.region (ces := []) (ks := [0, 1, 5, 18]) (hs := []) (cs := [((decide (n < 1)) = false) → allP [], ((decide (n < 1)) = false) → allP [(decide (n < 1)) = false], (decide (n < 1)) = false → allP [(decide (n < 1)) = false]]) (s' := AS.lst 60 [(0, vc (i6 n)), (1, vc (SC.sl 1 Bytes [] rowS l)), (5, vc (SC.sl 1 Int 0 rowI (allS n))), (18, vc (bo ((decide (n < 1)) || (decide (8 < n)))))] []) (by kernel_rfl) ?_ ?_
    · exact ⟨(fun _ => trivial), (fun hp => hp), (fun hp2 => (by first | exact hp2 | exact ⟨hp, hp2⟩))⟩
    refine AMx.cond (b := ((decide (n < 1)) || (decide (8 < n)))) (by kernel_rfl) (fun hc2 => ?_) (fun hc2 => ?_)
    · try simp only [decide_eq_true_eq, decide_eq_false_iff_not, Bool.or_eq_true, Bool.or_eq_false_iff] at hc2
      refine AMx.seq ?_
      refine AMx.region (ces := [(6, CE.call [] [] (vc (SC.sl 1 Int 0 rowI (shardsS n l))) []), (11, CE.call [] [] (vc (bo true)) [])]) (ks := [4]) (hs := []) (cs := [((decide ((List.length (allS n : List Int) : Int) = 0)) = true) → allP [], ((decide ((List.length (allS n : List Int) : Int) = 0)) = true) → allP [], ((decide ((List.length (allS n : List Int) : Int) = 0)) = true) → allP [(decide ((List.length (allS n : List Int) : Int) = 0)) = true, (decide ((List.length (allS n : List Int) : Int) = 0)) = true, Spec Try.prog 30 [tc (i6 n), tc (SC.sl 1 Bytes [] rowS l)] (ofH []) (vc (SC.sl 1 Int 0 rowI (shardsS n l))) (ofH [])], ((decide ((List.length (allS n : List Int) : Int) = 0)) = true) → allP [(decide ((List.length (allS n : List Int) : Int) = 0)) = true], ((decide ((List.length (allS n : List Int) : Int) = 0)) = true) → allP [(decide ((List.length (allS n : List Int) : Int) = 0)) = true], (decide ((List.length (allS n : List Int) : Int) = 0)) = true → allP [(decide ((List.length (allS n : List Int) : Int) = 0)) = true], (((decide ((List.length (allS n : List Int) : Int) = 0)) && (decide ((List.length (shardsS n l : List Int) : Int) = 0))) = true) → allP [Spec Try.prog 21 [] (ofH []) (vc (bo true)) (ofH [])], ((decide ((List.length (allS n : List Int) : Int) = 0)) && (decide ((List.length (shardsS n l : List Int) : Int) = 0))) = true → allP [((decide ((List.length (allS n : List Int) : Int) = 0)) && (decide ((List.length (shardsS n l : List Int) : Int) = 0))) = true]]) (s' := AS.lst 60 [(4, vc (bo (((decide ((List.length (allS n : List Int) : Int) = 0)) && (decide ((List.length (shardsS n l : List Int) : Int) = 0))) && true)))] []) (by kernel_rfl) ?_ ?_
      · exact ⟨(fun _ => trivial), (fun _ => trivial), (fun hp => by have hq := hp; (try simp only [decide_eq_true_eq, decide_eq_false_iff_not, Bool.and_eq_true, Bool.or_eq_true, Bool.and_eq_false_iff, Bool.or_eq_false_iff, Bool.not_eq_true', Bool.not_eq_false', Bool.not_eq_true, Bool.not_eq_false] at hq); exact ⟨hp, hp, (Shards_c n l)⟩), (fun hp => hp), (fun hp => hp), (fun hp2 => (by first | exact hp2 | exact ⟨hp, hp2⟩)), (fun hp => by have hq := hp; (try simp only [decide_eq_true_eq, decide_eq_false_iff_not, Bool.and_eq_true, Bool.or_eq_true, Bool.and_eq_false_iff, Bool.or_eq_false_iff, Bool.not_eq_true', Bool.not_eq_false', Bool.not_eq_true, Bool.not_eq_false] at hq); exact (awake_c)), (fun hp2 => (by first | exact hp2 | exact ⟨hp, hp2⟩))⟩
      refine AMx.ret ?_
      exact RetP.mk (r := vc (bo (((decide ((List.length (allS n : List Int) : Int) = 0)) && (decide ((List.length (shardsS n l : List Int) : Int) = 0))) && true))) (by kernel_rfl) (by rw [all_0 n (by simp [mayS]; omega), shards_0 n l (by simp [mayS]; omega)]; rfl)
    · try simp only [decide_eq_true_eq, decide_eq_false_iff_not, Bool.or_eq_true, Bool.or_eq_false_iff] at hc2
      refine AMx.skip ?_
      refine AMx.seq ?_
      refine AMx.seq ?_
      refine AMx.region (ces := []) (ks := [0, 1, 5, 6]) (hs := []) (cs := []) (s' := AS.lst 60 [(0, vc (i6 n)), (1, vc (SC.sl 1 Bytes [] rowS l)), (5, vc (SC.sl 1 Int 0 rowI (allS n))), (6, vc (i6 0))] []) (by kernel_rfl) ?_ ?_
      · exact trivial
      refine AMx.block ?_
      refine AMx.ent (s' := AS.lst 60 [(0, vc (i6 n)), (1, vc (SC.sl 1 Bytes [] rowS l)), (5, vc (SC.sl 1 Int 0 rowI (allS n))), (6, vc (i6 0))] []) (ent_proj [0, 1, 5, 6] []) ?_
      refine AMx.loop (fun mm ss => ∃ (i : Nat), (i ≤ (allS n).length) ∧ mm = (allS n).length - i ∧ ss = AS.lst 60 [(0, vc (i6 n)), (1, vc (SC.sl 1 Bytes [] rowS l)), (5, vc (SC.sl 1 Int 0 rowI (allS n))), (6, vc (i6 (i : Int)))] []) ⟨0, ?_, rfl, ?_⟩ ?_
      · omega
      · rfl
      rintro mm ss ⟨i, hI, rfl, rfl⟩
      refine AMx.seq ?_
      refine AMx.seq ?_
      refine AMx.region (ces := []) (ks := [0, 1, 5, 6, 35]) (hs := []) (cs := []) (s' := AS.lst 60 [(0, vc (i6 n)), (1, vc (SC.sl 1 Bytes [] rowS l)), (5, vc (SC.sl 1 Int 0 rowI (allS n))), (6, vc (i6 (i : Int))), (35, vc (bo (decide ((i : Int) < (List.length (allS n : List Int) : Int)))))] []) (by kernel_rfl) ?_ ?_
      · exact trivial
      refine AMx.cond (b := decide ((i : Int) < (List.length (allS n : List Int) : Int))) (by kernel_rfl) (fun hc3 => ?_) (fun hc3 => ?_)
      · try simp only [decide_eq_true_eq, decide_eq_false_iff_not] at hc3
        refine AMx.skip ?_
        refine AMx.seq ?_
        refine AMx.block ?_
        refine AMx.seq ?_
        refine AMx.region (ces := []) (ks := [0, 1, 5, 6, 43]) (hs := []) (cs := [(0 : Int) ≤ (i : Int), (i : Int) < List.length (allS n : List Int)]) (s' := AS.lst 60 [(0, vc (i6 n)), (1, vc (SC.sl 1 Bytes [] rowS l)), (5, vc (SC.sl 1 Int 0 rowI (allS n))), (6, vc (i6 (i : Int))), (43, vc (bo (!decide ((List.getD (allS n) i 0) = (i : Int)))))] []) (by kernel_rfl) ?_ ?_
        · exact ⟨(show (0 : Int) ≤ (i : Int) from (by first | omega | (have := all_len n (by omega); omega))), (show (i : Int) < List.length (allS n : List Int) from (by first | omega | (have := all_len n (by omega); omega)))⟩
        refine AMx.cond (b := !decide ((List.getD (allS n) i 0) = (i : Int))) (by kernel_rfl) (fun hc4 => ?_) (fun hc4 => ?_)
        · try simp only [decide_eq_true_eq, decide_eq_false_iff_not, Bool.not_eq_true', Bool.not_eq_false'] at hc4
          refine AMx.seq ?_
          refine AMx.region (ces := []) (ks := [4]) (hs := []) (cs := []) (s' := AS.lst 60 [(4, vc (bo false))] []) (by kernel_rfl) ?_ ?_
          · exact trivial
          refine AMx.ret ?_
          exact RetP.mk (r := vc (bo false)) (by kernel_rfl) (by exact absurd (all_get n i (by omega)) (by assumption))
        · try simp only [decide_eq_true_eq, decide_eq_false_iff_not, Bool.not_eq_true', Bool.not_eq_false'] at hc4
          refine AMx.skip ?_
          refine AMx.blk ?_
          refine AMx.region (ces := []) (ks := [0, 1, 5, 6]) (hs := []) (cs := [InR .i64 ((i : Int) + 1)]) (s' := AS.lst 60 [(0, vc (i6 n)), (1, vc (SC.sl 1 Bytes [] rowS l)), (5, vc (SC.sl 1 Int 0 rowI (allS n))), (6, vc (i6 ((i : Int) + 1)))] []) (by kernel_rfl) ?_ ?_
          · exact (show InR .i64 ((i : Int) + 1) from (inR64 (by first | omega | (have := all_len n (by omega); omega)) (by first | omega | (have := all_len n (by omega); omega))))
          refine AMx.ent_inv (s' := AS.lst 60 [(0, vc (i6 n)), (1, vc (SC.sl 1 Bytes [] rowS l)), (5, vc (SC.sl 1 Int 0 rowI (allS n))), (6, vc (i6 ((i : Int) + 1)))] []) (ent_proj [0, 1, 5, 6] []) ?_
          refine AMx.inv ⟨_, ?_, i + 1, ?_, rfl, ?_⟩
          rotate_left
          · omega
          · rfl
          · omega
      · try simp only [decide_eq_true_eq, decide_eq_false_iff_not] at hc3
        refine AMx.exit ?_
        refine AMx.code_exit ?_
        refine AMx.inv_exit ?_
        refine AMx.blk_exit ?_
        refine AMx.seq ?_
        refine AMx.region (ces := [(7, CE.call [] [] (vc (SC.sl 1 Int 0 rowI (shardsS n l))) []), (10, CE.call [] [] (vc (SC.sl 1 Int 0 rowI (shardsS n l))) []), (11, CE.call [] [] (vc (bo (decide (shardsS n l = shardsS n l)))) []), (14, CE.call [] [] (vc (bo true)) [])]) (ks := [4]) (hs := []) (cs := [((decide ((List.length (allS n : List Int) : Int) = n)) = true) → allP [], ((decide ((List.length (allS n : List Int) : Int) = n)) = true) → allP [], ((decide ((List.length (allS n : List Int) : Int) = n)) = true) → allP [(decide ((List.length (allS n : List Int) : Int) = n)) = true, (decide ((List.length (allS n : List Int) : Int) = n)) = true, Spec Try.prog 30 [tc (i6 n), tc (SC.sl 1 Bytes [] rowS l)] (ofH []) (vc (SC.sl 1 Int 0 rowI (shardsS n l))) (ofH [])], ((decide ((List.length (allS n : List Int) : Int) = n)) = true) → allP [], ((decide ((List.length (allS n : List Int) : Int) = n)) = true) → allP [], ((decide ((List.length (allS n : List Int) : Int) = n)) = true) → allP [(decide ((List.length (allS n : List Int) : Int) = n)) = true, (decide ((List.length (allS n : List Int) : Int) = n)) = true, Spec Try.prog 32 [tc (i6 n), tc (SC.sl 1 Bytes [] rowS l)] (ofH []) (vc (SC.sl 1 Int 0 rowI (shardsS n l))) (ofH [])], ((decide ((List.length (allS n : List Int) : Int) = n)) = true) → allP [(decide ((List.length (allS n : List Int) : Int) = n)) = true, (decide ((List.length (allS n : List Int) : Int) = n)) = true, Spec Try.prog 31 [tc (SC.sl 1 Int 0 rowI (shardsS n l)), tc (SC.sl 1 Int 0 rowI (shardsS n l))] (ofH []) (vc (bo (decide (shardsS n l = shardsS n l)))) (ofH [])], (decide ((List.length (allS n : List Int) : Int) = n)) = true → allP [(decide ((List.length (allS n : List Int) : Int) = n)) = true], (((decide ((List.length (allS n : List Int) : Int) = n)) && (decide (shardsS n l = shardsS n l))) = true) → allP [Spec Try.prog 21 [] (ofH []) (vc (bo true)) (ofH [])], ((decide ((List.length (allS n : List Int) : Int) = n)) && (decide (shardsS n l = shardsS n l))) = true → allP [((decide ((List.length (allS n : List Int) : Int) = n)) && (decide (shardsS n l = shardsS n l))) = true]]) (s' := AS.lst 60 [(4, vc (bo (((decide ((List.length (allS n : List Int) : Int) = n)) && (decide (shardsS n l = shardsS n l))) && true)))] []) (by kernel_rfl) ?_ ?_
        · exact ⟨(fun _ => trivial), (fun _ => trivial), (fun hp => by have hq := hp; (try simp only [decide_eq_true_eq, decide_eq_false_iff_not, Bool.and_eq_true, Bool.or_eq_true, Bool.and_eq_false_iff, Bool.or_eq_false_iff, Bool.not_eq_true', Bool.not_eq_false', Bool.not_eq_true, Bool.not_eq_false] at hq); exact ⟨hp, hp, (Shards_c n l)⟩), (fun _ => trivial), (fun _ => trivial), (fun hp => by have hq := hp; (try simp only [decide_eq_true_eq, decide_eq_false_iff_not, Bool.and_eq_true, Bool.or_eq_true, Bool.and_eq_false_iff, Bool.or_eq_false_iff, Bool.not_eq_true', Bool.not_eq_false', Bool.not_eq_true, Bool.not_eq_false] at hq); exact ⟨hp, hp, (RShards_c n l (by omega))⟩), (fun hp => by have hq := hp; (try simp only [decide_eq_true_eq, decide_eq_false_iff_not, Bool.and_eq_true, Bool.or_eq_true, Bool.and_eq_false_iff, Bool.or_eq_false_iff, Bool.not_eq_true', Bool.not_eq_false', Bool.not_eq_true, Bool.not_eq_false] at hq); exact ⟨hp, hp, (SameInts_c (shardsS n l) (shardsS n l))⟩), (fun hp2 => (by first | exact hp2 | exact ⟨hp, hp2⟩)), (fun hp => by have hq := hp; (try simp only [decide_eq_true_eq, decide_eq_false_iff_not, Bool.and_eq_true, Bool.or_eq_true, Bool.and_eq_false_iff, Bool.or_eq_false_iff, Bool.not_eq_true', Bool.not_eq_false', Bool.not_eq_true, Bool.not_eq_false] at hq); exact (awake_c)), (fun hp2 => (by first | exact hp2 | exact ⟨hp, hp2⟩))⟩
        refine AMx.ret ?_
        exact RetP.mk (r := vc (bo (((decide ((List.length (allS n : List Int) : Int) = n)) && (decide (shardsS n l = shardsS n l))) && true))) (by kernel_rfl) (by rw [all_len n (by omega)]; simp)

theorem f6_body : Try.f6.body = some (.seq (.region 0 (rg Try.f6 0) false) (.seq (.seq (.region 1 (rg Try.f6 1) false) (.cond (.tmp 28) (.seq (.region 2 (rg Try.f6 2) false) (.ret)) (.skip))) (.seq (.region 3 (rg Try.f6 3) false) (.seq (.region 4 (rg Try.f6 4) false) (.seq (.seq (.region 5 (rg Try.f6 5) false) (.block 0 (.loop (.seq (.seq (.region 6 (rg Try.f6 6) false) (.cond (.tmp 46) (.skip) (.exit 0))) (.seq (.block 1 (.seq (.region 8 (rg Try.f6 8) true) (.cond (.tmp 95) (.seq (.region 9 (rg Try.f6 9) false) (.ret)) (.skip)))) (.region 7 (rg Try.f6 7) false)))))) (.seq (.seq (.region 10 (rg Try.f6 10) false) (.block 2 (.loop (.seq (.seq (.region 11 (rg Try.f6 11) false) (.cond (.tmp 99) (.skip) (.exit 2))) (.seq (.block 3 (.seq (.region 13 (rg Try.f6 13) false) (.cond (.tmp 108) (.seq (.region 14 (rg Try.f6 14) false) (.ret)) (.skip)))) (.region 12 (rg Try.f6 12) false)))))) (.seq (.seq (.region 15 (rg Try.f6 15) false) (.block 4 (.loop (.seq (.seq (.region 16 (rg Try.f6 16) false) (.cond (.tmp 112) (.skip) (.exit 4))) (.seq (.block 5 (.seq (.region 18 (rg Try.f6 18) false) (.cond (.tmp 123) (.seq (.region 19 (rg Try.f6 19) false) (.ret)) (.skip)))) (.region 17 (rg Try.f6 17) false)))))) (.seq (.region 20 (rg Try.f6 20) false) (.ret))))))))) := by kernel_rfl

set_option maxRecDepth 100000 in
set_option maxHeartbeats 8000000 in
theorem FnvSets_c (n : Int) (a b : List Bytes) : Pure Try.prog 6 [tc (i6 n), tc (SC.sl 1 Bytes [] rowS a), tc (SC.sl 1 Bytes [] rowS b)] (vc (bo true)) := by
  refine Pure.of_body Try.func6 f6_body (by kernel_rfl) Try.ntmps6 (by kernel_rfl) (by kernel_rfl) ?_
  refine AMx.sl 1 (l := a) rfl (fun hla => ?_)
  refine AMx.sl 2 (l := b) rfl (fun hlb => ?_)
  simp only [maxLen] at hla hlb
  refine AMx.seq ?_
  refine AMx.region (ces := []) (ks := [0, 1, 2]) (hs := []) (cs := []) (s' := AS.lst 125 [(0, vc (i6 n)), (1, vc (SC.sl 1 Bytes [] rowS a)), (2, vc (SC.sl 1 Bytes [] rowS b))] []) (by kernel_rfl) ?_ ?_
  · exact trivial
  refine AMx.seq ?_
  refine AMx.seq ?_
  refine AMx.region (ces := [(1, CE.call [] [] (vc (i6 (overS a))) []), (5, CE.call [] [] (vc (i6 (overS b))) [])]) (ks := [0, 1, 2, 28]) (hs := []) (cs := [Spec Try.prog 28 [tc (SC.sl 1 Bytes [] rowS a)] (ofH []) (vc (i6 (overS a))) (ofH []), ((decide (0 < overS a)) = false) → allP [], ((decide (0 < overS a)) = false) → allP [(decide (0 < overS a)) = false, Spec Try.prog 28 [tc (SC.sl 1 Bytes [] rowS b)] (ofH []) (vc (i6 (overS b))) (ofH [])], ((decide (0 < overS a)) = false) → allP [(decide (0 < overS a)) = false], (decide (0 < overS a)) = false → allP [(decide (0 < overS a)) = false], (((decide (0 < overS a)) || (decide (0 < overS b))) = false) → allP [], (((decide (0 < overS a)) || (decide (0 < overS b))) = false) → allP [((decide (0 < overS a)) || (decide (0 < overS b))) = false], ((decide (0 < overS a)) || (decide (0 < overS b))) = false → allP [((decide (0 < overS a)) || (decide (0 < overS b))) = false], ((((decide (0 < overS a)) || (decide (0 < overS b))) || (decide (n < 1))) = false) → allP [], ((((decide (0 < overS a)) || (decide (0 < overS b))) || (decide (n < 1))) = false) → allP [(((decide (0 < overS a)) || (decide (0 < overS b))) || (decide (n < 1))) = false], (((decide (0 < overS a)) || (decide (0 < overS b))) || (decide (n < 1))) = false → allP [(((decide (0 < overS a)) || (decide (0 < overS b))) || (decide (n < 1))) = false]]) (s' := AS.lst 125 [(0, vc (i6 n)), (1, vc (SC.sl 1 Bytes [] rowS a)), (2, vc (SC.sl 1 Bytes [] rowS b)), (28, vc (bo ((((decide (0 < overS a)) || (decide (0 < overS b))) || (decide (n < 1))) || (decide (8 < n)))))] []) (by kernel_rfl) ?_ ?_
  · exact ⟨(Over_c a), (fun _ => trivial), (fun hp => by have hq := hp; (try simp only [decide_eq_true_eq, decide_eq_false_iff_not, Bool.and_eq_true, Bool.or_eq_true, Bool.and_eq_false_iff, Bool.or_eq_false_iff, Bool.not_eq_true', Bool.not_eq_false', Bool.not_eq_true, Bool.not_eq_false] at hq); exact ⟨hp, (Over_c b)⟩), (fun hp => hp), (fun hp2 => (by first | exact hp2 | exact ⟨hp, hp2⟩)), (fun _ => trivial), (fun hp => hp), (fun hp2 => (by first | exact hp2 | exact ⟨hp, hp2⟩)), (fun _ => trivial), (fun hp => hp), (fun hp2 => (by first | exact hp2 | exact ⟨hp, hp2⟩))⟩
  refine AMx.cond (b := ((((decide (0 < overS a)) || (decide (0 < overS b))) || (decide (n < 1))) || (decide (8 < n)))) (by kernel_rfl) (fun hc1 => ?_) (fun hc1 => ?_)
  · try simp only [decide_eq_true_eq, decide_eq_false_iff_not, Bool.or_eq_true, Bool.or_eq_false_iff] at hc1
    refine AMx.seq ?_
    refine AMx.region (ces := [(0, CE.call [] [] (vc (bo true)) [])]) (ks := [6]) (hs := []) (cs := [Spec Try.prog 21 [] (ofH []) (vc (bo true)) (ofH [])]) (s' := AS.lst 125 [(6, vc (bo true))] []) (by kernel_rfl) ?_ ?_
    · exact (awake_c)
    refine AMx.ret ?_
    exact RetP.mk (r := vc (bo true)) (by kernel_rfl) rfl
  · try simp only [decide_eq_true_eq, decide_eq_false_iff_not, Bool.or_eq_true, Bool.or_eq_false_iff] at hc1
    refine AMx.skip ?_
    refine AMx.seq ?_
    refine AMx.region (ces := [(2, CE.call [] [] (vc (SC.sl 1 Int 0 rowI (shardsS n a))) []), (5, CE.call [] [] (vc (SC.sl 1 Int 0 rowI (shardsS n b))) [])]) (ks := [0, 1, 2, 7, 8]) (hs := []) (cs := [Spec Try.prog 30 [tc (i6 n), tc (SC.sl 1 Bytes [] rowS a)] (ofH []) (vc (SC.sl 1 Int 0 rowI (shardsS n a))) (ofH []), Spec Try.prog 30 [tc (i6 n), tc (SC.sl 1 Bytes [] rowS b)] (ofH []) (vc (SC.sl 1 Int 0 rowI (shardsS n b))) (ofH [])]) (s' := AS.lst 125 [(0, vc (i6 n)), (1, vc (SC.sl 1 Bytes [] rowS a)), (2, vc (SC.sl 1 Bytes [] rowS b)), (7, vc (SC.sl 1 Int 0 rowI (shardsS n a))), (8, vc (SC.sl 1 Int 0 rowI (shardsS n b)))] []) (by kernel_rfl) ?_ ?_
    · exact ⟨(Shards_c n a), (Shards_c n b)⟩
    refine AMx.seq ?_
    refine AMx.region (ces := [(1, CE.obj (AObj.grow 9 1 Bytes [] rowS [])), (3, CE.obj (AObj.grow 9 1 Bytes [] rowS ([] ++ a))), (5, CE.obj (AObj.grow 9 1 Bytes [] rowS (([] ++ a) ++ b))), (6, CE.call [41] [] (vc (SC.sl 1 Int 0 rowI (shardsS n (([] ++ a) ++ b)))) [])]) (ks := [0, 2, 7, 8, 9]) (hs := []) (cs := [flat 1 rowS [] = [], List.length ([] : List Bytes) = 0, AppC (flat 1 rowS a) (List.length a) 16 (AObj.grow 9 1 Bytes [] rowS []) (AObj.grow 9 1 Bytes [] rowS ([] ++ a)), AppC (flat 1 rowS b) (List.length b) 16 (AObj.grow 9 1 Bytes [] rowS ([] ++ a)) (AObj.grow 9 1 Bytes [] rowS (([] ++ a) ++ b)), Spec Try.prog 30 [tc (i6 n), tc (SC.sl 1 Bytes [] rowS (([] ++ a) ++ b))] (ofH []) (vc (SC.sl 1 Int 0 rowI (shardsS n (([] ++ a) ++ b)))) (ofH [])]) (s' := AS.lst 125 [(0, vc (i6 n)), (2, vc (SC.sl 1 Bytes [] rowS b)), (7, vc (SC.sl 1 Int 0 rowI (shardsS n a))), (8, vc (SC.sl 1 Int 0 rowI (shardsS n b))), (9, vc (SC.sl 1 Int 0 rowI (shardsS n (([] ++ a) ++ b))))] []) (by kernel_rfl) ?_ ?_
    · exact ⟨rfl, rfl, (⟨_, rfl, rfl, rfl, by have h1 := over_le a (by omega); have h2 := over_le b (by omega); simp only [List.length_append, List.length_nil]; omega, by have h1 := over_le a (by omega); have h2 := over_le b (by omega); simp only [maxLen, List.length_append, List.length_nil]; omega⟩), (⟨_, rfl, rfl, rfl, by have h1 := over_le a (by omega); have h2 := over_le b (by omega); simp only [List.length_append, List.length_nil]; omega, by have h1 := over_le a (by omega); have h2 := over_le b (by omega); simp only [maxLen, List.length_append, List.length_nil]; omega⟩), (Shards_c n (([] ++ a) ++ b))⟩
    refine AMx.seq ?_
    refine AMx.seq ?_
    refine AMx.region (ces := []) (ks := [0, 2, 7, 8, 9, 10]) (hs := []) (cs := []) (s' := AS.lst 125 [(0, vc (i6 n)), (2, vc (SC.sl 1 Bytes [] rowS b)), (7, vc (SC.sl 1 Int 0 rowI (shardsS n a))), (8, vc (SC.sl 1 Int 0 rowI (shardsS n b))), (9, vc (SC.sl 1 Int 0 rowI (shardsS n (([] ++ a) ++ b)))), (10, vc (i6 0))] []) (by kernel_rfl) ?_ ?_
    · exact trivial
    refine AMx.block ?_
    refine AMx.ent (s' := AS.lst 125 [(0, vc (i6 n)), (2, vc (SC.sl 1 Bytes [] rowS b)), (7, vc (SC.sl 1 Int 0 rowI (shardsS n a))), (8, vc (SC.sl 1 Int 0 rowI (shardsS n b))), (9, vc (SC.sl 1 Int 0 rowI (shardsS n (([] ++ a) ++ b)))), (10, vc (i6 0))] []) (ent_proj [0, 2, 7, 8, 9, 10] []) ?_
    refine AMx.loop (fun mm ss => ∃ (i : Nat), (i ≤ (shardsS n (([] ++ a) ++ b)).length) ∧ mm = (shardsS n (([] ++ a) ++ b)).length - i ∧ ss = AS.lst 125 [(0, vc (i6 n)), (2, vc (SC.sl 1 Bytes [] rowS b)), (7, vc (SC.sl 1 Int 0 rowI (shardsS n a))), (8, vc (SC.sl 1 Int 0 rowI (shardsS n b))), (9, vc (SC.sl 1 Int 0 rowI (shardsS n (([] ++ a) ++ b)))), (10, vc (i6 (i : Int)))] []) ⟨0, ?_, rfl, ?_⟩ ?_
    · omega
    · rfl
    rintro mm ss ⟨i, hI, rfl, rfl⟩
    refine AMx.seq ?_
    refine AMx.seq ?_
    refine AMx.region (ces := []) (ks := [0, 2, 7, 8, 9, 10, 46]) (hs := []) (cs := []) (s' := AS.lst 125 [(0, vc (i6 n)), (2, vc (SC.sl 1 Bytes [] rowS b)), (7, vc (SC.sl 1 Int 0 rowI (shardsS n a))), (8, vc (SC.sl 1 Int 0 rowI (shardsS n b))), (9, vc (SC.sl 1 Int 0 rowI (shardsS n (([] ++ a) ++ b)))), (10, vc (i6 (i : Int))), (46, vc (bo (decide ((i : Int) < (List.length (shardsS n (([] ++ a) ++ b) : List Int) : Int)))))] []) (by kernel_rfl) ?_ ?_
    · exact trivial
    refine AMx.cond (b := decide ((i : Int) < (List.length (shardsS n (([] ++ a) ++ b) : List Int) : Int))) (by kernel_rfl) (fun hc2 => ?_) (fun hc2 => ?_)
    · try simp only [decide_eq_true_eq, decide_eq_false_iff_not] at hc2
      refine AMx.skip ?_
      refine AMx.seq ?_
      refine AMx.block ?_
      refine AMx.seq ?_
      refine AMx.region_draw (ces := [(35, CE.call [] [] (vc (bo (inS (shardsS n a) (List.getD (shardsS n (([] ++ a) ++ b)) i 0)))) []), (43, CE.call [] [] (vc (bo (inS (shardsS n b) (List.getD (shardsS n (([] ++ a) ++ b)) i 0)))) [])]) (ros := []) (ks := [0, 2, 7, 8, 9, 10, 95]) (hs := []) (cs := [(0 : Int) ≤ (i : Int), (i : Int) < List.length (shardsS n (([] ++ a) ++ b) : List Int), ((decide ((List.getD (shardsS n (([] ++ a) ++ b)) i 0) < 0)) = false) → allP [], ((decide ((List.getD (shardsS n (([] ++ a) ++ b)) i 0) < 0)) = false) → allP [], ((decide ((List.getD (shardsS n (([] ++ a) ++ b)) i 0) < 0)) = false) → allP [(decide ((List.getD (shardsS n (([] ++ a) ++ b)) i 0) < 0)) = false, (decide ((List.getD (shardsS n (([] ++ a) ++ b)) i 0) < 0)) = false, (0 : Int) ≤ (i : Int), (i : Int) < List.length (shardsS n (([] ++ a) ++ b) : List Int)], ((decide ((List.getD (shardsS n (([] ++ a) ++ b)) i 0) < 0)) = false) → allP [(decide ((List.getD (shardsS n (([] ++ a) ++ b)) i 0) < 0)) = false], ((decide ((List.getD (shardsS n (([] ++ a) ++ b)) i 0) < 0)) = false) → allP [], ((decide ((List.getD (shardsS n (([] ++ a) ++ b)) i 0) < 0)) = false) → allP [(decide ((List.getD (shardsS n (([] ++ a) ++ b)) i 0) < 0)) = false, (decide ((List.getD (shardsS n (([] ++ a) ++ b)) i 0) < 0)) = false], (decide ((List.getD (shardsS n (([] ++ a) ++ b)) i 0) < 0)) = false → allP [(decide ((List.getD (shardsS n (([] ++ a) ++ b)) i 0) < 0)) = false], (((decide ((List.getD (shardsS n (([] ++ a) ++ b)) i 0) < 0)) || (decide (n ≤ (List.getD (shardsS n (([] ++ a) ++ b)) i 0)))) = false) → allP [], (((decide ((List.getD (shardsS n (([] ++ a) ++ b)) i 0) < 0)) || (decide (n ≤ (List.getD (shardsS n (([] ++ a) ++ b)) i 0)))) = false) → allP [((decide ((List.getD (shardsS n (([] ++ a) ++ b)) i 0) < 0)) || (decide (n ≤ (List.getD (shardsS n (([] ++ a) ++ b)) i 0)))) = false], (((decide ((List.getD (shardsS n (([] ++ a) ++ b)) i 0) < 0)) || (decide (n ≤ (List.getD (shardsS n (([] ++ a) ++ b)) i 0)))) = false) → allP [((decide ((List.getD (shardsS n (([] ++ a) ++ b)) i 0) < 0)) || (decide (n ≤ (List.getD (shardsS n (([] ++ a) ++ b)) i 0)))) = false], ((((decide ((List.getD (shardsS n (([] ++ a) ++ b)) i 0) < 0)) || (decide (n ≤ (List.getD (shardsS n (([] ++ a) ++ b)) i 0)))) = false) ∧ (decide (0 < (i : Int))) = true) → allP [], ((((decide ((List.getD (shardsS n (([] ++ a) ++ b)) i 0) < 0)) || (decide (n ≤ (List.getD (shardsS n (([] ++ a) ++ b)) i 0)))) = false) ∧ (decide (0 < (i : Int))) = true) → allP [], ((((decide ((List.getD (shardsS n (([] ++ a) ++ b)) i 0) < 0)) || (decide (n ≤ (List.getD (shardsS n (([] ++ a) ++ b)) i 0)))) = false) ∧ (decide (0 < (i : Int))) = true) → allP [(((decide ((List.getD (shardsS n (([] ++ a) ++ b)) i 0) < 0)) || (decide (n ≤ (List.getD (shardsS n (([] ++ a) ++ b)) i 0)))) = false) ∧ (decide (0 < (i : Int))) = true, InR .i64 ((i : Int) - 1)], ((((decide ((List.getD (shardsS n (([] ++ a) ++ b)) i 0) < 0)) || (decide (n ≤ (List.getD (shardsS n (([] ++ a) ++ b)) i 0)))) = false) ∧ (decide (0 < (i : Int))) = true) → allP [(((decide ((List.getD (shardsS n (([] ++ a) ++ b)) i 0) < 0)) || (decide (n ≤ (List.getD (shardsS n (([] ++ a) ++ b)) i 0)))) = false) ∧ (decide (0 < (i : Int))) = true, (((decide ((List.getD (shardsS n (([] ++ a) ++ b)) i 0) < 0)) || (decide (n ≤ (List.getD (shardsS n (([] ++ a) ++ b)) i 0)))) = false) ∧ (decide (0 < (i : Int))) = true, (0 : Int) ≤ (i : Int) - 1, (i : Int) - 1 < List.length (shardsS n (([] ++ a) ++ b) : List Int)], ((((decide ((List.getD (shardsS n (([] ++ a) ++ b)) i 0) < 0)) || (decide (n ≤ (List.getD (shardsS n (([] ++ a) ++ b)) i 0)))) = false) ∧ (decide (0 < (i : Int))) = true) → allP [(((decide ((List.getD (shardsS n (([] ++ a) ++ b)) i 0) < 0)) || (decide (n ≤ (List.getD (shardsS n (([] ++ a) ++ b)) i 0)))) = false) ∧ (decide (0 < (i : Int))) = true], ((((decide ((List.getD (shardsS n (([] ++ a) ++ b)) i 0) < 0)) || (decide (n ≤ (List.getD (shardsS n (([] ++ a) ++ b)) i 0)))) = false) ∧ (decide (0 < (i : Int))) = true) → allP [], ((((decide ((List.getD (shardsS n (([] ++ a) ++ b)) i 0) < 0)) || (decide (n ≤ (List.getD (shardsS n (([] ++ a) ++ b)) i 0)))) = false) ∧ (decide (0 < (i : Int))) = true) → allP [], ((((decide ((List.getD (shardsS n (([] ++ a) ++ b)) i 0) < 0)) || (decide (n ≤ (List.getD (shardsS n (([] ++ a) ++ b)) i 0)))) = false) ∧ (decide (0 < (i : Int))) = true) → allP [(((decide ((List.getD (shardsS n (([] ++ a) ++ b)) i 0) < 0)) || (decide (n ≤ (List.getD (shardsS n (([] ++ a) ++ b)) i 0)))) = false) ∧ (decide (0 < (i : Int))) = true, (((decide ((List.getD (shardsS n (([] ++ a) ++ b)) i 0) < 0)) || (decide (n ≤ (List.getD (shardsS n (([] ++ a) ++ b)) i 0)))) = false) ∧ (decide (0 < (i : Int))) = true, (0 : Int) ≤ (i : Int), (i : Int) < List.length (shardsS n (([] ++ a) ++ b) : List Int)], ((((decide ((List.getD (shardsS n (([] ++ a) ++ b)) i 0) < 0)) || (decide (n ≤ (List.getD (shardsS n (([] ++ a) ++ b)) i 0)))) = false) ∧ (decide (0 < (i : Int))) = true) → allP [(((decide ((List.getD (shardsS n (([] ++ a) ++ b)) i 0) < 0)) || (decide (n ≤ (List.getD (shardsS n (([] ++ a) ++ b)) i 0)))) = false) ∧ (decide (0 < (i : Int))) = true], ((((decide ((List.getD (shardsS n (([] ++ a) ++ b)) i 0) < 0)) || (decide (n ≤ (List.getD (shardsS n (([] ++ a) ++ b)) i 0)))) = false) ∧ (decide (0 < (i : Int))) = true) → allP [(((decide ((List.getD (shardsS n (([] ++ a) ++ b)) i 0) < 0)) || (decide (n ≤ (List.getD (shardsS n (([] ++ a) ++ b)) i 0)))) = false) ∧ (decide (0 < (i : Int))) = true, (((decide ((List.getD (shardsS n (([] ++ a) ++ b)) i 0) < 0)) || (decide (n ≤ (List.getD (shardsS n (([] ++ a) ++ b)) i 0)))) = false) ∧ (decide (0 < (i : Int))) = true], (((decide ((List.getD (shardsS n (([] ++ a) ++ b)) i 0) < 0)) || (decide (n ≤ (List.getD (shardsS n (([] ++ a) ++ b)) i 0)))) = false) → allP [((decide ((List.getD (shardsS n (([] ++ a) ++ b)) i 0) < 0)) || (decide (n ≤ (List.getD (shardsS n (([] ++ a) ++ b)) i 0)))) = false, (decide (0 < (i : Int))) = true → allP [(((decide ((List.getD (shardsS n (([] ++ a) ++ b)) i 0) < 0)) || (decide (n ≤ (List.getD (shardsS n (([] ++ a) ++ b)) i 0)))) = false) ∧ (decide (0 < (i : Int))) = true]], ((decide ((List.getD (shardsS n (([] ++ a) ++ b)) i 0) < 0)) || (decide (n ≤ (List.getD (shardsS n (([] ++ a) ++ b)) i 0)))) = false → allP [((decide ((List.getD (shardsS n (([] ++ a) ++ b)) i 0) < 0)) || (decide (n ≤ (List.getD (shardsS n (([] ++ a) ++ b)) i 0)))) = false], ((((decide ((List.getD (shardsS n (([] ++ a) ++ b)) i 0) < 0)) || (decide (n ≤ (List.getD (shardsS n (([] ++ a) ++ b)) i 0)))) || ((decide (0 < (i : Int))) && (decide ((List.getD (shardsS n (([] ++ a) ++ b)) i 0) ≤ (List.getD (shardsS n (([] ++ a) ++ b)) ((i : Int) - 1).toNat 0))))) = false) → allP [], ((((decide ((List.getD (shardsS n (([] ++ a) ++ b)) i 0) < 0)) || (decide (n ≤ (List.getD (shardsS n (([] ++ a) ++ b)) i 0)))) || ((decide (0 < (i : Int))) && (decide ((List.getD (shardsS n (([] ++ a) ++ b)) i 0) ≤ (List.getD (shardsS n (([] ++ a) ++ b)) ((i : Int) - 1).toNat 0))))) = false) → allP [], ((((decide ((List.getD (shardsS n (([] ++ a) ++ b)) i 0) < 0)) || (decide (n ≤ (List.getD (shardsS n (([] ++ a) ++ b)) i 0)))) || ((decide (0 < (i : Int))) && (decide ((List.getD (shardsS n (([] ++ a) ++ b)) i 0) ≤ (List.getD (shardsS n (([] ++ a) ++ b)) ((i : Int) - 1).toNat 0))))) = false) → allP [], ((((decide ((List.getD (shardsS n (([] ++ a) ++ b)) i 0) < 0)) || (decide (n ≤ (List.getD (shardsS n (([] ++ a) ++ b)) i 0)))) || ((decide (0 < (i : Int))) && (decide ((List.getD (shardsS n (([] ++ a) ++ b)) i 0) ≤ (List.getD (shardsS n (([] ++ a) ++ b)) ((i : Int) - 1).toNat 0))))) = false) → allP [(((decide ((List.getD (shardsS n (([] ++ a) ++ b)) i 0) < 0)) || (decide (n ≤ (List.getD (shardsS n (([] ++ a) ++ b)) i 0)))) || ((decide (0 < (i : Int))) && (decide ((List.getD (shardsS n (([] ++ a) ++ b)) i 0) ≤ (List.getD (shardsS n (([] ++ a) ++ b)) ((i : Int) - 1).toNat 0))))) = false, (((decide ((List.getD (shardsS n (([] ++ a) ++ b)) i 0) < 0)) || (decide (n ≤ (List.getD (shardsS n (([] ++ a) ++ b)) i 0)))) || ((decide (0 < (i : Int))) && (decide ((List.getD (shardsS n (([] ++ a) ++ b)) i 0) ≤ (List.getD (shardsS n (([] ++ a) ++ b)) ((i : Int) - 1).toNat 0))))) = false, (0 : Int) ≤ (i : Int), (i : Int) < List.length (shardsS n (([] ++ a) ++ b) : List Int)], ((((decide ((List.getD (shardsS n (([] ++ a) ++ b)) i 0) < 0)) || (decide (n ≤ (List.getD (shardsS n (([] ++ a) ++ b)) i 0)))) || ((decide (0 < (i : Int))) && (decide ((List.getD (shardsS n (([] ++ a) ++ b)) i 0) ≤ (List.getD (shardsS n (([] ++ a) ++ b)) ((i : Int) - 1).toNat 0))))) = false) → allP [(((decide ((List.getD (shardsS n (([] ++ a) ++ b)) i 0) < 0)) || (decide (n ≤ (List.getD (shardsS n (([] ++ a) ++ b)) i 0)))) || ((decide (0 < (i : Int))) && (decide ((List.getD (shardsS n (([] ++ a) ++ b)) i 0) ≤ (List.getD (shardsS n (([] ++ a) ++ b)) ((i : Int) - 1).toNat 0))))) = false], ((((decide ((List.getD (shardsS n (([] ++ a) ++ b)) i 0) < 0)) || (decide (n ≤ (List.getD (shardsS n (([] ++ a) ++ b)) i 0)))) || ((decide (0 < (i : Int))) && (decide ((List.getD (shardsS n (([] ++ a) ++ b)) i 0) ≤ (List.getD (shardsS n (([] ++ a) ++ b)) ((i : Int) - 1).toNat 0))))) = false) → allP [(((decide ((List.getD (shardsS n (([] ++ a) ++ b)) i 0) < 0)) || (decide (n ≤ (List.getD (shardsS n (([] ++ a) ++ b)) i 0)))) || ((decide (0 < (i : Int))) && (decide ((List.getD (shardsS n (([] ++ a) ++ b)) i 0) ≤ (List.getD (shardsS n (([] ++ a) ++ b)) ((i : Int) - 1).toNat 0))))) = false, (((decide ((List.getD (shardsS n (([] ++ a) ++ b)) i 0) < 0)) || (decide (n ≤ (List.getD (shardsS n (([] ++ a) ++ b)) i 0)))) || ((decide (0 < (i : Int))) && (decide ((List.getD (shardsS n (([] ++ a) ++ b)) i 0) ≤ (List.getD (shardsS n (([] ++ a) ++ b)) ((i : Int) - 1).toNat 0))))) = false, Spec Try.prog 34 [tc (SC.sl 1 Int 0 rowI (shardsS n a)), tc (i6 (List.getD (shardsS n (([] ++ a) ++ b)) i 0))] (ofH []) (vc (bo (inS (shardsS n a) (List.getD (shardsS n (([] ++ a) ++ b)) i 0)))) (ofH [])], ((((decide ((List.getD (shardsS n (([] ++ a) ++ b)) i 0) < 0)) || (decide (n ≤ (List.getD (shardsS n (([] ++ a) ++ b)) i 0)))) || ((decide (0 < (i : Int))) && (decide ((List.getD (shardsS n (([] ++ a) ++ b)) i 0) ≤ (List.getD (shardsS n (([] ++ a) ++ b)) ((i : Int) - 1).toNat 0))))) = false) → allP [(((decide ((List.getD (shardsS n (([] ++ a) ++ b)) i 0) < 0)) || (decide (n ≤ (List.getD (shardsS n (([] ++ a) ++ b)) i 0)))) || ((decide (0 < (i : Int))) && (decide ((List.getD (shardsS n (([] ++ a) ++ b)) i 0) ≤ (List.getD (shardsS n (([] ++ a) ++ b)) ((i : Int) - 1).toNat 0))))) = false], ((((decide ((List.getD (shardsS n (([] ++ a) ++ b)) i 0) < 0)) || (decide (n ≤ (List.getD (shardsS n (([] ++ a) ++ b)) i 0)))) || ((decide (0 < (i : Int))) && (decide ((List.getD (shardsS n (([] ++ a) ++ b)) i 0) ≤ (List.getD (shardsS n (([] ++ a) ++ b)) ((i : Int) - 1).toNat 0))))) = false) → allP [(((decide ((List.getD (shardsS n (([] ++ a) ++ b)) i 0) < 0)) || (decide (n ≤ (List.getD (shardsS n (([] ++ a) ++ b)) i 0)))) || ((decide (0 < (i : Int))) && (decide ((List.getD (shardsS n (([] ++ a) ++ b)) i 0) ≤ (List.getD (shardsS n (([] ++ a) ++ b)) ((i : Int) - 1).toNat 0))))) = false], (((((decide ((List.getD (shardsS n (([] ++ a) ++ b)) i 0) < 0)) || (decide (n ≤ (List.getD (shardsS n (([] ++ a) ++ b)) i 0)))) || ((decide (0 < (i : Int))) && (decide ((List.getD (shardsS n (([] ++ a) ++ b)) i 0) ≤ (List.getD (shardsS n (([] ++ a) ++ b)) ((i : Int) - 1).toNat 0))))) = false) ∧ (!(inS (shardsS n a) (List.getD (shardsS n (([] ++ a) ++ b)) i 0))) = true) → allP [], (((((decide ((List.getD (shardsS n (([] ++ a) ++ b)) i 0) < 0)) || (decide (n ≤ (List.getD (shardsS n (([] ++ a) ++ b)) i 0)))) || ((decide (0 < (i : Int))) && (decide ((List.getD (shardsS n (([] ++ a) ++ b)) i 0) ≤ (List.getD (shardsS n (([] ++ a) ++ b)) ((i : Int) - 1).toNat 0))))) = false) ∧ (!(inS (shardsS n a) (List.getD (shardsS n (([] ++ a) ++ b)) i 0))) = true) → allP [], (((((decide ((List.getD (shardsS n (([] ++ a) ++ b)) i 0) < 0)) || (decide (n ≤ (List.getD (shardsS n (([] ++ a) ++ b)) i 0)))) || ((decide (0 < (i : Int))) && (decide ((List.getD (shardsS n (([] ++ a) ++ b)) i 0) ≤ (List.getD (shardsS n (([] ++ a) ++ b)) ((i : Int) - 1).toNat 0))))) = false) ∧ (!(inS (shardsS n a) (List.getD (shardsS n (([] ++ a) ++ b)) i 0))) = true) → allP [], (((((decide ((List.getD (shardsS n (([] ++ a) ++ b)) i 0) < 0)) || (decide (n ≤ (List.getD (shardsS n (([] ++ a) ++ b)) i 0)))) || ((decide (0 < (i : Int))) && (decide ((List.getD (shardsS n (([] ++ a) ++ b)) i 0) ≤ (List.getD (shardsS n (([] ++ a) ++ b)) ((i : Int) - 1).toNat 0))))) = false) ∧ (!(inS (shardsS n a) (List.getD (shardsS n (([] ++ a) ++ b)) i 0))) = true) → allP [((((decide ((List.getD (shardsS n (([] ++ a) ++ b)) i 0) < 0)) || (decide (n ≤ (List.getD (shardsS n (([] ++ a) ++ b)) i 0)))) || ((decide (0 < (i : Int))) && (decide ((List.getD (shardsS n (([] ++ a) ++ b)) i 0) ≤ (List.getD (shardsS n (([] ++ a) ++ b)) ((i : Int) - 1).toNat 0))))) = false) ∧ (!(inS (shardsS n a) (List.getD (shardsS n (([] ++ a) ++ b)) i 0))) = true, ((((decide ((List.getD (shardsS n (([] ++ a) ++ b)) i 0) < 0)) || (decide (n ≤ (List.getD (shardsS n (([] ++ a) ++ b)) i 0)))) || ((decide (0 < (i : Int))) && (decide ((List.getD (shardsS n (([] ++ a) ++ b)) i 0) ≤ (List.getD (shardsS n (([] ++ a) ++ b)) ((i : Int) - 1).toNat 0))))) = false) ∧ (!(inS (shardsS n a) (List.getD (shardsS n (([] ++ a) ++ b)) i 0))) = true, (0 : Int) ≤ (i : Int), (i : Int) < List.length (shardsS n (([] ++ a) ++ b) : List Int)], (((((decide ((List.getD (shardsS n (([] ++ a) ++ b)) i 0) < 0)) || (decide (n ≤ (List.getD (shardsS n (([] ++ a) ++ b)) i 0)))) || ((decide (0 < (i : Int))) && (decide ((List.getD (shardsS n (([] ++ a) ++ b)) i 0) ≤ (List.getD (shardsS n (([] ++ a) ++ b)) ((i : Int) - 1).toNat 0))))) = false) ∧ (!(inS (shardsS n a) (List.getD (shardsS n (([] ++ a) ++ b)) i 0))) = true) → allP [((((decide ((List.getD (shardsS n (([] ++ a) ++ b)) i 0) < 0)) || (decide (n ≤ (List.getD (shardsS n (([] ++ a) ++ b)) i 0)))) || ((decide (0 < (i : Int))) && (decide ((List.getD (shardsS n (([] ++ a) ++ b)) i 0) ≤ (List.getD (shardsS n (([] ++ a) ++ b)) ((i : Int) - 1).toNat 0))))) = false) ∧ (!(inS (shardsS n a) (List.getD (shardsS n (([] ++ a) ++ b)) i 0))) = true], (((((decide ((List.getD (shardsS n (([] ++ a) ++ b)) i 0) < 0)) || (decide (n ≤ (List.getD (shardsS n (([] ++ a) ++ b)) i 0)))) || ((decide (0 < (i : Int))) && (decide ((List.getD (shardsS n (([] ++ a) ++ b)) i 0) ≤ (List.getD (shardsS n (([] ++ a) ++ b)) ((i : Int) - 1).toNat 0))))) = false) ∧ (!(inS (shardsS n a) (List.getD (shardsS n (([] ++ a) ++ b)) i 0))) = true) → allP [((((decide ((List.getD (shardsS n (([] ++ a) ++ b)) i 0) < 0)) || (decide (n ≤ (List.getD (shardsS n (([] ++ a) ++ b)) i 0)))) || ((decide (0 < (i : Int))) && (decide ((List.getD (shardsS n (([] ++ a) ++ b)) i 0) ≤ (List.getD (shardsS n (([] ++ a) ++ b)) ((i : Int) - 1).toNat 0))))) = false) ∧ (!(inS (shardsS n a) (List.getD (shardsS n (([] ++ a) ++ b)) i 0))) = true, ((((decide ((List.getD (shardsS n (([] ++ a) ++ b)) i 0) < 0)) || (decide (n ≤ (List.getD (shardsS n (([] ++ a) ++ b)) i 0)))) || ((decide (0 < (i : Int))) && (decide ((List.getD (shardsS n (([] ++ a) ++ b)) i 0) ≤ (List.getD (shardsS n (([] ++ a) ++ b)) ((i : Int) - 1).toNat 0))))) = false) ∧ (!(inS (shardsS n a) (List.getD (shardsS n (([] ++ a) ++ b)) i 0))) = true, Spec Try.prog 34 [tc (SC.sl 1 Int 0 rowI (shardsS n b)), tc (i6 (List.getD (shardsS n (([] ++ a) ++ b)) i 0))] (ofH []) (vc (bo (inS (shardsS n b) (List.getD (shardsS n (([] ++ a) ++ b)) i 0)))) (ofH [])], (((((decide ((List.getD (shardsS n (([] ++ a) ++ b)) i 0) < 0)) || (decide (n ≤ (List.getD (shardsS n (([] ++ a) ++ b)) i 0)))) || ((decide (0 < (i : Int))) && (decide ((List.getD (shardsS n (([] ++ a) ++ b)) i 0) ≤ (List.getD (shardsS n (([] ++ a) ++ b)) ((i : Int) - 1).toNat 0))))) = false) ∧ (!(inS (shardsS n a) (List.getD (shardsS n (([] ++ a) ++ b)) i 0))) = true) → allP [((((decide ((List.getD (shardsS n (([] ++ a) ++ b)) i 0) < 0)) || (decide (n ≤ (List.getD (shardsS n (([] ++ a) ++ b)) i 0)))) || ((decide (0 < (i : Int))) && (decide ((List.getD (shardsS n (([] ++ a) ++ b)) i 0) ≤ (List.getD (shardsS n (([] ++ a) ++ b)) ((i : Int) - 1).toNat 0))))) = false) ∧ (!(inS (shardsS n a) (List.getD (shardsS n (([] ++ a) ++ b)) i 0))) = true], ((((decide ((List.getD (shardsS n (([] ++ a) ++ b)) i 0) < 0)) || (decide (n ≤ (List.getD (shardsS n (([] ++ a) ++ b)) i 0)))) || ((decide (0 < (i : Int))) && (decide ((List.getD (shardsS n (([] ++ a) ++ b)) i 0) ≤ (List.getD (shardsS n (([] ++ a) ++ b)) ((i : Int) - 1).toNat 0))))) = false) → allP [(((decide ((List.getD (shardsS n (([] ++ a) ++ b)) i 0) < 0)) || (decide (n ≤ (List.getD (shardsS n (([] ++ a) ++ b)) i 0)))) || ((decide (0 < (i : Int))) && (decide ((List.getD (shardsS n (([] ++ a) ++ b)) i 0) ≤ (List.getD (shardsS n (([] ++ a) ++ b)) ((i : Int) - 1).toNat 0))))) = false, (!(inS (shardsS n a) (List.getD (shardsS n (([] ++ a) ++ b)) i 0))) = true → allP [((((decide ((List.getD (shardsS n (([] ++ a) ++ b)) i 0) < 0)) || (decide (n ≤ (List.getD (shardsS n (([] ++ a) ++ b)) i 0)))) || ((decide (0 < (i : Int))) && (decide ((List.getD (shardsS n (([] ++ a) ++ b)) i 0) ≤ (List.getD (shardsS n (([] ++ a) ++ b)) ((i : Int) - 1).toNat 0))))) = false) ∧ (!(inS (shardsS n a) (List.getD (shardsS n (([] ++ a) ++ b)) i 0))) = true]], (((decide ((List.getD (shardsS n (([] ++ a) ++ b)) i 0) < 0)) || (decide (n ≤ (List.getD (shardsS n (([] ++ a) ++ b)) i 0)))) || ((decide (0 < (i : Int))) && (decide ((List.getD (shardsS n (([] ++ a) ++ b)) i 0) ≤ (List.getD (shardsS n (([] ++ a) ++ b)) ((i : Int) - 1).toNat 0))))) = false → allP [(((decide ((List.getD (shardsS n (([] ++ a) ++ b)) i 0) < 0)) || (decide (n ≤ (List.getD (shardsS n (([] ++ a) ++ b)) i 0)))) || ((decide (0 < (i : Int))) && (decide ((List.getD (shardsS n (([] ++ a) ++ b)) i 0) ≤ (List.getD (shardsS n (([] ++ a) ++ b)) ((i : Int) - 1).toNat 0))))) = false]]) (s' := AS.lst 125 [(0, vc (i6 n)), (2, vc (SC.sl 1 Bytes [] rowS b)), (7, vc (SC.sl 1 Int 0 rowI (shardsS n a))), (8, vc (SC.sl 1 Int 0 rowI (shardsS n b))), (9, vc (SC.sl 1 Int 0 rowI (shardsS n (([] ++ a) ++ b)))), (10, vc (i6 (i : Int))), (95, vc (bo ((((decide ((List.getD (shardsS n (([] ++ a) ++ b)) i 0) < 0)) || (decide (n ≤ (List.getD (shardsS n (([] ++ a) ++ b)) i 0)))) || ((decide (0 < (i : Int))) && (decide ((List.getD (shardsS n (([] ++ a) ++ b)) i 0) ≤ (List.getD (shardsS n (([] ++ a) ++ b)) ((i : Int) - 1).toNat 0))))) || ((!(inS (shardsS n a) (List.getD (shardsS n (([] ++ a) ++ b)) i 0))) && (!(inS (shardsS n b) (List.getD (shardsS n (([] ++ a) ++ b)) i 0)))))))] []) mixed (by kernel_rfl) ?_ ?_
      · exact ⟨(show (0 : Int) ≤ (i : Int) from (by first | omega | (have hz := shards_len n (([] ++ a) ++ b); have hx := shards_len n a; omega))), (show (i : Int) < List.length (shardsS n (([] ++ a) ++ b) : List Int) from (by first | omega | (have hz := shards_len n (([] ++ a) ++ b); have hx := shards_len n a; omega))), (fun _ => trivial), (fun _ => trivial), (fun hp => by have hq := hp; (try simp only [decide_eq_true_eq, decide_eq_false_iff_not, Bool.and_eq_true, Bool.or_eq_true, Bool.and_eq_false_iff, Bool.or_eq_false_iff, Bool.not_eq_true', Bool.not_eq_false', Bool.not_eq_true, Bool.not_eq_false] at hq); exact ⟨hp, hp, (show (0 : Int) ≤ (i : Int) from (by first | omega | (have hz := shards_len n (([] ++ a) ++ b); have hx := shards_len n a; omega))), (show (i : Int) < List.length (shardsS n (([] ++ a) ++ b) : List Int) from (by first | omega | (have hz := shards_len n (([] ++ a) ++ b); have hx := shards_len n a; omega)))⟩), (fun hp => hp), (fun _ => trivial), (fun hp => ⟨hp, hp⟩), (fun hp2 => (by first | exact hp2 | exact ⟨hp, hp2⟩)), (fun _ => trivial), (fun hp => hp), (fun hp => hp), (fun _ => trivial), (fun _ => trivial), (fun hp => by have hq := hp; (try simp only [decide_eq_true_eq, decide_eq_false_iff_not, Bool.and_eq_true, Bool.or_eq_true, Bool.and_eq_false_iff, Bool.or_eq_false_iff, Bool.not_eq_true', Bool.not_eq_false', Bool.not_eq_true, Bool.not_eq_false] at hq); exact ⟨hp, (show InR .i64 ((i : Int) - 1) from (inR64 (by first | omega | (have hz := shards_len n (([] ++ a) ++ b); have hx := shards_len n a; omega)) (by first | omega | (have hz := shards_len n (([] ++ a) ++ b); have hx := shards_len n a; omega))))⟩), (fun hp => by have hq := hp; (try simp only [decide_eq_true_eq, decide_eq_false_iff_not, Bool.and_eq_true, Bool.or_eq_true, Bool.and_eq_false_iff, Bool.or_eq_false_iff, Bool.not_eq_true', Bool.not_eq_false', Bool.not_eq_true, Bool.not_eq_false] at hq); exact ⟨hp, hp, (show (0 : Int) ≤ (i : Int) - 1 from (by first | omega | (have hz := shards_len n (([] ++ a) ++ b); have hx := shards_len n a; omega))), (show (i : Int) - 1 < List.length (shardsS n (([] ++ a) ++ b) : List Int) from (by first | omega | (have hz := shards_len n (([] ++ a) ++ b); have hx := shards_len n a; omega)))⟩), (fun hp => hp), (fun _ => trivial), (fun _ => trivial), (fun hp => by have hq := hp; (try simp only [decide_eq_true_eq, decide_eq_false_iff_not, Bool.and_eq_true, Bool.or_eq_true, Bool.and_eq_false_iff, Bool.or_eq_false_iff, Bool.not_eq_true', Bool.not_eq_false', Bool.not_eq_true, Bool.not_eq_false] at hq); exact ⟨hp, hp, (show (0 : Int) ≤ (i : Int) from (by first | omega | (have hz := shards_len n (([] ++ a) ++ b); have hx := shards_len n a; omega))), (show (i : Int) < List.length (shardsS n (([] ++ a) ++ b) : List Int) from (by first | omega | (have hz := shards_len n (([] ++ a) ++ b); have hx := shards_len n a; omega)))⟩), (fun hp => hp), (fun hp => ⟨hp, hp⟩), (fun hp => by have hq := hp; (try simp only [decide_eq_true_eq, decide_eq_false_iff_not, Bool.and_eq_true, Bool.or_eq_true, Bool.and_eq_false_iff, Bool.or_eq_false_iff, Bool.not_eq_true', Bool.not_eq_false', Bool.not_eq_true, Bool.not_eq_false] at hq); exact ⟨hp, (fun hp2 => (by first | exact hp2 | exact ⟨hp, hp2⟩))⟩), (fun hp2 => (by first | exact hp2 | exact ⟨hp, hp2⟩)), (fun _ => trivial), (fun _ => trivial), (fun _ => trivial), (fun hp => by have hq := hp; (try simp only [decide_eq_true_eq, decide_eq_false_iff_not, Bool.and_eq_true, Bool.or_eq_true, Bool.and_eq_false_iff, Bool.or_eq_false_iff, Bool.not_eq_true', Bool.not_eq_false', Bool.not_eq_true, Bool.not_eq_false] at hq); exact ⟨hp, hp, (show (0 : Int) ≤ (i : Int) from (by first | omega | (have hz := shards_len n (([] ++ a) ++ b); have hx := shards_len n a; omega))), (show (i : Int) < List.length (shardsS n (([] ++ a) ++ b) : List Int) from (by first | omega | (have hz := shards_len n (([] ++ a) ++ b); have hx := shards_len n a; omega)))⟩), (fun hp => hp), (fun hp => by have hq := hp; (try simp only [decide_eq_true_eq, decide_eq_false_iff_not, Bool.and_eq_true, Bool.or_eq_true, Bool.and_eq_false_iff, Bool.or_eq_false_iff, Bool.not_eq_true', Bool.not_eq_false', Bool.not_eq_true, Bool.not_eq_false] at hq); exact ⟨hp, hp, (in_c (shardsS n a) (List.getD (shardsS n (([] ++ a) ++ b)) i 0))⟩), (fun hp => hp), (fun hp => hp), (fun _ => trivial), (fun _ => trivial), (fun _ => trivial), (fun hp => by have hq := hp; (try simp only [decide_eq_true_eq, decide_eq_false_iff_not, Bool.and_eq_true, Bool.or_eq_true, Bool.and_eq_false_iff, Bool.or_eq_false_iff, Bool.not_eq_true', Bool.not_eq_false', Bool.not_eq_true, Bool.not_eq_false] at hq); exact ⟨hp, hp, (show (0 : Int) ≤ (i : Int) from (by first | omega | (have hz := shards_len n (([] ++ a) ++ b); have hx := shards_len n a; omega))), (show (i : Int) < List.length (shardsS n (([] ++ a) ++ b) : List Int) from (by first | omega | (have hz := shards_len n (([] ++ a) ++ b); have hx := shards_len n a; omega)))⟩), (fun hp => hp), (fun hp => by have hq := hp; (try simp only [decide_eq_true_eq, decide_eq_false_iff_not, Bool.and_eq_true, Bool.or_eq_true, Bool.and_eq_false_iff, Bool.or_eq_false_iff, Bool.not_eq_true', Bool.not_eq_false', Bool.not_eq_true, Bool.not_eq_false] at hq); exact ⟨hp, hp, (in_c (shardsS n b) (List.getD (shardsS n (([] ++ a) ++ b)) i 0))⟩), (fun hp => hp), (fun hp => by have hq := hp; (try simp only [decide_eq_true_eq, decide_eq_false_iff_not, Bool.and_eq_true, Bool.or_eq_true, Bool.and_eq_false_iff, Bool.or_eq_false_iff, Bool.not_eq_true', Bool.not_eq_false', Bool.not_eq_true, Bool.not_eq_false] at hq); exact ⟨hp, (fun hp2 => (by first | exact hp2 | exact ⟨hp, hp2⟩))⟩), (fun hp2 => (by first | exact hp2 | exact ⟨hp, hp2⟩))⟩
      refine AMx.cond (b := ((((decide ((List.getD (shardsS n (([] ++ a) ++ b)) i 0) < 0)) || (decide (n ≤ (List.getD (shardsS n (([] ++ a) ++ b)) i 0)))) || ((decide (0 < (i : Int))) && (decide ((List.getD (shardsS n (([] ++ a) ++ b)) i 0) ≤ (List.getD (shardsS n (([] ++ a) ++ b)) ((i : Int) - 1).toNat 0))))) || ((!(inS (shardsS n a) (List.getD (shardsS n (([] ++ a) ++ b)) i 0))) && (!(inS (shardsS n b) (List.getD (shardsS n (([] ++ a) ++ b)) i 0)))))) (by kernel_rfl) (fun hc3 => ?_) (fun hc3 => ?_)
      · try simp only [decide_eq_true_eq, decide_eq_false_iff_not, Bool.and_eq_true, Bool.and_eq_false_iff, Bool.or_eq_true, Bool.or_eq_false_iff, Bool.not_eq_true', Bool.not_eq_false'] at hc3
        refine AMx.seq ?_
        refine AMx.region (ces := []) (ks := [6]) (hs := []) (cs := []) (s' := AS.lst 125 [(6, vc (bo false))] []) (by kernel_rfl) ?_ ?_
        · exact trivial
        refine AMx.ret ?_
        exact RetP.mk (r := vc (bo false)) (by kernel_rfl) (by exfalso; obtain ⟨f1, f2, f3⟩ := set_facts n a b (by omega) i (by omega); rcases hc3 with ((h | h) | h) | h <;> first | omega | (have := f2 (by omega); omega) | (rcases f3 with f | f <;> simp_all))
      · try simp only [decide_eq_true_eq, decide_eq_false_iff_not, Bool.and_eq_true, Bool.and_eq_false_iff, Bool.or_eq_true, Bool.or_eq_false_iff, Bool.not_eq_true', Bool.not_eq_false'] at hc3
        refine AMx.skip ?_
        refine AMx.blk ?_
        refine AMx.region (ces := []) (ks := [0, 2, 7, 8, 9, 10]) (hs := []) (cs := [InR .i64 ((i : Int) + 1)]) (s' := AS.lst 125 [(0, vc (i6 n)), (2, vc (SC.sl 1 Bytes [] rowS b)), (7, vc (SC.sl 1 Int 0 rowI (shardsS n a))), (8, vc (SC.sl 1 Int 0 rowI (shardsS n b))), (9, vc (SC.sl 1 Int 0 rowI (shardsS n (([] ++ a) ++ b)))), (10, vc (i6 ((i : Int) + 1)))] []) (by kernel_rfl) ?_ ?_
        · exact (show InR .i64 ((i : Int) + 1) from (inR64 (by first | omega | (have hz := shards_len n (([] ++ a) ++ b); have hx := shards_len n a; omega)) (by first | omega | (have hz := shards_len n (([] ++ a) ++ b); have hx := shards_len n a; omega))))
        refine AMx.ent_inv (s' := AS.lst 125 [(0, vc (i6 n)), (2, vc (SC.sl 1 Bytes [] rowS b)), (7, vc (SC.sl 1 Int 0 rowI (shardsS n a))), (8, vc (SC.sl 1 Int 0 rowI (shardsS n b))), (9, vc (SC.sl 1 Int 0 rowI (shardsS n (([] ++ a) ++ b)))), (10, vc (i6 ((i : Int) + 1)))] []) (ent_proj [0, 2, 7, 8, 9, 10] []) ?_
        refine AMx.inv ⟨_, ?_, i + 1, ?_, rfl, ?_⟩
        rotate_left
        · omega
        · rfl
        · omega
    · try simp only [decide_eq_true_eq, decide_eq_false_iff_not] at hc2
      refine AMx.exit ?_
      refine AMx.code_exit ?_
      refine AMx.inv_exit ?_
      refine AMx.blk_exit ?_
      refine AMx.seq ?_
      refine AMx.seq ?_
      refine AMx.region (ces := []) (ks := [0, 2, 7, 9, 11]) (hs := []) (cs := []) (s' := AS.lst 125 [(0, vc (i6 n)), (2, vc (SC.sl 1 Bytes [] rowS b)), (7, vc (SC.sl 1 Int 0 rowI (shardsS n a))), (9, vc (SC.sl 1 Int 0 rowI (shardsS n (([] ++ a) ++ b)))), (11, vc (i6 0))] []) (by kernel_rfl) ?_ ?_
      · exact trivial
      refine AMx.block ?_
      refine AMx.ent (s' := AS.lst 125 [(0, vc (i6 n)), (2, vc (SC.sl 1 Bytes [] rowS b)), (7, vc (SC.sl 1 Int 0 rowI (shardsS n a))), (9, vc (SC.sl 1 Int 0 rowI (shardsS n (([] ++ a) ++ b)))), (11, vc (i6 0))] []) (ent_proj [0, 2, 7, 9, 11] []) ?_
      refine AMx.loop (fun mm ss => ∃ (j : Nat), (j ≤ (shardsS n a).length) ∧ mm = (shardsS n a).length - j ∧ ss = AS.lst 125 [(0, vc (i6 n)), (2, vc (SC.sl 1 Bytes [] rowS b)), (7, vc (SC.sl 1 Int 0 rowI (shardsS n a))), (9, vc (SC.sl 1 Int 0 rowI (shardsS n (([] ++ a) ++ b)))), (11, vc (i6 (j : Int)))] []) ⟨0, ?_, rfl, ?_⟩ ?_
      · omega
      · rfl
      rintro mm ss ⟨j, hI, rfl, rfl⟩
      refine AMx.seq ?_
      refine AMx.seq ?_
      refine AMx.region (ces := []) (ks := [0, 2, 7, 9, 11, 99]) (hs := []) (cs := []) (s' := AS.lst 125 [(0, vc (i6 n)), (2, vc (SC.sl 1 Bytes [] rowS b)), (7, vc (SC.sl 1 Int 0 rowI (shardsS n a))), (9, vc (SC.sl 1 Int 0 rowI (shardsS n (([] ++ a) ++ b)))), (11, vc (i6 (j : Int))), (99, vc (bo (decide ((j : Int) < (List.length (shardsS n a : List Int) : Int)))))] []) (by kernel_rfl) ?_ ?_
      · exact trivial
      refine AMx.cond (b := decide ((j : Int) < (List.length (shardsS n a : List Int) : Int))) (by kernel_rfl) (fun hc4 => ?_) (fun hc4 => ?_)
      · try simp only [decide_eq_true_eq, decide_eq_false_iff_not] at hc4
        refine AMx.skip ?_
        refine AMx.seq ?_
        refine AMx.block ?_
        refine AMx.seq ?_
        refine AMx.region (ces := [(5, CE.call [] [] (vc (bo (inS (shardsS n (([] ++ a) ++ b)) (List.getD (shardsS n a) j 0)))) [])]) (ks := [0, 2, 7, 9, 11, 108]) (hs := []) (cs := [(0 : Int) ≤ (j : Int), (j : Int) < List.length (shardsS n a : List Int), Spec Try.prog 34 [tc (SC.sl 1 Int 0 rowI (shardsS n (([] ++ a) ++ b))), tc (i6 (List.getD (shardsS n a) j 0))] (ofH []) (vc (bo (inS (shardsS n (([] ++ a) ++ b)) (List.getD (shardsS n a) j 0)))) (ofH [])]) (s' := AS.lst 125 [(0, vc (i6 n)), (2, vc (SC.sl 1 Bytes [] rowS b)), (7, vc (SC.sl 1 Int 0 rowI (shardsS n a))), (9, vc (SC.sl 1 Int 0 rowI (shardsS n (([] ++ a) ++ b)))), (11, vc (i6 (j : Int))), (108, vc (bo (!(inS (shardsS n (([] ++ a) ++ b)) (List.getD (shardsS n a) j 0)))))] []) (by kernel_rfl) ?_ ?_
        · exact ⟨(show (0 : Int) ≤ (j : Int) from (by first | omega | (have hz := shards_len n (([] ++ a) ++ b); have hx := shards_len n a; omega))), (show (j : Int) < List.length (shardsS n a : List Int) from (by first | omega | (have hz := shards_len n (([] ++ a) ++ b); have hx := shards_len n a; omega))), (in_c (shardsS n (([] ++ a) ++ b)) (List.getD (shardsS n a) j 0))⟩
        refine AMx.cond (b := !(inS (shardsS n (([] ++ a) ++ b)) (List.getD (shardsS n a) j 0))) (by kernel_rfl) (fun hc5 => ?_) (fun hc5 => ?_)
        · try simp only [decide_eq_true_eq, decide_eq_false_iff_not, Bool.not_eq_true', Bool.not_eq_false'] at hc5
          refine AMx.seq ?_
          refine AMx.region (ces := []) (ks := [6]) (hs := []) (cs := []) (s' := AS.lst 125 [(6, vc (bo false))] []) (by kernel_rfl) ?_ ?_
          · exact trivial
          refine AMx.ret ?_
          exact RetP.mk (r := vc (bo false)) (by kernel_rfl) (by exfalso; have hf := set_a n a b (by omega) j (by omega); rw [hf] at hc5; cases hc5)
        · try simp only [decide_eq_true_eq, decide_eq_false_iff_not, Bool.not_eq_true', Bool.not_eq_false'] at hc5
          refine AMx.skip ?_
          refine AMx.blk ?_
          refine AMx.region (ces := []) (ks := [0, 2, 7, 9, 11]) (hs := []) (cs := [InR .i64 ((j : Int) + 1)]) (s' := AS.lst 125 [(0, vc (i6 n)), (2, vc (SC.sl 1 Bytes [] rowS b)), (7, vc (SC.sl 1 Int 0 rowI (shardsS n a))), (9, vc (SC.sl 1 Int 0 rowI (shardsS n (([] ++ a) ++ b)))), (11, vc (i6 ((j : Int) + 1)))] []) (by kernel_rfl) ?_ ?_
          · exact (show InR .i64 ((j : Int) + 1) from (inR64 (by first | omega | (have hz := shards_len n (([] ++ a) ++ b); have hx := shards_len n a; omega)) (by first | omega | (have hz := shards_len n (([] ++ a) ++ b); have hx := shards_len n a; omega))))
          refine AMx.ent_inv (s' := AS.lst 125 [(0, vc (i6 n)), (2, vc (SC.sl 1 Bytes [] rowS b)), (7, vc (SC.sl 1 Int 0 rowI (shardsS n a))), (9, vc (SC.sl 1 Int 0 rowI (shardsS n (([] ++ a) ++ b)))), (11, vc (i6 ((j : Int) + 1)))] []) (ent_proj [0, 2, 7, 9, 11] []) ?_
          refine AMx.inv ⟨_, ?_, j + 1, ?_, rfl, ?_⟩
          rotate_left
          · omega
          · rfl
          · omega
      · try simp only [decide_eq_true_eq, decide_eq_false_iff_not] at hc4
        refine AMx.exit ?_
        refine AMx.code_exit ?_
        refine AMx.inv_exit ?_
        refine AMx.blk_exit ?_
        refine AMx.seq ?_
        refine AMx.seq ?_
        refine AMx.region (ces := []) (ks := [0, 2, 9, 12]) (hs := []) (cs := []) (s' := AS.lst 125 [(0, vc (i6 n)), (2, vc (SC.sl 1 Bytes [] rowS b)), (9, vc (SC.sl 1 Int 0 rowI (shardsS n (([] ++ a) ++ b)))), (12, vc (i6 0))] []) (by kernel_rfl) ?_ ?_
        · exact trivial
        refine AMx.block ?_
        refine AMx.ent (s' := AS.lst 125 [(0, vc (i6 n)), (2, vc (SC.sl 1 Bytes [] rowS b)), (9, vc (SC.sl 1 Int 0 rowI (shardsS n (([] ++ a) ++ b)))), (12, vc (i6 0))] []) (ent_proj [0, 2, 9, 12] []) ?_
        refine AMx.loop (fun mm ss => ∃ (m : Nat), (m ≤ b.length) ∧ mm = b.length - m ∧ ss = AS.lst 125 [(0, vc (i6 n)), (2, vc (SC.sl 1 Bytes [] rowS b)), (9, vc (SC.sl 1 Int 0 rowI (shardsS n (([] ++ a) ++ b)))), (12, vc (i6 (m : Int)))] []) ⟨0, ?_, rfl, ?_⟩ ?_
        · omega
        · rfl
        rintro mm ss ⟨m, hI, rfl, rfl⟩
        refine AMx.seq ?_
        refine AMx.seq ?_
        refine AMx.region (ces := []) (ks := [0, 2, 9, 12, 112]) (hs := []) (cs := []) (s' := AS.lst 125 [(0, vc (i6 n)), (2, vc (SC.sl 1 Bytes [] rowS b)), (9, vc (SC.sl 1 Int 0 rowI (shardsS n (([] ++ a) ++ b)))), (12, vc (i6 (m : Int))), (112, vc (bo (decide ((m : Int) < (List.length b : Int)))))] []) (by kernel_rfl) ?_ ?_
        · exact trivial
        refine AMx.cond (b := decide ((m : Int) < (List.length b : Int))) (by kernel_rfl) (fun hc6 => ?_) (fun hc6 => ?_)
        · try simp only [decide_eq_true_eq, decide_eq_false_iff_not] at hc6
          refine AMx.skip ?_
          refine AMx.seq ?_
          refine AMx.block ?_
          refine AMx.seq ?_
          refine AMx.region (ces := [(6, CE.call [] [] (vc (i6 (shardS (List.getD b m []) n))) []), (7, CE.call [] [] (vc (bo (inS (shardsS n (([] ++ a) ++ b)) (shardS (List.getD b m []) n)))) [])]) (ks := [0, 2, 9, 12, 123]) (hs := []) (cs := [(0 : Int) ≤ (m : Int), (m : Int) < List.length b, Spec Try.prog 26 [tc (st (List.getD b m [])), tc (i6 n)] (ofH []) (vc (i6 (shardS (List.getD b m []) n))) (ofH []), Spec Try.prog 34 [tc (SC.sl 1 Int 0 rowI (shardsS n (([] ++ a) ++ b))), tc (i6 (shardS (List.getD b m []) n))] (ofH []) (vc (bo (inS (shardsS n (([] ++ a) ++ b)) (shardS (List.getD b m []) n)))) (ofH [])]) (s' := AS.lst 125 [(0, vc (i6 n)), (2, vc (SC.sl 1 Bytes [] rowS b)), (9, vc (SC.sl 1 Int 0 rowI (shardsS n (([] ++ a) ++ b)))), (12, vc (i6 (m : Int))), (123, vc (bo (!(inS (shardsS n (([] ++ a) ++ b)) (shardS (List.getD b m []) n)))))] []) (by kernel_rfl) ?_ ?_
          · exact ⟨(show (0 : Int) ≤ (m : Int) from (by first | omega | (have hz := shards_len n (([] ++ a) ++ b); have hx := shards_len n a; omega))), (show (m : Int) < List.length b from (by first | omega | (have hz := shards_len n (([] ++ a) ++ b); have hx := shards_len n a; omega))), (Shard_c (List.getD b m []) n), (in_c (shardsS n (([] ++ a) ++ b)) (shardS (List.getD b m []) n))⟩
          refine AMx.cond (b := !(inS (shardsS n (([] ++ a) ++ b)) (shardS (List.getD b m []) n))) (by kernel_rfl) (fun hc7 => ?_) (fun hc7 => ?_)
          · try simp only [decide_eq_true_eq, decide_eq_false_iff_not, Bool.not_eq_true', Bool.not_eq_false'] at hc7
            refine AMx.seq ?_
            refine AMx.region (ces := []) (ks := [6]) (hs := []) (cs := []) (s' := AS.lst 125 [(6, vc (bo false))] []) (by kernel_rfl) ?_ ?_
            · exact trivial
            refine AMx.ret ?_
            exact RetP.mk (r := vc (bo false)) (by kernel_rfl) (by exfalso; have hf := set_b n a b (by omega) m (by omega); rw [hf] at hc7; cases hc7)
          · try simp only [decide_eq_true_eq, decide_eq_false_iff_not, Bool.not_eq_true', Bool.not_eq_false'] at hc7
            refine AMx.skip ?_
            refine AMx.blk ?_
            refine AMx.region (ces := []) (ks := [0, 2, 9, 12]) (hs := []) (cs := [InR .i64 ((m : Int) + 1)]) (s' := AS.lst 125 [(0, vc (i6 n)), (2, vc (SC.sl 1 Bytes [] rowS b)), (9, vc (SC.sl 1 Int 0 rowI (shardsS n (([] ++ a) ++ b)))), (12, vc (i6 ((m : Int) + 1)))] []) (by kernel_rfl) ?_ ?_
            · exact (show InR .i64 ((m : Int) + 1) from (inR64 (by first | omega | (have hz := shards_len n (([] ++ a) ++ b); have hx := shards_len n a; omega)) (by first | omega | (have hz := shards_len n (([] ++ a) ++ b); have hx := shards_len n a; omega))))
            refine AMx.ent_inv (s' := AS.lst 125 [(0, vc (i6 n)), (2, vc (SC.sl 1 Bytes [] rowS b)), (9, vc (SC.sl 1 Int 0 rowI (shardsS n (([] ++ a) ++ b)))), (12, vc (i6 ((m : Int) + 1)))] []) (ent_proj [0, 2, 9, 12] []) ?_
            refine AMx.inv ⟨_, ?_, m + 1, ?_, rfl, ?_⟩
            rotate_left
            · omega
            · rfl
            · omega
        · try simp only [decide_eq_true_eq, decide_eq_false_iff_not] at hc6
          refine AMx.exit ?_
          refine AMx.code_exit ?_
          refine AMx.inv_exit ?_
          refine AMx.blk_exit ?_
          refine AMx.seq ?_
          refine AMx.region (ces := [(0, CE.call [] [] (vc (bo true)) [])]) (ks := [6]) (hs := []) (cs := [Spec Try.prog 21 [] (ofH []) (vc (bo true)) (ofH [])]) (s' := AS.lst 125 [(6, vc (bo true))] []) (by kernel_rfl) ?_ ?_
          · exact (awake_c)
          refine AMx.ret ?_
          exact RetP.mk (r := vc (bo true)) (by kernel_rfl) rfl

theorem f5_body : Try.f5.body = some (.seq (.region 0 (rg Try.f5 0) false) (.seq (.region 1 (rg Try.f5 1) true) (.seq (.seq (.region 2 (rg Try.f5 2) true) (.cond (.tmp 32) (.seq (.region 3 (rg Try.f5 3) false) (.ret)) (.skip))) (.seq (.region 4 (rg Try.f5 4) true) (.ret))))) := by kernel_rfl

set_option maxRecDepth 100000 in
set_option maxHeartbeats 8000000 in
theorem FnvUndoes_c (l b : Nat → Int) : Pure Try.prog 5 [TV.agg [.s (u6 (l 0)), .s (u6 (l 1))], TV.agg [.s (u8 (b 0)), .s (u8 (b 1))]] (vc (bo true)) := by
  refine Pure.of_body Try.func5 f5_body (by kernel_rfl) Try.ntmps5 (by kernel_rfl) (by kernel_rfl) ?_
  refine AMx.cell 0 0 rfl rfl (fun (h0 : InR .u64 (l 0)) => ?_)
  refine AMx.cell 0 1 rfl rfl (fun (h1 : InR .u64 (l 1)) => ?_)
  refine AMx.cell 1 0 rfl rfl (fun (h2 : InR .u8 (b 0)) => ?_)
  refine AMx.cell 1 1 rfl rfl (fun (h3 : InR .u8 (b 1)) => ?_)
  simp only [inRu64_iff, inR8_iff] at h0 h1 h2 h3
  refine AMx.seq ?_
  refine AMx.region (ces := []) (ks := [2, 3]) (hs := [2, 3]) (cs := []) (s' := AS.lst 64 [(2, vp 2 0), (3, vp 3 0)] [(2, AObj.row [.s (u6 (l 0)), .s (u6 (l 1))]), (3, AObj.row [.s (u8 (b 0)), .s (u8 (b 1))])]) (by kernel_rfl) ?_ ?_
  · exact trivial
  refine AMx.seq ?_
  refine AMx.region_draw (ces := [(4, CE.call [] [] (vc (u6 (addS (l 0) (b 0)))) []), (9, CE.call [] [] (vc (u6 (undoS (l 0) (b 0)))) [])]) (ros := [(0, [2]), (1, [2]), (2, [3]), (3, [3]), (5, [2]), (6, [2]), (7, [3]), (8, [3])]) (ks := [2, 3, 5, 6]) (hs := [2, 3]) (cs := [(0 : Int) ≤ 0, (0 : Int) < 2, (0 : Int) ≤ 0, (0 : Int) < 2, Spec Try.prog 22 [tc (u6 (l 0)), tc (u8 (b 0))] (ofH []) (vc (u6 (addS (l 0) (b 0)))) (ofH []), (0 : Int) ≤ 0, (0 : Int) < 2, (0 : Int) ≤ 0, (0 : Int) < 2, Spec Try.prog 33 [tc (u6 (l 0)), tc (u8 (b 0))] (ofH []) (vc (u6 (undoS (l 0) (b 0)))) (ofH [])]) (s' := AS.lst 64 [(2, vp 2 0), (3, vp 3 0), (5, vc (u6 (addS (l 0) (b 0)))), (6, vc (u6 (undoS (l 0) (b 0))))] [(2, AObj.row [.s (u6 (l 0)), .s (u6 (l 1))]), (3, AObj.row [.s (u8 (b 0)), .s (u8 (b 1))])]) mixed (by kernel_rfl) ?_ ?_
  · exact ⟨(show (0 : Int) ≤ 0 from (by omega)), (show (0 : Int) < 2 from (by omega)), (show (0 : Int) ≤ 0 from (by omega)), (show (0 : Int) < 2 from (by omega)), (Add_c (l 0) (b 0)), (show (0 : Int) ≤ 0 from (by omega)), (show (0 : Int) < 2 from (by omega)), (show (0 : Int) ≤ 0 from (by omega)), (show (0 : Int) < 2 from (by omega)), (Undo_c (l 0) (b 0))⟩
  refine AMx.seq ?_
  refine AMx.seq ?_
  refine AMx.region_draw (ces := [(3, CE.call [] [] (vc (u6 (undoS (addS (l 0) (b 0)) (b 0)))) []), (11, CE.call [] [] (vc (u6 (addS (undoS (l 0) (b 0)) (b 0)))) [])]) (ros := [(1, [3]), (2, [3]), (4, [2]), (5, [2]), (9, [3]), (10, [3]), (12, [2]), (13, [2])]) (ks := [2, 3, 5, 32]) (hs := [2, 3]) (cs := [(0 : Int) ≤ 0, (0 : Int) < 2, Spec Try.prog 33 [tc (u6 (addS (l 0) (b 0))), tc (u8 (b 0))] (ofH []) (vc (u6 (undoS (addS (l 0) (b 0)) (b 0)))) (ofH []), (0 : Int) ≤ 0, (0 : Int) < 2, ((!decide (undoS (addS (l 0) (b 0)) (b 0) = l 0)) = false) → allP [], ((!decide (undoS (addS (l 0) (b 0)) (b 0) = l 0)) = false) → allP [(0 : Int) ≤ 0, (0 : Int) < 2], ((!decide (undoS (addS (l 0) (b 0)) (b 0) = l 0)) = false) → allP [(!decide (undoS (addS (l 0) (b 0)) (b 0) = l 0)) = false], ((!decide (undoS (addS (l 0) (b 0)) (b 0) = l 0)) = false) → allP [(!decide (undoS (addS (l 0) (b 0)) (b 0) = l 0)) = false, (!decide (undoS (addS (l 0) (b 0)) (b 0) = l 0)) = false, Spec Try.prog 22 [tc (u6 (undoS (l 0) (b 0))), tc (u8 (b 0))] (ofH []) (vc (u6 (addS (undoS (l 0) (b 0)) (b 0)))) (ofH [])], ((!decide (undoS (addS (l 0) (b 0)) (b 0) = l 0)) = false) → allP [(0 : Int) ≤ 0, (0 : Int) < 2], ((!decide (undoS (addS (l 0) (b 0)) (b 0) = l 0)) = false) → allP [(!decide (undoS (addS (l 0) (b 0)) (b 0) = l 0)) = false], ((!decide (undoS (addS (l 0) (b 0)) (b 0) = l 0)) = false) → allP [(!decide (undoS (addS (l 0) (b 0)) (b 0) = l 0)) = false, (!decide (undoS (addS (l 0) (b 0)) (b 0) = l 0)) = false], (!decide (undoS (addS (l 0) (b 0)) (b 0) = l 0)) = false → allP [(!decide (undoS (addS (l 0) (b 0)) (b 0) = l 0)) = false]]) (s' := AS.lst 64 [(2, vp 2 0), (3, vp 3 0), (5, vc (u6 (addS (l 0) (b 0)))), (32, vc (bo ((!decide (undoS (addS (l 0) (b 0)) (b 0) = l 0)) || (!decide (addS (undoS (l 0) (b 0)) (b 0) = l 0)))))] [(2, AObj.row [.s (u6 (l 0)), .s (u6 (l 1))]), (3, AObj.row [.s (u8 (b 0)), .s (u8 (b 1))])]) mixed (by kernel_rfl) ?_ ?_
  · exact ⟨(show (0 : Int) ≤ 0 from (by omega)), (show (0 : Int) < 2 from (by omega)), (Undo_c (addS (l 0) (b 0)) (b 0)), (show (0 : Int) ≤ 0 from (by omega)), (show (0 : Int) < 2 from (by omega)), (fun _ => trivial), (fun hp => by have hq := hp; (try simp only [decide_eq_true_eq, decide_eq_false_iff_not, Bool.and_eq_true, Bool.or_eq_true, Bool.and_eq_false_iff, Bool.or_eq_false_iff, Bool.not_eq_true', Bool.not_eq_false', Bool.not_eq_true, Bool.not_eq_false] at hq); exact ⟨(show (0 : Int) ≤ 0 from (by omega)), (show (0 : Int) < 2 from (by omega))⟩), (fun hp => hp), (fun hp => by have hq := hp; (try simp only [decide_eq_true_eq, decide_eq_false_iff_not, Bool.and_eq_true, Bool.or_eq_true, Bool.and_eq_false_iff, Bool.or_eq_false_iff, Bool.not_eq_true', Bool.not_eq_false', Bool.not_eq_true, Bool.not_eq_false] at hq); exact ⟨hp, hp, (Add_c (undoS (l 0) (b 0)) (b 0))⟩), (fun hp => by have hq := hp; (try simp only [decide_eq_true_eq, decide_eq_false_iff_not, Bool.and_eq_true, Bool.or_eq_true, Bool.and_eq_false_iff, Bool.or_eq_false_iff, Bool.not_eq_true', Bool.not_eq_false', Bool.not_eq_true, Bool.not_eq_false] at hq); exact ⟨(show (0 : Int) ≤ 0 from (by omega)), (show (0 : Int) < 2 from (by omega))⟩), (fun hp => hp), (fun hp => ⟨hp, hp⟩), (fun hp2 => (by first | exact hp2 | exact ⟨hp, hp2⟩))⟩
  refine AMx.cond (b := ((!decide (undoS (addS (l 0) (b 0)) (b 0) = l 0)) || (!decide (addS (undoS (l 0) (b 0)) (b 0) = l 0)))) (by kernel_rfl) (fun hc1 => ?_) (fun hc1 => ?_)
  · try simp only [decide_eq_true_eq, decide_eq_false_iff_not, Bool.or_eq_true, Bool.or_eq_false_iff, Bool.not_eq_true', Bool.not_eq_false'] at hc1
    refine AMx.seq ?_
    refine AMx.region (ces := []) (ks := [4]) (hs := []) (cs := []) (s' := AS.lst 64 [(4, vc (bo false))] []) (by kernel_rfl) ?_ ?_
    · exact trivial
    refine AMx.ret ?_
    exact RetP.mk (r := vc (bo false)) (by kernel_rfl) (by exfalso; rcases hc1 with h | h <;> first | exact h (undo_add _ _ (by omega)) | exact h (add_undo _ _ (by omega)))
  · try simp only [decide_eq_true_eq, decide_eq_false_iff_not, Bool.or_eq_true, Bool.or_eq_false_iff, Bool.not_eq_true', Bool.not_eq_false'] at hc1
    refine AMx.skip ?_
    refine AMx.seq ?_
    refine AMx.region_draw (ces := [(4, CE.call [] [] (vc (u6 (addS (l 1) (b 0)))) []), (18, CE.call [] [] (vc (u6 (addS (l 0) (b 1)))) []), (29, CE.call [] [] (vc (bo true)) [])]) (ros := [(0, [2]), (1, [2]), (2, [3]), (3, [3]), (7, [2]), (8, [2]), (9, [2]), (10, [2]), (14, [2]), (15, [2]), (16, [3]), (17, [3]), (21, [3]), (22, [3]), (23, [3]), (24, [3])]) (ks := [4]) (hs := []) (cs := [(0 : Int) ≤ 1, (1 : Int) < 2, (0 : Int) ≤ 0, (0 : Int) < 2, Spec Try.prog 22 [tc (u6 (l 1)), tc (u8 (b 0))] (ofH []) (vc (u6 (addS (l 1) (b 0)))) (ofH []), (0 : Int) ≤ 0, (0 : Int) < 2, (0 : Int) ≤ 1, (1 : Int) < 2, (((decide (addS (l 1) (b 0) = addS (l 0) (b 0))) == (decide (l 0 = l 1))) = true) → allP [(0 : Int) ≤ 0, (0 : Int) < 2], (((decide (addS (l 1) (b 0) = addS (l 0) (b 0))) == (decide (l 0 = l 1))) = true) → allP [((decide (addS (l 1) (b 0) = addS (l 0) (b 0))) == (decide (l 0 = l 1))) = true], (((decide (addS (l 1) (b 0) = addS (l 0) (b 0))) == (decide (l 0 = l 1))) = true) → allP [(0 : Int) ≤ 1, (1 : Int) < 2], (((decide (addS (l 1) (b 0) = addS (l 0) (b 0))) == (decide (l 0 = l 1))) = true) → allP [((decide (addS (l 1) (b 0) = addS (l 0) (b 0))) == (decide (l 0 = l 1))) = true], (((decide (addS (l 1) (b 0) = addS (l 0) (b 0))) == (decide (l 0 = l 1))) = true) → allP [((decide (addS (l 1) (b 0) = addS (l 0) (b 0))) == (decide (l 0 = l 1))) = true, ((decide (addS (l 1) (b 0) = addS (l 0) (b 0))) == (decide (l 0 = l 1))) = true, Spec Try.prog 22 [tc (u6 (l 0)), tc (u8 (b 1))] (ofH []) (vc (u6 (addS (l 0) (b 1)))) (ofH [])], (((decide (addS (l 1) (b 0) = addS (l 0) (b 0))) == (decide (l 0 = l 1))) = true) → allP [], (((decide (addS (l 1) (b 0) = addS (l 0) (b 0))) == (decide (l 0 = l 1))) = true) → allP [((decide (addS (l 1) (b 0) = addS (l 0) (b 0))) == (decide (l 0 = l 1))) = true, ((decide (addS (l 1) (b 0) = addS (l 0) (b 0))) == (decide (l 0 = l 1))) = true], (((decide (addS (l 1) (b 0) = addS (l 0) (b 0))) == (decide (l 0 = l 1))) = true) → allP [(0 : Int) ≤ 0, (0 : Int) < 2], (((decide (addS (l 1) (b 0) = addS (l 0) (b 0))) == (decide (l 0 = l 1))) = true) → allP [((decide (addS (l 1) (b 0) = addS (l 0) (b 0))) == (decide (l 0 = l 1))) = true], (((decide (addS (l 1) (b 0) = addS (l 0) (b 0))) == (decide (l 0 = l 1))) = true) → allP [(0 : Int) ≤ 1, (1 : Int) < 2], (((decide (addS (l 1) (b 0) = addS (l 0) (b 0))) == (decide (l 0 = l 1))) = true) → allP [((decide (addS (l 1) (b 0) = addS (l 0) (b 0))) == (decide (l 0 = l 1))) = true], (((decide (addS (l 1) (b 0) = addS (l 0) (b 0))) == (decide (l 0 = l 1))) = true) → allP [((decide (addS (l 1) (b 0) = addS (l 0) (b 0))) == (decide (l 0 = l 1))) = true, ((decide (addS (l 1) (b 0) = addS (l 0) (b 0))) == (decide (l 0 = l 1))) = true], (((decide (addS (l 1) (b 0) = addS (l 0) (b 0))) == (decide (l 0 = l 1))) = true) → allP [((decide (addS (l 1) (b 0) = addS (l 0) (b 0))) == (decide (l 0 = l 1))) = true, ((decide (addS (l 1) (b 0) = addS (l 0) (b 0))) == (decide (l 0 = l 1))) = true], ((decide (addS (l 1) (b 0) = addS (l 0) (b 0))) == (decide (l 0 = l 1))) = true → allP [((decide (addS (l 1) (b 0) = addS (l 0) (b 0))) == (decide (l 0 = l 1))) = true], ((((decide (addS (l 1) (b 0) = addS (l 0) (b 0))) == (decide (l 0 = l 1))) && ((decide (addS (l 0) (b 1) = addS (l 0) (b 0))) == (decide (b 0 = b 1)))) = true) → allP [Spec Try.prog 21 [] (ofH []) (vc (bo true)) (ofH [])], (((decide (addS (l 1) (b 0) = addS (l 0) (b 0))) == (decide (l 0 = l 1))) && ((decide (addS (l 0) (b 1) = addS (l 0) (b 0))) == (decide (b 0 = b 1)))) = true → allP [(((decide (addS (l 1) (b 0) = addS (l 0) (b 0))) == (decide (l 0 = l 1))) && ((decide (addS (l 0) (b 1) = addS (l 0) (b 0))) == (decide (b 0 = b 1)))) = true]]) (s' := AS.lst 64 [(4, vc (bo ((((decide (addS (l 1) (b 0) = addS (l 0) (b 0))) == (decide (l 0 = l 1))) && ((decide (addS (l 0) (b 1) = addS (l 0) (b 0))) == (decide (b 0 = b 1)))) && true)))] []) mixed (by kernel_rfl) ?_ ?_
    · exact ⟨(show (0 : Int) ≤ 1 from (by omega)), (show (1 : Int) < 2 from (by omega)), (show (0 : Int) ≤ 0 from (by omega)), (show (0 : Int) < 2 from (by omega)), (Add_c (l 1) (b 0)), (show (0 : Int) ≤ 0 from (by omega)), (show (0 : Int) < 2 from (by omega)), (show (0 : Int) ≤ 1 from (by omega)), (show (1 : Int) < 2 from (by omega)), (fun hp => by have hq := hp; (try simp only [decide_eq_true_eq, decide_eq_false_iff_not, Bool.and_eq_true, Bool.or_eq_true, Bool.and_eq_false_iff, Bool.or_eq_false_iff, Bool.not_eq_true', Bool.not_eq_false', Bool.not_eq_true, Bool.not_eq_false] at hq); exact ⟨(show (0 : Int) ≤ 0 from (by omega)), (show (0 : Int) < 2 from (by omega))⟩), (fun hp => hp), (fun hp => by have hq := hp; (try simp only [decide_eq_true_eq, decide_eq_false_iff_not, Bool.and_eq_true, Bool.or_eq_true, Bool.and_eq_false_iff, Bool.or_eq_false_iff, Bool.not_eq_true', Bool.not_eq_false', Bool.not_eq_true, Bool.not_eq_false] at hq); exact ⟨(show (0 : Int) ≤ 1 from (by omega)), (show (1 : Int) < 2 from (by omega))⟩), (fun hp => hp), (fun hp => by have hq := hp; (try simp only [decide_eq_true_eq, decide_eq_false_iff_not, Bool.and_eq_true, Bool.or_eq_true, Bool.and_eq_false_iff, Bool.or_eq_false_iff, Bool.not_eq_true', Bool.not_eq_false', Bool.not_eq_true, Bool.not_eq_false] at hq); exact ⟨hp, hp, (Add_c (l 0) (b 1))⟩), (fun _ => trivial), (fun hp => ⟨hp, hp⟩), (fun hp => by have hq := hp; (try simp only [decide_eq_true_eq, decide_eq_false_iff_not, Bool.and_eq_true, Bool.or_eq_true, Bool.and_eq_false_iff, Bool.or_eq_false_iff, Bool.not_eq_true', Bool.not_eq_false', Bool.not_eq_true, Bool.not_eq_false] at hq); exact ⟨(show (0 : Int) ≤ 0 from (by omega)), (show (0 : Int) < 2 from (by omega))⟩), (fun hp => hp), (fun hp => by have hq := hp; (try simp only [decide_eq_true_eq, decide_eq_false_iff_not, Bool.and_eq_true, Bool.or_eq_true, Bool.and_eq_false_iff, Bool.or_eq_false_iff, Bool.not_eq_true', Bool.not_eq_false', Bool.not_eq_true, Bool.not_eq_false] at hq); exact ⟨(show (0 : Int) ≤ 1 from (by omega)), (show (1 : Int) < 2 from (by omega))⟩), (fun hp => hp), (fun hp => ⟨hp, hp⟩), (fun hp => ⟨hp, hp⟩), (fun hp2 => (by first | exact hp2 | exact ⟨hp, hp2⟩)), (fun hp => by have hq := hp; (try simp only [decide_eq_true_eq, decide_eq_false_iff_not, Bool.and_eq_true, Bool.or_eq_true, Bool.and_eq_false_iff, Bool.or_eq_false_iff, Bool.not_eq_true', Bool.not_eq_false', Bool.not_eq_true, Bool.not_eq_false] at hq); exact (awake_c)), (fun hp2 => (by first | exact hp2 | exact ⟨hp, hp2⟩))⟩
    refine AMx.ret ?_
    exact RetP.mk (r := vc (bo ((((decide (addS (l 1) (b 0) = addS (l 0) (b 0))) == (decide (l 0 = l 1))) && ((decide (addS (l 0) (b 1) = addS (l 0) (b 0))) == (decide (b 0 = b 1)))) && true))) (by kernel_rfl) (by rw [add_inj _ _ _ (by omega) (by omega), add_inj2 _ _ _ (by omega) (by omega) (by omega)]; simp)

end AL.Fnv
