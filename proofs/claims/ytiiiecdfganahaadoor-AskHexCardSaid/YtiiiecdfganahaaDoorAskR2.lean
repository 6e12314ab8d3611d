/- ask: the contracts of its functions, by their walks. No condition. -/
import Derived.Test.YtiiiecdfganahaaDoorAskB
import Derived.Test.YtiiiecdfganahaaDoorAskR
namespace AL.Ask
open Go Go.Proofs AL
set_option linter.unusedVariables false
set_option linter.unusedSimpArgs false

theorem f8_body : Tryd.f8.body = some (.seq (.region 0 (rg Tryd.f8 0) false) (.seq (.region 1 (rg Tryd.f8 1) false) (.seq (.seq (.region 2 (rg Tryd.f8 2) false) (.block 0 (.loop (.seq (.seq (.region 3 (rg Tryd.f8 3) false) (.cond (.tmp 13) (.skip) (.exit 0))) (.seq (.block 1 (.seq (.region 5 (rg Tryd.f8 5) false) (.seq (.seq (.region 6 (rg Tryd.f8 6) false) (.block 2 (.loop (.seq (.seq (.region 7 (rg Tryd.f8 7) false) (.cond (.tmp 17) (.skip) (.exit 2))) (.seq (.block 3 (.seq (.region 9 (rg Tryd.f8 9) false) (.seq (.region 10 (rg Tryd.f8 10) false) (.cond (.tmp 27) (.region 11 (rg Tryd.f8 11) false) (.region 12 (rg Tryd.f8 12) false))))) (.region 8 (rg Tryd.f8 8) false)))))) (.region 13 (rg Tryd.f8 13) false)))) (.region 4 (rg Tryd.f8 4) false)))))) (.seq (.seq (.region 14 (rg Tryd.f8 14) false) (.cond (.tmp 47) (.seq (.region 15 (rg Tryd.f8 15) false) (.ret)) (.skip))) (.seq (.region 16 (rg Tryd.f8 16) false) (.ret)))))) := by kernel_rfl

set_option maxRecDepth 100000 in
set_option maxHeartbeats 8000000 in
theorem RUnhex_c (s : Bytes) (hb : s.length ≤ 100000) : Pure Tryd.prog 8 [tc (st s)] (AV.tup [tc (st ((unhexS s).1)), tc (bo ((unhexS s).2))]) := by
  refine Pure.of_body Tryd.func8 f8_body (by kernel_rfl) Tryd.ntmps8 (by kernel_rfl) (by kernel_rfl) ?_
  refine AMx.seq ?_
  refine AMx.region (ces := []) (ks := [0]) (hs := []) (cs := []) (s' := AS.lst 50 [(0, vc (st s))] []) (by kernel_rfl) ?_ ?_
  · exact trivial
  refine AMx.seq ?_
  refine AMx.region (ces := []) (ks := [0, 4]) (hs := []) (cs := []) (s' := AS.lst 50 [(0, vc (st s)), (4, vc (SC.nilsl))] []) (by kernel_rfl) ?_ ?_
  · exact trivial
  refine AMx.seq ?_
  refine AMx.seq ?_
  refine AMx.region (ces := []) (ks := [0, 4, 5]) (hs := []) (cs := []) (s' := AS.lst 50 [(0, vc (st s)), (4, vc (SC.nilsl)), (5, vc (i6 0))] []) (by kernel_rfl) ?_ ?_
  · exact trivial
  refine AMx.block ?_
  refine AMx.ent (s' := AS.lst 50 [(0, vc (st s)), (4, vo 4), (5, vc (i6 0))] [(4, AObj.grow 5 1 UInt8 0 rowU8 [])]) (ent_adopt (t := 4) (d := 4) 5 1 UInt8 0 rowU8 (by kernel_rfl) (by kernel_rfl) (by kernel_rfl) (by kernel_rfl)) ?_
  refine AMx.ent (s' := AS.lst 50 [(0, vc (st s)), (4, vo 4), (5, vc (i6 0))] [(4, AObj.grow 5 1 UInt8 0 rowU8 [])]) (ent_proj [0, 4, 5] [4]) ?_
  refine AMx.loop (fun mm ss => ∃ (k : Nat), (2 * k ≤ s.length) ∧ mm = s.length - 2 * k ∧ ss = AS.lst 50 [(0, vc (st s)), (4, vo 4), (5, vc (i6 ((2 * k : Nat) : Int)))] [(4, AObj.grow 5 1 UInt8 0 rowU8 (refU s k))]) ⟨0, ?_, rfl, ?_⟩ ?_
  · omega
  · rfl
  rintro mm ss ⟨k, hI, rfl, rfl⟩
  refine AMx.seq ?_
  refine AMx.seq ?_
  refine AMx.region (ces := []) (ks := [0, 4, 5, 13]) (hs := [4]) (cs := [InR .i64 (((2 * k : Nat) : Int) + 1)]) (s' := AS.lst 50 [(0, vc (st s)), (4, vo 4), (5, vc (i6 ((2 * k : Nat) : Int))), (13, vc (bo (decide (((2 * k : Nat) : Int) + 1 < (List.length s : Int)))))] [(4, AObj.grow 5 1 UInt8 0 rowU8 (refU s k))]) (by kernel_rfl) ?_ ?_
  · exact (show InR .i64 (((2 * k : Nat) : Int) + 1) from (inR64 (by first | omega | (have hr := acc_rng s (2 * k) (j := j) (by omega); have hb2 := UInt8.toNat_lt (List.getD s (2 * k + j) 0); omega) | ((try simp only [List.length_append, List.length_cons, List.length_nil, List.length_replicate, List.length_map, List.length_take, List.length_drop, hex_len, refU_len]); omega)) (by first | omega | (have hr := acc_rng s (2 * k) (j := j) (by omega); have hb2 := UInt8.toNat_lt (List.getD s (2 * k + j) 0); omega) | ((try simp only [List.length_append, List.length_cons, List.length_nil, List.length_replicate, List.length_map, List.length_take, List.length_drop, hex_len, refU_len]); omega))))
  refine AMx.cond (b := decide (((2 * k : Nat) : Int) + 1 < (List.length s : Int))) (by kernel_rfl) (fun hc1 => ?_) (fun hc1 => ?_)
  · try simp only [decide_eq_true_eq, decide_eq_false_iff_not] at hc1
    refine AMx.skip ?_
    refine AMx.seq ?_
    refine AMx.block ?_
    refine AMx.seq ?_
    refine AMx.region (ces := []) (ks := [0, 4, 5, 6]) (hs := [4]) (cs := []) (s' := AS.lst 50 [(0, vc (st s)), (4, vo 4), (5, vc (i6 ((2 * k : Nat) : Int))), (6, vc (i6 0))] [(4, AObj.grow 5 1 UInt8 0 rowU8 (refU s k))]) (by kernel_rfl) ?_ ?_
    · exact trivial
    refine AMx.seq ?_
    refine AMx.seq ?_
    refine AMx.region (ces := []) (ks := [0, 4, 5, 6, 7]) (hs := [4]) (cs := []) (s' := AS.lst 50 [(0, vc (st s)), (4, vo 4), (5, vc (i6 ((2 * k : Nat) : Int))), (6, vc (i6 0)), (7, vc (i6 0))] [(4, AObj.grow 5 1 UInt8 0 rowU8 (refU s k))]) (by kernel_rfl) ?_ ?_
    · exact trivial
    refine AMx.block ?_
    refine AMx.ent (s' := AS.lst 50 [(0, vc (st s)), (4, vo 4), (5, vc (i6 ((2 * k : Nat) : Int))), (6, vc (i6 0)), (7, vc (i6 0))] [(4, AObj.grow 5 1 UInt8 0 rowU8 (refU s k))]) (ent_proj [0, 4, 5, 6, 7] [4]) ?_
    refine AMx.loop (fun mm ss => ∃ (j : Nat), (j ≤ 2) ∧ mm = 2 - j ∧ ss = AS.lst 50 [(0, vc (st s)), (4, vo 4), (5, vc (i6 ((2 * k : Nat) : Int))), (6, vc (i6 (accR s (2 * k) j))), (7, vc (i6 (j : Int)))] [(4, AObj.grow 5 1 UInt8 0 rowU8 (refU s k))]) ⟨0, ?_, rfl, ?_⟩ ?_
    · omega
    · rfl
    rintro mm ss ⟨j, hI, rfl, rfl⟩
    refine AMx.seq ?_
    refine AMx.seq ?_
    refine AMx.region (ces := []) (ks := [0, 4, 5, 6, 7, 17]) (hs := [4]) (cs := []) (s' := AS.lst 50 [(0, vc (st s)), (4, vo 4), (5, vc (i6 ((2 * k : Nat) : Int))), (6, vc (i6 (accR s (2 * k) j))), (7, vc (i6 (j : Int))), (17, vc (bo (decide ((j : Int) < 2))))] [(4, AObj.grow 5 1 UInt8 0 rowU8 (refU s k))]) (by kernel_rfl) ?_ ?_
    · exact trivial
    refine AMx.cond (b := decide ((j : Int) < 2)) (by kernel_rfl) (fun hc2 => ?_) (fun hc2 => ?_)
    · try simp only [decide_eq_true_eq, decide_eq_false_iff_not] at hc2
      refine AMx.skip ?_
      refine AMx.seq ?_
      refine AMx.block ?_
      refine AMx.seq ?_
      refine AMx.region (ces := []) (ks := [0, 4, 5, 6, 7, 8]) (hs := [4]) (cs := [InR .i64 (((2 * k : Nat) : Int) + (j : Int)), (0 : Int) ≤ ((2 * k : Nat) : Int) + (j : Int), ((2 * k : Nat) : Int) + (j : Int) < List.length s]) (s' := AS.lst 50 [(0, vc (st s)), (4, vo 4), (5, vc (i6 ((2 * k : Nat) : Int))), (6, vc (i6 (accR s (2 * k) j))), (7, vc (i6 (j : Int))), (8, vc (i6 ((List.getD s ((2 * k) + j) 0).toNat : Int)))] [(4, AObj.grow 5 1 UInt8 0 rowU8 (refU s k))]) (by kernel_rfl) ?_ ?_
      · exact ⟨(show InR .i64 (((2 * k : Nat) : Int) + (j : Int)) from (inR64 (by first | omega | (have hr := acc_rng s (2 * k) (j := j) (by omega); have hb2 := UInt8.toNat_lt (List.getD s (2 * k + j) 0); omega) | ((try simp only [List.length_append, List.length_cons, List.length_nil, List.length_replicate, List.length_map, List.length_take, List.length_drop, hex_len, refU_len]); omega)) (by first | omega | (have hr := acc_rng s (2 * k) (j := j) (by omega); have hb2 := UInt8.toNat_lt (List.getD s (2 * k + j) 0); omega) | ((try simp only [List.length_append, List.length_cons, List.length_nil, List.length_replicate, List.length_map, List.length_take, List.length_drop, hex_len, refU_len]); omega)))), (show (0 : Int) ≤ ((2 * k : Nat) : Int) + (j : Int) from (by first | omega | (have hr := acc_rng s (2 * k) (j := j) (by omega); have hb2 := UInt8.toNat_lt (List.getD s (2 * k + j) 0); omega) | ((try simp only [List.length_append, List.length_cons, List.length_nil, List.length_replicate, List.length_map, List.length_take, List.length_drop, hex_len, refU_len]); omega))), (show ((2 * k : Nat) : Int) + (j : Int) < List.length s from (by first | omega | (have hr := acc_rng s (2 * k) (j := j) (by omega); have hb2 := UInt8.toNat_lt (List.getD s (2 * k + j) 0); omega) | ((try simp only [List.length_append, List.length_cons, List.length_nil, List.length_replicate, List.length_map, List.length_take, List.length_drop, hex_len, refU_len]); omega)))⟩
      refine AMx.seq ?_
      refine AMx.region (ces := []) (ks := [0, 4, 5, 6, 7, 8, 27]) (hs := [4]) (cs := []) (s' := AS.lst 50 [(0, vc (st s)), (4, vo 4), (5, vc (i6 ((2 * k : Nat) : Int))), (6, vc (i6 (accR s (2 * k) j))), (7, vc (i6 (j : Int))), (8, vc (i6 ((List.getD s ((2 * k) + j) 0).toNat : Int))), (27, vc (bo (decide (97 ≤ ((List.getD s ((2 * k) + j) 0).toNat : Int)))))] [(4, AObj.grow 5 1 UInt8 0 rowU8 (refU s k))]) (by kernel_rfl) ?_ ?_
      · exact trivial
      refine AMx.cond (b := decide (97 ≤ ((List.getD s ((2 * k) + j) 0).toNat : Int))) (by kernel_rfl) (fun hc3 => ?_) (fun hc3 => ?_)
      · try simp only [decide_eq_true_eq, decide_eq_false_iff_not] at hc3
        refine AMx.region (ces := []) (ks := [0, 4, 5, 6, 7]) (hs := [4]) (cs := [InR .i64 (16 * (accR s (2 * k) j)), InR .i64 ((16 * (accR s (2 * k) j)) + ((List.getD s ((2 * k) + j) 0).toNat : Int)), InR .i64 (((16 * (accR s (2 * k) j)) + ((List.getD s ((2 * k) + j) 0).toNat : Int)) - 87)]) (s' := AS.lst 50 [(0, vc (st s)), (4, vo 4), (5, vc (i6 ((2 * k : Nat) : Int))), (6, vc (i6 (((16 * (accR s (2 * k) j)) + ((List.getD s ((2 * k) + j) 0).toNat : Int)) - 87))), (7, vc (i6 (j : Int)))] [(4, AObj.grow 5 1 UInt8 0 rowU8 (refU s k))]) (by kernel_rfl) ?_ ?_
        · exact ⟨(show InR .i64 (16 * (accR s (2 * k) j)) from (inR64 (by first | omega | (have hr := acc_rng s (2 * k) (j := j) (by omega); have hb2 := UInt8.toNat_lt (List.getD s (2 * k + j) 0); omega) | ((try simp only [List.length_append, List.length_cons, List.length_nil, List.length_replicate, List.length_map, List.length_take, List.length_drop, hex_len, refU_len]); omega)) (by first | omega | (have hr := acc_rng s (2 * k) (j := j) (by omega); have hb2 := UInt8.toNat_lt (List.getD s (2 * k + j) 0); omega) | ((try simp only [List.length_append, List.length_cons, List.length_nil, List.length_replicate, List.length_map, List.length_take, List.length_drop, hex_len, refU_len]); omega)))), (show InR .i64 ((16 * (accR s (2 * k) j)) + ((List.getD s ((2 * k) + j) 0).toNat : Int)) from (inR64 (by first | omega | (have hr := acc_rng s (2 * k) (j := j) (by omega); have hb2 := UInt8.toNat_lt (List.getD s (2 * k + j) 0); omega) | ((try simp only [List.length_append, List.length_cons, List.length_nil, List.length_replicate, List.length_map, List.length_take, List.length_drop, hex_len, refU_len]); omega)) (by first | omega | (have hr := acc_rng s (2 * k) (j := j) (by omega); have hb2 := UInt8.toNat_lt (List.getD s (2 * k + j) 0); omega) | ((try simp only [List.length_append, List.length_cons, List.length_nil, List.length_replicate, List.length_map, List.length_take, List.length_drop, hex_len, refU_len]); omega)))), (show InR .i64 (((16 * (accR s (2 * k) j)) + ((List.getD s ((2 * k) + j) 0).toNat : Int)) - 87) from (inR64 (by first | omega | (have hr := acc_rng s (2 * k) (j := j) (by omega); have hb2 := UInt8.toNat_lt (List.getD s (2 * k + j) 0); omega) | ((try simp only [List.length_append, List.length_cons, List.length_nil, List.length_replicate, List.length_map, List.length_take, List.length_drop, hex_len, refU_len]); omega)) (by first | omega | (have hr := acc_rng s (2 * k) (j := j) (by omega); have hb2 := UInt8.toNat_lt (List.getD s (2 * k + j) 0); omega) | ((try simp only [List.length_append, List.length_cons, List.length_nil, List.length_replicate, List.length_map, List.length_take, List.length_drop, hex_len, refU_len]); omega))))⟩
        refine AMx.blk ?_
        refine AMx.region (ces := []) (ks := [0, 4, 5, 6, 7]) (hs := [4]) (cs := [InR .i64 ((j : Int) + 1)]) (s' := AS.lst 50 [(0, vc (st s)), (4, vo 4), (5, vc (i6 ((2 * k : Nat) : Int))), (6, vc (i6 (((16 * (accR s (2 * k) j)) + ((List.getD s ((2 * k) + j) 0).toNat : Int)) - 87))), (7, vc (i6 ((j : Int) + 1)))] [(4, AObj.grow 5 1 UInt8 0 rowU8 (refU s k))]) (by kernel_rfl) ?_ ?_
        · exact (show InR .i64 ((j : Int) + 1) from (inR64 (by first | omega | (have hr := acc_rng s (2 * k) (j := j) (by omega); have hb2 := UInt8.toNat_lt (List.getD s (2 * k + j) 0); omega) | ((try simp only [List.length_append, List.length_cons, List.length_nil, List.length_replicate, List.length_map, List.length_take, List.length_drop, hex_len, refU_len]); omega)) (by first | omega | (have hr := acc_rng s (2 * k) (j := j) (by omega); have hb2 := UInt8.toNat_lt (List.getD s (2 * k + j) 0); omega) | ((try simp only [List.length_append, List.length_cons, List.length_nil, List.length_replicate, List.length_map, List.length_take, List.length_drop, hex_len, refU_len]); omega))))
        refine AMx.ent_inv (s' := AS.lst 50 [(0, vc (st s)), (4, vo 4), (5, vc (i6 ((2 * k : Nat) : Int))), (6, vc (i6 (((16 * (accR s (2 * k) j)) + ((List.getD s ((2 * k) + j) 0).toNat : Int)) - 87))), (7, vc (i6 ((j : Int) + 1)))] [(4, AObj.grow 5 1 UInt8 0 rowU8 (refU s k))]) (ent_proj [0, 4, 5, 6, 7] [4]) ?_
        refine AMx.inv ⟨_, ?_, j + 1, ?_, rfl, ?_⟩
        rotate_left
        · omega
        · rw [← acc_t (by assumption)]; rfl
        · omega
      · try simp only [decide_eq_true_eq, decide_eq_false_iff_not] at hc3
        refine AMx.region (ces := []) (ks := [0, 4, 5, 6, 7]) (hs := [4]) (cs := [InR .i64 (16 * (accR s (2 * k) j)), InR .i64 ((16 * (accR s (2 * k) j)) + ((List.getD s ((2 * k) + j) 0).toNat : Int)), InR .i64 (((16 * (accR s (2 * k) j)) + ((List.getD s ((2 * k) + j) 0).toNat : Int)) - 48)]) (s' := AS.lst 50 [(0, vc (st s)), (4, vo 4), (5, vc (i6 ((2 * k : Nat) : Int))), (6, vc (i6 (((16 * (accR s (2 * k) j)) + ((List.getD s ((2 * k) + j) 0).toNat : Int)) - 48))), (7, vc (i6 (j : Int)))] [(4, AObj.grow 5 1 UInt8 0 rowU8 (refU s k))]) (by kernel_rfl) ?_ ?_
        · exact ⟨(show InR .i64 (16 * (accR s (2 * k) j)) from (inR64 (by first | omega | (have hr := acc_rng s (2 * k) (j := j) (by omega); have hb2 := UInt8.toNat_lt (List.getD s (2 * k + j) 0); omega) | ((try simp only [List.length_append, List.length_cons, List.length_nil, List.length_replicate, List.length_map, List.length_take, List.length_drop, hex_len, refU_len]); omega)) (by first | omega | (have hr := acc_rng s (2 * k) (j := j) (by omega); have hb2 := UInt8.toNat_lt (List.getD s (2 * k + j) 0); omega) | ((try simp only [List.length_append, List.length_cons, List.length_nil, List.length_replicate, List.length_map, List.length_take, List.length_drop, hex_len, refU_len]); omega)))), (show InR .i64 ((16 * (accR s (2 * k) j)) + ((List.getD s ((2 * k) + j) 0).toNat : Int)) from (inR64 (by first | omega | (have hr := acc_rng s (2 * k) (j := j) (by omega); have hb2 := UInt8.toNat_lt (List.getD s (2 * k + j) 0); omega) | ((try simp only [List.length_append, List.length_cons, List.length_nil, List.length_replicate, List.length_map, List.length_take, List.length_drop, hex_len, refU_len]); omega)) (by first | omega | (have hr := acc_rng s (2 * k) (j := j) (by omega); have hb2 := UInt8.toNat_lt (List.getD s (2 * k + j) 0); omega) | ((try simp only [List.length_append, List.length_cons, List.length_nil, List.length_replicate, List.length_map, List.length_take, List.length_drop, hex_len, refU_len]); omega)))), (show InR .i64 (((16 * (accR s (2 * k) j)) + ((List.getD s ((2 * k) + j) 0).toNat : Int)) - 48) from (inR64 (by first | omega | (have hr := acc_rng s (2 * k) (j := j) (by omega); have hb2 := UInt8.toNat_lt (List.getD s (2 * k + j) 0); omega) | ((try simp only [List.length_append, List.length_cons, List.length_nil, List.length_replicate, List.length_map, List.length_take, List.length_drop, hex_len, refU_len]); omega)) (by first | omega | (have hr := acc_rng s (2 * k) (j := j) (by omega); have hb2 := UInt8.toNat_lt (List.getD s (2 * k + j) 0); omega) | ((try simp only [List.length_append, List.length_cons, List.length_nil, List.length_replicate, List.length_map, List.length_take, List.length_drop, hex_len, refU_len]); omega))))⟩
        refine AMx.blk ?_
        refine AMx.region (ces := []) (ks := [0, 4, 5, 6, 7]) (hs := [4]) (cs := [InR .i64 ((j : Int) + 1)]) (s' := AS.lst 50 [(0, vc (st s)), (4, vo 4), (5, vc (i6 ((2 * k : Nat) : Int))), (6, vc (i6 (((16 * (accR s (2 * k) j)) + ((List.getD s ((2 * k) + j) 0).toNat : Int)) - 48))), (7, vc (i6 ((j : Int) + 1)))] [(4, AObj.grow 5 1 UInt8 0 rowU8 (refU s k))]) (by kernel_rfl) ?_ ?_
        · exact (show InR .i64 ((j : Int) + 1) from (inR64 (by first | omega | (have hr := acc_rng s (2 * k) (j := j) (by omega); have hb2 := UInt8.toNat_lt (List.getD s (2 * k + j) 0); omega) | ((try simp only [List.length_append, List.length_cons, List.length_nil, List.length_replicate, List.length_map, List.length_take, List.length_drop, hex_len, refU_len]); omega)) (by first | omega | (have hr := acc_rng s (2 * k) (j := j) (by omega); have hb2 := UInt8.toNat_lt (List.getD s (2 * k + j) 0); omega) | ((try simp only [List.length_append, List.length_cons, List.length_nil, List.length_replicate, List.length_map, List.length_take, List.length_drop, hex_len, refU_len]); omega))))
        refine AMx.ent_inv (s' := AS.lst 50 [(0, vc (st s)), (4, vo 4), (5, vc (i6 ((2 * k : Nat) : Int))), (6, vc (i6 (((16 * (accR s (2 * k) j)) + ((List.getD s ((2 * k) + j) 0).toNat : Int)) - 48))), (7, vc (i6 ((j : Int) + 1)))] [(4, AObj.grow 5 1 UInt8 0 rowU8 (refU s k))]) (ent_proj [0, 4, 5, 6, 7] [4]) ?_
        refine AMx.inv ⟨_, ?_, j + 1, ?_, rfl, ?_⟩
        rotate_left
        · omega
        · rw [← acc_f (by assumption)]; rfl
        · omega
    · try simp only [decide_eq_true_eq, decide_eq_false_iff_not] at hc2
      refine AMx.exit ?_
      refine AMx.code_exit ?_
      refine AMx.inv_exit ?_
      refine AMx.blk_exit ?_
      refine AMx.region (ces := [(3, CE.obj (AObj.grow 5 1 UInt8 0 rowU8 [refB s k])), (4, CE.obj (AObj.grow 5 1 UInt8 0 rowU8 ((refU s k) ++ [refB s k])))]) (ks := [0, 4, 5]) (hs := [42]) (cs := [flat 1 rowU8 [refB s k] = [.s (u8 (IntKind.wrap .u8 (accR s (2 * k) j)))], List.length ([refB s k] : List UInt8) = 1, AppC (flat 1 rowU8 [refB s k]) (List.length ([refB s k] : List UInt8)) 1 (AObj.grow 5 1 UInt8 0 rowU8 (refU s k)) (AObj.grow 5 1 UInt8 0 rowU8 ((refU s k) ++ [refB s k]))]) (s' := AS.lst 50 [(0, vc (st s)), (4, vo 42), (5, vc (i6 ((2 * k : Nat) : Int)))] [(42, AObj.grow 5 1 UInt8 0 rowU8 ((refU s k) ++ [refB s k]))]) (by kernel_rfl) ?_ ?_
      · exact ⟨(by obtain rfl : j = 2 := (by omega); exact one_ref s k), rfl, (⟨_, rfl, rfl, rfl, by simp only [List.length_append, List.length_cons, List.length_nil, List.length_replicate, List.length_map, List.length_take, List.length_drop, hex_len, refU_len]; omega, by simp only [maxLen, List.length_append, List.length_cons, List.length_nil, List.length_replicate, List.length_map, List.length_take, List.length_drop, hex_len, refU_len]; omega⟩)⟩
      refine AMx.blk ?_
      refine AMx.region (ces := []) (ks := [0, 4, 5]) (hs := [42]) (cs := [InR .i64 (((2 * k : Nat) : Int) + 2)]) (s' := AS.lst 50 [(0, vc (st s)), (4, vo 42), (5, vc (i6 (((2 * k : Nat) : Int) + 2)))] [(42, AObj.grow 5 1 UInt8 0 rowU8 ((refU s k) ++ [refB s k]))]) (by kernel_rfl) ?_ ?_
      · exact (show InR .i64 (((2 * k : Nat) : Int) + 2) from (inR64 (by first | omega | (have hr := acc_rng s (2 * k) (j := j) (by omega); have hb2 := UInt8.toNat_lt (List.getD s (2 * k + j) 0); omega) | ((try simp only [List.length_append, List.length_cons, List.length_nil, List.length_replicate, List.length_map, List.length_take, List.length_drop, hex_len, refU_len]); omega)) (by first | omega | (have hr := acc_rng s (2 * k) (j := j) (by omega); have hb2 := UInt8.toNat_lt (List.getD s (2 * k + j) 0); omega) | ((try simp only [List.length_append, List.length_cons, List.length_nil, List.length_replicate, List.length_map, List.length_take, List.length_drop, hex_len, refU_len]); omega))))
      refine AMx.ent_inv (s' := AS.lst 50 [(0, vc (st s)), (4, vo 4), (5, vc (i6 (((2 * k : Nat) : Int) + 2)))] [(4, AObj.grow 5 1 UInt8 0 rowU8 ((refU s k) ++ [refB s k]))]) (ent_swap 42 4 (by kernel_rfl) (by kernel_rfl)) ?_
      refine AMx.ent_inv (s' := AS.lst 50 [(0, vc (st s)), (4, vo 4), (5, vc (i6 (((2 * k : Nat) : Int) + 2)))] [(4, AObj.grow 5 1 UInt8 0 rowU8 ((refU s k) ++ [refB s k]))]) (ent_proj [0, 4, 5] [4]) ?_
      refine AMx.inv ⟨_, ?_, k + 1, ?_, rfl, ?_⟩
      rotate_left
      · omega
      · rw [← refU_step]; rfl
      · omega
  · try simp only [decide_eq_true_eq, decide_eq_false_iff_not] at hc1
    refine AMx.exit ?_
    refine AMx.code_exit ?_
    refine AMx.inv_exit ?_
    refine AMx.blk_exit ?_
    refine AMx.seq ?_
    refine AMx.seq ?_
    refine AMx.region (ces := [(1, CE.str (refU s k)), (2, CE.call [] [] (vc (st (hexS (refU s k)))) [])]) (ks := [4, 47]) (hs := [4]) (cs := [flat 1 rowU8 (refU s k) = flat 1 rowU8 (refU s k), List.length (refU s k : List UInt8) = List.length (refU s k : List UInt8), (List.length (refU s k : List UInt8) : Int) ≤ 140737488355328, Spec Tryd.prog 10 [tc (st (refU s k))] (ofH []) (vc (st (hexS (refU s k)))) (ofH [])]) (s' := AS.lst 50 [(4, vo 4), (47, vc (bo (!decide (hexS (refU s k) = s))))] [(4, AObj.grow 5 1 UInt8 0 rowU8 (refU s k))]) (by kernel_rfl) ?_ ?_
    · exact ⟨rfl, rfl, (show (List.length (refU s k : List UInt8) : Int) ≤ 140737488355328 from (by first | omega | (have hr := acc_rng s (2 * k) (j := j) (by omega); have hb2 := UInt8.toNat_lt (List.getD s (2 * k + j) 0); omega) | ((try simp only [List.length_append, List.length_cons, List.length_nil, List.length_replicate, List.length_map, List.length_take, List.length_drop, hex_len, refU_len]); omega))), (RHex_c (refU s k) (by first | omega | (have hr := acc_rng s (2 * k) (j := j) (by omega); have hb2 := UInt8.toNat_lt (List.getD s (2 * k + j) 0); omega) | ((try simp only [List.length_append, List.length_cons, List.length_nil, List.length_replicate, List.length_map, List.length_take, List.length_drop, hex_len, refU_len]); omega)))⟩
    refine AMx.cond (b := !decide (hexS (refU s k) = s)) (by kernel_rfl) (fun hc4 => ?_) (fun hc4 => ?_)
    · try simp only [decide_eq_true_eq, decide_eq_false_iff_not, Bool.not_eq_true', Bool.not_eq_false'] at hc4
      refine AMx.seq ?_
      refine AMx.region (ces := []) (ks := [2, 3]) (hs := []) (cs := []) (s' := AS.lst 50 [(2, vc (st [])), (3, vc (bo false))] []) (by kernel_rfl) ?_ ?_
      · exact trivial
      refine AMx.ret ?_
      exact RetP.mk (r := AV.tup [tc (st []), tc (bo false)]) (by kernel_rfl) (by rw [show unhexS s = ([], false) from by rw [ref_fin (k := k) (by omega) (by omega)]; first | rw [if_pos (by assumption)] | rw [if_neg (fun q => q (by assumption))]])
    · try simp only [decide_eq_true_eq, decide_eq_false_iff_not, Bool.not_eq_true', Bool.not_eq_false'] at hc4
      refine AMx.skip ?_
      refine AMx.seq ?_
      refine AMx.region (ces := [(1, CE.str (refU s k))]) (ks := [2, 3]) (hs := []) (cs := [flat 1 rowU8 (refU s k) = flat 1 rowU8 (refU s k), List.length (refU s k : List UInt8) = List.length (refU s k : List UInt8), (List.length (refU s k : List UInt8) : Int) ≤ 140737488355328]) (s' := AS.lst 50 [(2, vc (st (refU s k))), (3, vc (bo true))] []) (by kernel_rfl) ?_ ?_
      · exact ⟨rfl, rfl, (show (List.length (refU s k : List UInt8) : Int) ≤ 140737488355328 from (by first | omega | (have hr := acc_rng s (2 * k) (j := j) (by omega); have hb2 := UInt8.toNat_lt (List.getD s (2 * k + j) 0); omega) | ((try simp only [List.length_append, List.length_cons, List.length_nil, List.length_replicate, List.length_map, List.length_take, List.length_drop, hex_len, refU_len]); omega)))⟩
      refine AMx.ret ?_
      exact RetP.mk (r := AV.tup [tc (st (refU s k)), tc (bo true)]) (by kernel_rfl) (by rw [show unhexS s = (refU s k, true) from by rw [ref_fin (k := k) (by omega) (by omega)]; first | rw [if_pos (by assumption)] | rw [if_neg (fun q => q (by assumption))]])

end AL.Ask
