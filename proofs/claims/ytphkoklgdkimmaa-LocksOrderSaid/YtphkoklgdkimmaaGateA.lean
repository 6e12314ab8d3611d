/- gate: the contracts of its functions, by their walks. No condition. -/
import Derived.Test.YtphkoklgdkimmaaGateD
import Derived.Test.YtphkoklgdkimmaaFnvA
namespace AL.Gate
open Go Go.Proofs AL AL.Fnv
set_option linter.unusedVariables false
set_option linter.unusedSimpArgs false

theorem f137_body : Try.f137.body = some (.seq (.region 0 (rg Try.f137 0) false) (.seq (.region 1 (rg Try.f137 1) false) (.ret))) := by kernel_rfl

set_option maxRecDepth 100000 in
set_option maxHeartbeats 8000000 in
theorem findC_c (x : One) (w : Int) : Pure Try.prog 137 [TV.agg [.s (i6 x.1), .s (u8 x.2)], tc (SC.ref 1 (rl [i6 w]))] (vc (bo (decide (x.1 = w)))) := by
  refine Pure.of_body Try.func137 f137_body (by kernel_rfl) Try.ntmps137 (by kernel_rfl) (by kernel_rfl) ?_
  refine AMx.seq ?_
  refine AMx.region (ces := []) (ks := [1, 2]) (hs := [2]) (cs := []) (s' := AS.lst 8 [(1, vc (SC.ref 1 (rl [i6 w]))), (2, vp 2 0)] [(2, AObj.row [.s (i6 x.1), .s (u8 x.2)])]) (by kernel_rfl) ?_ ?_
  · exact trivial
  refine AMx.seq ?_
  refine AMx.region (ces := []) (ks := [3]) (hs := []) (cs := []) (s' := AS.lst 8 [(3, vc (bo (decide (x.1 = w))))] []) (by kernel_rfl) ?_ ?_
  · exact trivial
  refine AMx.ret ?_
  exact RetP.mk (r := vc (bo (decide (x.1 = w)))) (by kernel_rfl) rfl

theorem f136_body : Try.f136.body = some (.seq (.region 0 (rg Try.f136 0) false) (.seq (.seq (.region 1 (rg Try.f136 1) false) (.block 0 (.loop (.seq (.region 2 (rg Try.f136 2) false) (.seq (.cond (.tmp 9) (.skip) (.exit 0)) (.seq (.block 1 (.seq (.region 3 (rg Try.f136 3) false) (.seq (.region 4 (rg Try.f136 4) false) (.cond (.tmp 16) (.seq (.region 5 (rg Try.f136 5) false) (.ret)) (.skip))))) (.region 6 (rg Try.f136 6) false))))))) (.seq (.region 7 (rg Try.f136 7) false) (.ret)))) := by kernel_rfl

set_option maxRecDepth 100000 in
set_option maxHeartbeats 8000000 in
theorem Index_c (f : FuncId) (caps : List Cap) (p : One → Bool) (hf : ∀ x : One, Pure Try.prog f ([TV.agg [.s (i6 x.1), .s (u8 x.2)]] ++ List.map capT caps) (vc (bo (p x)))) (l : List One) : Pure Try.prog 136 [tc (slO l), TV.c (.fn f caps)] (vc (i6 (Lib.idxS p l))) := by
  refine Pure.of_body Try.func136 f136_body (by kernel_rfl) Try.ntmps136 (by kernel_rfl) (by kernel_rfl) ?_
  refine AMx.sl 0 (l := l) rfl (fun hl => ?_)
  simp only [maxLen] at hl
  refine AMx.seq ?_
  refine AMx.region (ces := []) (ks := [0, 1]) (hs := []) (cs := []) (s' := AS.lst 19 [(0, vc (slO l)), (1, AV.t (TV.c (.fn f caps)))] []) (by kernel_rfl) ?_ ?_
  · exact trivial
  refine AMx.seq ?_
  refine AMx.seq ?_
  refine AMx.region (ces := []) (ks := [0, 1, 7, 8]) (hs := []) (cs := []) (s' := AS.lst 19 [(0, vc (slO l)), (1, AV.t (TV.c (.fn f caps))), (7, vc (i6 (List.length l : Int))), (8, vc (i6 0))] []) (by kernel_rfl) ?_ ?_
  · exact trivial
  refine AMx.block ?_
  refine AMx.ent (s' := AS.lst 19 [(0, vc (slO l)), (1, AV.t (TV.c (.fn f caps))), (7, vc (i6 (List.length l : Int))), (8, vc (i6 0))] []) (ent_proj [0, 1, 7, 8] []) ?_
  refine AMx.loop (fun mm ss => ∃ (k : Nat), (k ≤ l.length ∧ ∀ x ∈ List.take k l, p x = false) ∧ mm = l.length - k ∧ ss = AS.lst 19 [(0, vc (slO l)), (1, AV.t (TV.c (.fn f caps))), (7, vc (i6 (List.length l : Int))), (8, vc (i6 (k : Int)))] []) ⟨0, ?_, rfl, ?_⟩ ?_
  · exact ⟨by omega, fun x hx => by simp at hx⟩
  · rfl
  rintro mm ss ⟨k, ⟨hI, hN⟩, rfl, rfl⟩
  refine AMx.seq ?_
  refine AMx.region (ces := []) (ks := [0, 1, 7, 8, 9]) (hs := []) (cs := []) (s' := AS.lst 19 [(0, vc (slO l)), (1, AV.t (TV.c (.fn f caps))), (7, vc (i6 (List.length l : Int))), (8, vc (i6 (k : Int))), (9, vc (bo (decide ((k : Int) < (List.length l : Int)))))] []) (by kernel_rfl) ?_ ?_
  · exact trivial
  refine AMx.seq ?_
  refine AMx.cond (b := decide ((k : Int) < (List.length l : Int))) (by kernel_rfl) (fun hc1 => ?_) (fun hc1 => ?_)
  · try simp only [decide_eq_true_eq, decide_eq_false_iff_not] at hc1
    refine AMx.skip ?_
    refine AMx.seq ?_
    refine AMx.block ?_
    refine AMx.seq ?_
    refine AMx.region (ces := []) (ks := [0, 1, 5, 7, 8]) (hs := []) (cs := []) (s' := AS.lst 19 [(0, vc (slO l)), (1, AV.t (TV.c (.fn f caps))), (5, vc (i6 (k : Int))), (7, vc (i6 (List.length l : Int))), (8, vc (i6 (k : Int)))] []) (by kernel_rfl) ?_ ?_
    · exact trivial
    refine AMx.seq ?_
    refine AMx.region (ces := [(5, CE.call [] [] (vc (bo (p (List.getD l k (0, 0))))) [])]) (ks := [0, 1, 5, 7, 8, 16]) (hs := []) (cs := [(0 : Int) ≤ (k : Int), (k : Int) < List.length l, Spec Try.prog f ([TV.agg [.s (i6 ((List.getD l k (0, 0)).1)), .s (u8 ((List.getD l k (0, 0)).2))]] ++ List.map capT caps) (ofH []) (vc (bo (p (List.getD l k (0, 0))))) (ofH [])]) (s' := AS.lst 19 [(0, vc (slO l)), (1, AV.t (TV.c (.fn f caps))), (5, vc (i6 (k : Int))), (7, vc (i6 (List.length l : Int))), (8, vc (i6 (k : Int))), (16, vc (bo (p (List.getD l k (0, 0)))))] []) (by kernel_rfl) ?_ ?_
    · exact ⟨(show (0 : Int) ≤ (k : Int) from (by omega)), (show (k : Int) < List.length l from (by omega)), (hf (List.getD l k (0, 0)))⟩
    refine AMx.cond (b := p (List.getD l k (0, 0))) (by kernel_rfl) (fun hc2 => ?_) (fun hc2 => ?_)
    · try simp only [decide_eq_true_eq, decide_eq_false_iff_not] at hc2
      refine AMx.seq ?_
      refine AMx.region (ces := []) (ks := [4]) (hs := []) (cs := []) (s' := AS.lst 19 [(4, vc (i6 (k : Int)))] []) (by kernel_rfl) ?_ ?_
      · exact trivial
      refine AMx.ret ?_
      exact RetP.mk (r := vc (i6 (k : Int))) (by kernel_rfl) (by rw [Lib.idx_hit (0, 0) l k (by omega) hN (by assumption)])
    · try simp only [decide_eq_true_eq, decide_eq_false_iff_not] at hc2
      refine AMx.skip ?_
      refine AMx.blk ?_
      refine AMx.region (ces := []) (ks := [0, 1, 7, 8]) (hs := []) (cs := [InR .i64 ((k : Int) + 1)]) (s' := AS.lst 19 [(0, vc (slO l)), (1, AV.t (TV.c (.fn f caps))), (7, vc (i6 (List.length l : Int))), (8, vc (i6 ((k : Int) + 1)))] []) (by kernel_rfl) ?_ ?_
      · exact (show InR .i64 ((k : Int) + 1) from (inR64 (by omega) (by omega)))
      refine AMx.ent_inv (s' := AS.lst 19 [(0, vc (slO l)), (1, AV.t (TV.c (.fn f caps))), (7, vc (i6 (List.length l : Int))), (8, vc (i6 ((k : Int) + 1)))] []) (ent_proj [0, 1, 7, 8] []) ?_
      refine AMx.inv ⟨_, ?_, k + 1, ?_, rfl, ?_⟩
      rotate_left
      · exact ⟨by omega, Lib.all_step (0, 0) l k (by omega) hN (by assumption)⟩
      · rfl
      · omega
  · try simp only [decide_eq_true_eq, decide_eq_false_iff_not] at hc1
    refine AMx.exit ?_
    refine AMx.code_exit ?_
    refine AMx.inv_exit ?_
    refine AMx.blk_exit ?_
    refine AMx.seq ?_
    refine AMx.region (ces := []) (ks := [4]) (hs := []) (cs := []) (s' := AS.lst 19 [(4, vc (i6 (-1)))] []) (by kernel_rfl) ?_ ?_
    · exact trivial
    refine AMx.ret ?_
    exact RetP.mk (r := vc (i6 (-1))) (by kernel_rfl) (by rw [Lib.idx_none (fun x hx => hN x (by rwa [List.take_of_length_le (by omega)]))])

theorem f92_body : Try.f92.body = some (.seq (.region 0 (rg Try.f92 0) false) (.seq (.region 1 (rg Try.f92 1) false) (.ret))) := by kernel_rfl

set_option maxRecDepth 100000 in
set_option maxHeartbeats 8000000 in
theorem find_c (l : List One) (w : Int) : Pure Try.prog 92 [tc (slO l), tc (i6 w)] (vc (i6 (findS l w))) := by
  refine Pure.of_body Try.func92 f92_body (by kernel_rfl) Try.ntmps92 (by kernel_rfl) (by kernel_rfl) ?_
  refine AMx.seq ?_
  refine AMx.region (ces := [(0, CE.shr none)]) (ks := [0, 3]) (hs := []) (cs := []) (s' := AS.lst 8 [(0, vc (slO l)), (3, vc (SC.ref 1 (rl [i6 w])))] []) (by kernel_rfl) ?_ ?_
  · exact trivial
  refine AMx.seq ?_
  refine AMx.region (ces := [(2, CE.call [] [] (vc (i6 (Lib.idxS (fun x : One => decide (x.1 = w)) l))) [])]) (ks := [4]) (hs := []) (cs := [Spec Try.prog 136 [tc (slO l), TV.c (.fn 137 [.s (SC.ref 1 (rl [i6 w]))])] (ofH []) (vc (i6 (Lib.idxS (fun x : One => decide (x.1 = w)) l))) (ofH [])]) (s' := AS.lst 8 [(4, vc (i6 (Lib.idxS (fun x : One => decide (x.1 = w)) l)))] []) (by kernel_rfl) ?_ ?_
  · exact (Index_c 137 [.s (SC.ref 1 (rl [i6 w]))] (fun x : One => decide (x.1 = w)) (fun x => findC_c x w) l)
  refine AMx.ret ?_
  exact RetP.mk (r := vc (i6 (Lib.idxS (fun x : One => decide (x.1 = w)) l))) (by kernel_rfl) rfl

theorem f140_body : Try.f140.body = some (.seq (.region 0 (rg Try.f140 0) false) (.seq (.seq (.region 1 (rg Try.f140 1) false) (.cond (.tmp 6) (.region 2 (rg Try.f140 2) false) (.skip))) (.seq (.seq (.region 3 (rg Try.f140 3) false) (.seq (.region 4 (rg Try.f140 4) false) (.cond (.tmp 16) (.region 5 (rg Try.f140 5) false) (.skip)))) (.seq (.region 6 (rg Try.f140 6) false) (.ret))))) := by kernel_rfl

set_option maxRecDepth 100000 in
set_option maxHeartbeats 8000000 in
theorem Grow_c (n : Int) (h0 : 0 ≤ n) (hb : n * 16 ≤ 140737488355328) : ∀ d, Spec Try.prog 140 [tc (SC.nilsl), tc (i6 n)] H0 (vo d) (ofH [(d, AObj.grow 166 2 One (0, 0) rowO [])]) := by
  refine Own.of_body Try.func140 f140_body (by kernel_rfl) Try.ntmps140 (by kernel_rfl) rfl ?_
  refine AMx.seq ?_
  refine AMx.region (ces := []) (ks := [0, 1]) (hs := []) (cs := []) (s' := AS.lst 27 [(0, vc (SC.nilsl)), (1, vc (i6 n))] []) (by kernel_rfl) ?_ ?_
  · exact trivial
  refine AMx.seq ?_
  refine AMx.seq ?_
  refine AMx.region (ces := []) (ks := [0, 1, 6]) (hs := []) (cs := []) (s' := AS.lst 27 [(0, vc (SC.nilsl)), (1, vc (i6 n)), (6, vc (bo (decide (n < 0))))] []) (by kernel_rfl) ?_ ?_
  · exact trivial
  refine AMx.cond (b := decide (n < 0)) (by kernel_rfl) (fun hc1 => ?_) (fun hc1 => ?_)
  · try simp only [decide_eq_true_eq, decide_eq_false_iff_not] at hc1
    exfalso
    omega
  · try simp only [decide_eq_true_eq, decide_eq_false_iff_not] at hc1
    refine AMx.skip ?_
    refine AMx.seq ?_
    refine AMx.seq ?_
    refine AMx.region (ces := []) (ks := [0, 1]) (hs := []) (cs := [InR .i64 (0 - 0), InR .i64 (n - (0 - 0))]) (s' := AS.lst 27 [(0, vc (SC.nilsl)), (1, vc (i6 (n - (0 - 0))))] []) (by kernel_rfl) ?_ ?_
    · exact ⟨(show InR .i64 (0 - 0) from (inR64 (by omega) (by omega))), (show InR .i64 (n - (0 - 0)) from (inR64 (by omega) (by omega)))⟩
    refine AMx.seq ?_
    refine AMx.region (ces := []) (ks := [0, 1, 16]) (hs := []) (cs := []) (s' := AS.lst 27 [(0, vc (SC.nilsl)), (1, vc (i6 (n - (0 - 0)))), (16, vc (bo (decide (0 < n - (0 - 0)))))] []) (by kernel_rfl) ?_ ?_
    · exact trivial
    refine AMx.cond (b := decide (0 < n - (0 - 0))) (by kernel_rfl) (fun hc2 => ?_) (fun hc2 => ?_)
    · try simp only [decide_eq_true_eq, decide_eq_false_iff_not] at hc2
      refine AMx.region (ces := [(5, CE.obj (AObj.grow 166 2 One (0, 0) rowO (List.replicate (n - (0 - 0)).toNat (0, 0))))]) (ks := [0]) (hs := [25]) (cs := [0 ≤ (0 : Int), (0 : Int) ≤ 0, 1 ≤ n - (0 - 0), (n - (0 - 0)) * (16 : Int) ≤ 140737488355328, MakeC (n - (0 - 0)).toNat [.s (i6 0), .s (u8 0)] (AObj.grow 166 2 One (0, 0) rowO (List.replicate (n - (0 - 0)).toNat (0, 0))), 0 ≤ (0 : Int), (0 : Int) ≤ (List.length (List.replicate (n - (0 - 0)).toNat (0, 0) : List One) : Int)]) (s' := AS.lst 27 [(0, vo 25)] [(25, AObj.grow 166 2 One (0, 0) rowO (List.take 0 (List.replicate (n - (0 - 0)).toNat (0, 0))))]) (by kernel_rfl) ?_ ?_
      · exact ⟨(show 0 ≤ (0 : Int) from (by omega)), (show (0 : Int) ≤ 0 from (by omega)), (show 1 ≤ n - (0 - 0) from (by omega)), (show (n - (0 - 0)) * (16 : Int) ≤ 140737488355328 from (by omega)), (⟨_, rfl, rfl⟩), (show 0 ≤ (0 : Int) from (by omega)), (show (0 : Int) ≤ (List.length (List.replicate (n - (0 - 0)).toNat (0, 0) : List One) : Int) from (by omega))⟩
      refine AMx.seq ?_
      refine AMx.region (ces := []) (ks := [4]) (hs := [25]) (cs := []) (s' := AS.lst 27 [(4, vo 25)] [(25, AObj.grow 166 2 One (0, 0) rowO (List.take 0 (List.replicate (n - (0 - 0)).toNat (0, 0))))]) (by kernel_rfl) ?_ ?_
      · exact trivial
      refine AMx.ret ?_
      exact ⟨.inl rfl, 25, AObj.grow 166 2 One (0, 0) rowO (List.take 0 (List.replicate (n - (0 - 0)).toNat (0, 0))), by kernel_rfl, by kernel_rfl, rfl⟩
    · try simp only [decide_eq_true_eq, decide_eq_false_iff_not] at hc2
      refine AMx.skip ?_
      refine AMx.seq ?_
      refine AMx.region (ces := []) (ks := [4]) (hs := []) (cs := []) (s' := AS.lst 27 [(4, vc (SC.nilsl))] []) (by kernel_rfl) ?_ ?_
      · exact trivial
      refine AMx.ent (s' := AS.lst 27 [(4, vo 4)] [(4, AObj.grow 166 2 One (0, 0) rowO [])]) (ent_adopt (t := 4) (d := 4) 166 2 One (0, 0) rowO (by kernel_rfl) (by kernel_rfl) (by kernel_rfl) (by kernel_rfl)) ?_
      refine AMx.ret ?_
      exact ⟨.inl rfl, 4, AObj.grow 166 2 One (0, 0) rowO [], by kernel_rfl, by kernel_rfl, rfl⟩

theorem f95_body : Try.f95.body = some (.seq (.region 0 (rg Try.f95 0) false) (.seq (.region 1 (rg Try.f95 1) false) (.seq (.seq (.region 2 (rg Try.f95 2) false) (.block 0 (.loop (.seq (.region 3 (rg Try.f95 3) false) (.seq (.cond (.tmp 12) (.skip) (.exit 0)) (.seq (.block 1 (.seq (.region 4 (rg Try.f95 4) false) (.seq (.region 5 (rg Try.f95 5) false) (.seq (.region 6 (rg Try.f95 6) false) (.cond (.tmp 20) (.region 7 (rg Try.f95 7) false) (.skip)))))) (.region 8 (rg Try.f95 8) false))))))) (.seq (.region 9 (rg Try.f95 9) false) (.seq (.seq (.region 10 (rg Try.f95 10) false) (.block 2 (.loop (.seq (.region 11 (rg Try.f95 11) false) (.seq (.cond (.tmp 28) (.skip) (.exit 2)) (.seq (.block 3 (.seq (.region 12 (rg Try.f95 12) false) (.region 13 (rg Try.f95 13) false))) (.region 14 (rg Try.f95 14) false))))))) (.seq (.region 15 (rg Try.f95 15) false) (.ret))))))) := by kernel_rfl

set_option maxRecDepth 100000 in
set_option maxHeartbeats 8000000 in
theorem Concat_c (ls : List (List One)) (hb : ls.flatten.length * 16 ≤ 140737488355328) : Pure Try.prog 95 [tc (slL ls)] (vc (slO ls.flatten)) := by
  refine Pure.of_body Try.func95 f95_body (by kernel_rfl) Try.ntmps95 (by kernel_rfl) (by kernel_rfl) ?_
  refine AMx.sl 0 (l := ls) rfl (fun hl => ?_)
  simp only [maxLen] at hl
  refine AMx.seq ?_
  refine AMx.region (ces := []) (ks := [0]) (hs := []) (cs := []) (s' := AS.lst 36 [(0, vc (slL ls))] []) (by kernel_rfl) ?_ ?_
  · exact trivial
  refine AMx.seq ?_
  refine AMx.region (ces := []) (ks := [0, 3]) (hs := []) (cs := []) (s' := AS.lst 36 [(0, vc (slL ls)), (3, vc (i6 0))] []) (by kernel_rfl) ?_ ?_
  · exact trivial
  refine AMx.seq ?_
  refine AMx.seq ?_
  refine AMx.region (ces := []) (ks := [0, 3, 9, 10, 11]) (hs := []) (cs := []) (s' := AS.lst 36 [(0, vc (slL ls)), (3, vc (i6 0)), (9, vc (slL ls)), (10, vc (i6 (List.length ls : Int))), (11, vc (i6 0))] []) (by kernel_rfl) ?_ ?_
  · exact trivial
  refine AMx.block ?_
  refine AMx.ent (s' := AS.lst 36 [(0, vc (slL ls)), (3, vc (i6 0)), (9, vc (slL ls)), (10, vc (i6 (List.length ls : Int))), (11, vc (i6 0))] []) (ent_proj [0, 3, 9, 10, 11] []) ?_
  refine AMx.loop (fun mm ss => ∃ (k : Nat), (k ≤ ls.length) ∧ mm = ls.length - k ∧ ss = AS.lst 36 [(0, vc (slL ls)), (3, vc (i6 ((List.take k ls).flatten.length : Int))), (9, vc (slL ls)), (10, vc (i6 (List.length ls : Int))), (11, vc (i6 (k : Int)))] []) ⟨0, ?_, rfl, ?_⟩ ?_
  · omega
  · rfl
  rintro mm ss ⟨k, hI, rfl, rfl⟩
  refine AMx.seq ?_
  refine AMx.region (ces := []) (ks := [0, 3, 9, 10, 11, 12]) (hs := []) (cs := []) (s' := AS.lst 36 [(0, vc (slL ls)), (3, vc (i6 ((List.take k ls).flatten.length : Int))), (9, vc (slL ls)), (10, vc (i6 (List.length ls : Int))), (11, vc (i6 (k : Int))), (12, vc (bo (decide ((k : Int) < (List.length ls : Int)))))] []) (by kernel_rfl) ?_ ?_
  · exact trivial
  refine AMx.seq ?_
  refine AMx.cond (b := decide ((k : Int) < (List.length ls : Int))) (by kernel_rfl) (fun hc1 => ?_) (fun hc1 => ?_)
  · try simp only [decide_eq_true_eq, decide_eq_false_iff_not] at hc1
    refine AMx.skip ?_
    refine AMx.seq ?_
    refine AMx.block ?_
    refine AMx.seq ?_
    refine AMx.region (ces := []) (ks := [0, 3, 5, 9, 10, 11]) (hs := []) (cs := [(0 : Int) ≤ (k : Int), (k : Int) < List.length ls]) (s' := AS.lst 36 [(0, vc (slL ls)), (3, vc (i6 ((List.take k ls).flatten.length : Int))), (5, vc (slO (List.getD ls k []))), (9, vc (slL ls)), (10, vc (i6 (List.length ls : Int))), (11, vc (i6 (k : Int)))] []) (by kernel_rfl) ?_ ?_
    · exact ⟨(show (0 : Int) ≤ (k : Int) from (by first | omega | (have h1 := Lib.flat_len ls k (by omega); have h2 := Lib.flat_le ls (k + 1); omega) | (have h3 := Lib.flat_le ls k; omega))), (show (k : Int) < List.length ls from (by first | omega | (have h1 := Lib.flat_len ls k (by omega); have h2 := Lib.flat_le ls (k + 1); omega) | (have h3 := Lib.flat_le ls k; omega)))⟩
    refine AMx.seq ?_
    refine AMx.region (ces := []) (ks := [0, 3, 9, 10, 11]) (hs := []) (cs := [InR .i64 (((List.take k ls).flatten.length : Int) + (List.length ((List.getD ls k []) : List One) : Int))]) (s' := AS.lst 36 [(0, vc (slL ls)), (3, vc (i6 (((List.take k ls).flatten.length : Int) + (List.length ((List.getD ls k []) : List One) : Int)))), (9, vc (slL ls)), (10, vc (i6 (List.length ls : Int))), (11, vc (i6 (k : Int)))] []) (by kernel_rfl) ?_ ?_
    · exact (show InR .i64 (((List.take k ls).flatten.length : Int) + (List.length ((List.getD ls k []) : List One) : Int)) from (inR64 (by first | omega | (have h1 := Lib.flat_len ls k (by omega); have h2 := Lib.flat_le ls (k + 1); omega) | (have h3 := Lib.flat_le ls k; omega)) (by first | omega | (have h1 := Lib.flat_len ls k (by omega); have h2 := Lib.flat_le ls (k + 1); omega) | (have h3 := Lib.flat_le ls k; omega))))
    refine AMx.seq ?_
    refine AMx.region (ces := []) (ks := [0, 3, 9, 10, 11, 20]) (hs := []) (cs := []) (s' := AS.lst 36 [(0, vc (slL ls)), (3, vc (i6 (((List.take k ls).flatten.length : Int) + (List.length ((List.getD ls k []) : List One) : Int)))), (9, vc (slL ls)), (10, vc (i6 (List.length ls : Int))), (11, vc (i6 (k : Int))), (20, vc (bo (decide (((List.take k ls).flatten.length : Int) + (List.length ((List.getD ls k []) : List One) : Int) < 0))))] []) (by kernel_rfl) ?_ ?_
    · exact trivial
    refine AMx.cond (b := decide (((List.take k ls).flatten.length : Int) + (List.length ((List.getD ls k []) : List One) : Int) < 0)) (by kernel_rfl) (fun hc2 => ?_) (fun hc2 => ?_)
    · try simp only [decide_eq_true_eq, decide_eq_false_iff_not] at hc2
      exfalso
      first | omega | (have h1 := Lib.flat_len ls k (by omega); have h2 := Lib.flat_le ls (k + 1); omega) | (have h3 := Lib.flat_le ls k; omega)
    · try simp only [decide_eq_true_eq, decide_eq_false_iff_not] at hc2
      refine AMx.skip ?_
      refine AMx.blk ?_
      refine AMx.region (ces := []) (ks := [0, 3, 9, 10, 11]) (hs := []) (cs := [InR .i64 ((k : Int) + 1)]) (s' := AS.lst 36 [(0, vc (slL ls)), (3, vc (i6 (((List.take k ls).flatten.length : Int) + (List.length ((List.getD ls k []) : List One) : Int)))), (9, vc (slL ls)), (10, vc (i6 (List.length ls : Int))), (11, vc (i6 ((k : Int) + 1)))] []) (by kernel_rfl) ?_ ?_
      · exact (show InR .i64 ((k : Int) + 1) from (inR64 (by first | omega | (have h1 := Lib.flat_len ls k (by omega); have h2 := Lib.flat_le ls (k + 1); omega) | (have h3 := Lib.flat_le ls k; omega)) (by first | omega | (have h1 := Lib.flat_len ls k (by omega); have h2 := Lib.flat_le ls (k + 1); omega) | (have h3 := Lib.flat_le ls k; omega))))
      refine AMx.ent_inv (s' := AS.lst 36 [(0, vc (slL ls)), (3, vc (i6 (((List.take k ls).flatten.length : Int) + (List.length ((List.getD ls k []) : List One) : Int)))), (9, vc (slL ls)), (10, vc (i6 (List.length ls : Int))), (11, vc (i6 ((k : Int) + 1)))] []) (ent_proj [0, 3, 9, 10, 11] []) ?_
      refine AMx.inv ⟨_, ?_, k + 1, ?_, rfl, ?_⟩
      rotate_left
      · omega
      · rw [Lib.flat_len ls k (by omega)]; rfl
      · omega
  · try simp only [decide_eq_true_eq, decide_eq_false_iff_not] at hc1
    refine AMx.exit ?_
    refine AMx.code_exit ?_
    refine AMx.inv_exit ?_
    refine AMx.blk_exit ?_
    refine AMx.seq ?_
    refine AMx.region (ces := [(1, CE.call [] [] (vo 24) [(24, AObj.grow 166 2 One (0, 0) rowO [])])]) (ks := [0, 6]) (hs := [24]) (cs := [Spec Try.prog 140 [tc (SC.nilsl), tc (i6 ((List.take k ls).flatten.length : Int))] (ofH []) (vo 24) (ofH [(24, AObj.grow 166 2 One (0, 0) rowO [])])]) (s' := AS.lst 36 [(0, vc (slL ls)), (6, vo 24)] [(24, AObj.grow 166 2 One (0, 0) rowO [])]) (by kernel_rfl) ?_ ?_
    · exact (Grow_c ((List.take k ls).flatten.length : Int) (by first | omega | (have h1 := Lib.flat_len ls k (by omega); have h2 := Lib.flat_le ls (k + 1); omega) | (have h3 := Lib.flat_le ls k; omega)) (by first | omega | (have h1 := Lib.flat_len ls k (by omega); have h2 := Lib.flat_le ls (k + 1); omega) | (have h3 := Lib.flat_le ls k; omega)) 24)
    refine AMx.seq ?_
    refine AMx.seq ?_
    refine AMx.region (ces := []) (ks := [6, 25, 26, 27]) (hs := [24]) (cs := []) (s' := AS.lst 36 [(6, vo 24), (25, vc (slL ls)), (26, vc (i6 (List.length ls : Int))), (27, vc (i6 0))] [(24, AObj.grow 166 2 One (0, 0) rowO [])]) (by kernel_rfl) ?_ ?_
    · exact trivial
    refine AMx.block ?_
    refine AMx.ent (s' := AS.lst 36 [(6, vo 24), (25, vc (slL ls)), (26, vc (i6 (List.length ls : Int))), (27, vc (i6 0))] [(24, AObj.grow 166 2 One (0, 0) rowO [])]) (ent_proj [6, 25, 26, 27] [24]) ?_
    refine AMx.loop (fun mm ss => ∃ (m : Nat), (m ≤ ls.length) ∧ mm = ls.length - m ∧ ss = AS.lst 36 [(6, vo 24), (25, vc (slL ls)), (26, vc (i6 (List.length ls : Int))), (27, vc (i6 (m : Int)))] [(24, AObj.grow 166 2 One (0, 0) rowO ((List.take m ls).flatten))]) ⟨0, ?_, rfl, ?_⟩ ?_
    · omega
    · rfl
    rintro mm ss ⟨m, hI, rfl, rfl⟩
    refine AMx.seq ?_
    refine AMx.region (ces := []) (ks := [6, 25, 26, 27, 28]) (hs := [24]) (cs := []) (s' := AS.lst 36 [(6, vo 24), (25, vc (slL ls)), (26, vc (i6 (List.length ls : Int))), (27, vc (i6 (m : Int))), (28, vc (bo (decide ((m : Int) < (List.length ls : Int)))))] [(24, AObj.grow 166 2 One (0, 0) rowO ((List.take m ls).flatten))]) (by kernel_rfl) ?_ ?_
    · exact trivial
    refine AMx.seq ?_
    refine AMx.cond (b := decide ((m : Int) < (List.length ls : Int))) (by kernel_rfl) (fun hc3 => ?_) (fun hc3 => ?_)
    · try simp only [decide_eq_true_eq, decide_eq_false_iff_not] at hc3
      refine AMx.skip ?_
      refine AMx.seq ?_
      refine AMx.block ?_
      refine AMx.seq ?_
      refine AMx.region (ces := []) (ks := [6, 8, 25, 26, 27]) (hs := [24]) (cs := [(0 : Int) ≤ (m : Int), (m : Int) < List.length ls]) (s' := AS.lst 36 [(6, vo 24), (8, vc (slO (List.getD ls m []))), (25, vc (slL ls)), (26, vc (i6 (List.length ls : Int))), (27, vc (i6 (m : Int)))] [(24, AObj.grow 166 2 One (0, 0) rowO ((List.take m ls).flatten))]) (by kernel_rfl) ?_ ?_
      · exact ⟨(show (0 : Int) ≤ (m : Int) from (by first | omega | (have h1 := Lib.flat_len ls k (by omega); have h2 := Lib.flat_le ls (k + 1); omega) | (have h3 := Lib.flat_le ls k; omega))), (show (m : Int) < List.length ls from (by first | omega | (have h1 := Lib.flat_len ls k (by omega); have h2 := Lib.flat_le ls (k + 1); omega) | (have h3 := Lib.flat_le ls k; omega)))⟩
      refine AMx.region (ces := [(2, CE.obj (AObj.grow 166 2 One (0, 0) rowO (((List.take m ls).flatten) ++ (List.getD ls m []))))]) (ks := [6, 25, 26, 27]) (hs := [33]) (cs := [AppC (flat 2 rowO (List.getD ls m [])) (List.length ((List.getD ls m []) : List One)) 16 (AObj.grow 166 2 One (0, 0) rowO ((List.take m ls).flatten)) (AObj.grow 166 2 One (0, 0) rowO (((List.take m ls).flatten) ++ (List.getD ls m [])))]) (s' := AS.lst 36 [(6, vo 33), (25, vc (slL ls)), (26, vc (i6 (List.length ls : Int))), (27, vc (i6 (m : Int)))] [(33, AObj.grow 166 2 One (0, 0) rowO (((List.take m ls).flatten) ++ (List.getD ls m [])))]) (by kernel_rfl) ?_ ?_
      · exact (⟨_, rfl, rfl, rfl, by have h1 := Lib.flat_len ls m (by omega); have h2 := Lib.flat_le ls (m + 1); omega, by simp only [maxLen]; have h1 := Lib.flat_len ls m (by omega); have h2 := Lib.flat_le ls (m + 1); omega⟩)
      refine AMx.blk ?_
      refine AMx.region (ces := []) (ks := [6, 25, 26, 27]) (hs := [33]) (cs := [InR .i64 ((m : Int) + 1)]) (s' := AS.lst 36 [(6, vo 33), (25, vc (slL ls)), (26, vc (i6 (List.length ls : Int))), (27, vc (i6 ((m : Int) + 1)))] [(33, AObj.grow 166 2 One (0, 0) rowO (((List.take m ls).flatten) ++ (List.getD ls m [])))]) (by kernel_rfl) ?_ ?_
      · exact (show InR .i64 ((m : Int) + 1) from (inR64 (by first | omega | (have h1 := Lib.flat_len ls k (by omega); have h2 := Lib.flat_le ls (k + 1); omega) | (have h3 := Lib.flat_le ls k; omega)) (by first | omega | (have h1 := Lib.flat_len ls k (by omega); have h2 := Lib.flat_le ls (k + 1); omega) | (have h3 := Lib.flat_le ls k; omega))))
      refine AMx.ent_inv (s' := AS.lst 36 [(6, vo 24), (25, vc (slL ls)), (26, vc (i6 (List.length ls : Int))), (27, vc (i6 ((m : Int) + 1)))] [(24, AObj.grow 166 2 One (0, 0) rowO (((List.take m ls).flatten) ++ (List.getD ls m [])))]) (ent_swap 33 24 (by kernel_rfl) (by kernel_rfl)) ?_
      refine AMx.ent_inv (s' := AS.lst 36 [(6, vo 24), (25, vc (slL ls)), (26, vc (i6 (List.length ls : Int))), (27, vc (i6 ((m : Int) + 1)))] [(24, AObj.grow 166 2 One (0, 0) rowO (((List.take m ls).flatten) ++ (List.getD ls m [])))]) (ent_proj [6, 25, 26, 27] [24]) ?_
      refine AMx.inv ⟨_, ?_, m + 1, ?_, rfl, ?_⟩
      rotate_left
      · omega
      · rw [← Lib.flat_step [] ls m (by omega)]; rfl
      · omega
    · try simp only [decide_eq_true_eq, decide_eq_false_iff_not] at hc3
      refine AMx.exit ?_
      refine AMx.code_exit ?_
      refine AMx.inv_exit ?_
      refine AMx.blk_exit ?_
      refine AMx.seq ?_
      refine AMx.region (ces := []) (ks := [2]) (hs := [24]) (cs := []) (s' := AS.lst 36 [(2, vo 24)] [(24, AObj.grow 166 2 One (0, 0) rowO ((List.take m ls).flatten))]) (by kernel_rfl) ?_ ?_
      · exact trivial
      refine AMx.ent (s' := AS.lst 36 [(2, vc (slO ((List.take m ls).flatten)))] []) (ent_freeze (id := 24) (T := 166) (by kernel_rfl)) ?_
      refine AMx.ret ?_
      exact RetP.mk (r := vc (slO ((List.take m ls).flatten))) (by kernel_rfl) (by rw [Lib.flat_all ls m (by omega)])

theorem f96_body : Try.f96.body = some (.seq (.region 0 (rg Try.f96 0) false) (.seq (.region 1 (rg Try.f96 1) false) (.seq (.seq (.region 2 (rg Try.f96 2) false) (.cond (.tmp 10) (.seq (.region 3 (rg Try.f96 3) false) (.ret)) (.skip))) (.seq (.region 4 (rg Try.f96 4) true) (.ret))))) := by kernel_rfl

set_option maxRecDepth 100000 in
set_option maxHeartbeats 8000000 in
theorem without_c (l : List One) (w : Int) (hb : l.length ≤ 100000) : Pure Try.prog 96 [tc (slO l), tc (i6 w)] (vc (slO (dropS w l))) := by
  refine Pure.of_body Try.func96 f96_body (by kernel_rfl) Try.ntmps96 (by kernel_rfl) (by kernel_rfl) ?_
  refine AMx.seq ?_
  refine AMx.region (ces := []) (ks := [0, 1]) (hs := []) (cs := []) (s' := AS.lst 21 [(0, vc (slO l)), (1, vc (i6 w))] []) (by kernel_rfl) ?_ ?_
  · exact trivial
  refine AMx.seq ?_
  refine AMx.region (ces := [(2, CE.call [] [] (vc (i6 (findS l w))) [])]) (ks := [0, 5]) (hs := []) (cs := [Spec Try.prog 92 [tc (slO l), tc (i6 w)] (ofH []) (vc (i6 (findS l w))) (ofH [])]) (s' := AS.lst 21 [(0, vc (slO l)), (5, vc (i6 (findS l w)))] []) (by kernel_rfl) ?_ ?_
  · exact (find_c l w)
  refine AMx.seq ?_
  refine AMx.seq ?_
  refine AMx.region (ces := []) (ks := [0, 5, 10]) (hs := []) (cs := []) (s' := AS.lst 21 [(0, vc (slO l)), (5, vc (i6 (findS l w))), (10, vc (bo (decide (findS l w < 0))))] []) (by kernel_rfl) ?_ ?_
  · exact trivial
  refine AMx.cond (b := decide (findS l w < 0)) (by kernel_rfl) (fun hc1 => ?_) (fun hc1 => ?_)
  · try simp only [decide_eq_true_eq, decide_eq_false_iff_not] at hc1
    refine AMx.seq ?_
    refine AMx.region (ces := []) (ks := [4]) (hs := []) (cs := []) (s' := AS.lst 21 [(4, vc (slO l))] []) (by kernel_rfl) ?_ ?_
    · exact trivial
    refine AMx.ret ?_
    exact RetP.mk (r := vc (slO l)) (by kernel_rfl) (by rw [drop_none (by assumption)])
  · try simp only [decide_eq_true_eq, decide_eq_false_iff_not] at hc1
    refine AMx.skip ?_
    refine AMx.seq ?_
    refine AMx.region_draw (ces := [(7, CE.obj (AObj.grow 42 1 (List One) [] rowL [List.take (findS l w).toNat l, List.drop ((findS l w) + 1).toNat l])), (8, CE.call [19] [] (vc (slO (([List.take (findS l w).toNat l, List.drop ((findS l w) + 1).toNat l]).flatten))) [])]) (ros := [(8, [19])]) (ks := [4]) (hs := []) (cs := [0 ≤ findS l w, findS l w ≤ List.length l, InR .i64 ((findS l w) + 1), 0 ≤ (findS l w) + 1, (findS l w) + 1 ≤ List.length l, flat 1 rowL [List.take (findS l w).toNat l, List.drop ((findS l w) + 1).toNat l] = [.s (slO (List.take (findS l w).toNat l)), .s (slO (List.drop ((findS l w) + 1).toNat l))], List.length ([List.take (findS l w).toNat l, List.drop ((findS l w) + 1).toNat l] : List (List One)) = 2, Spec Try.prog 95 [tc (slL [List.take (findS l w).toNat l, List.drop ((findS l w) + 1).toNat l])] (ofH []) (vc (slO (([List.take (findS l w).toNat l, List.drop ((findS l w) + 1).toNat l]).flatten))) (ofH [])]) (s' := AS.lst 21 [(4, vc (slO (([List.take (findS l w).toNat l, List.drop ((findS l w) + 1).toNat l]).flatten)))] []) mixed (by kernel_rfl) ?_ ?_
    · exact ⟨(show 0 ≤ findS l w from (by first | omega | (have hf := find_lt l w; first | omega | (simp; omega)))), (show findS l w ≤ List.length l from (by first | omega | (have hf := find_lt l w; first | omega | (simp; omega)))), (show InR .i64 ((findS l w) + 1) from (inR64 (by first | omega | (have hf := find_lt l w; first | omega | (simp; omega))) (by first | omega | (have hf := find_lt l w; first | omega | (simp; omega))))), (show 0 ≤ (findS l w) + 1 from (by first | omega | (have hf := find_lt l w; first | omega | (simp; omega)))), (show (findS l w) + 1 ≤ List.length l from (by first | omega | (have hf := find_lt l w; first | omega | (simp; omega)))), rfl, rfl, (Concat_c [List.take (findS l w).toNat l, List.drop ((findS l w) + 1).toNat l] (by simp only [List.flatten_cons, List.flatten_nil, List.length_append, List.length_cons, List.length_nil, List.length_take, List.length_drop]; first | omega | (have hf := find_lt l w; first | omega | (simp; omega))))⟩
    refine AMx.ret ?_
    exact RetP.mk (r := vc (slO (([List.take (findS l w).toNat l, List.drop ((findS l w) + 1).toNat l]).flatten))) (by kernel_rfl) (by rw [← drop_at (by omega), show (findS l w + 1).toNat = (findS l w).toNat + 1 by omega]; simp)

theorem f93_body : Try.f93.body = some (.seq (.region 0 (rg Try.f93 0) false) (.seq (.region 1 (rg Try.f93 1) false) (.ret))) := by kernel_rfl

set_option maxRecDepth 100000 in
set_option maxHeartbeats 8000000 in
theorem open_c (g : Gt) (m : Int) : Pure Try.prog 93 [TV.agg [.s (slO g.1), .s (slO g.2)], tc (u8 m)] (vc (bo (openS g.1 m))) := by
  refine Pure.of_body Try.func93 f93_body (by kernel_rfl) Try.ntmps93 (by kernel_rfl) (by kernel_rfl) ?_
  refine AMx.seq ?_
  refine AMx.region (ces := []) (ks := [1, 2]) (hs := [2]) (cs := []) (s' := AS.lst 21 [(1, vc (u8 m)), (2, vp 2 0)] [(2, AObj.row [.s (slO g.1), .s (slO g.2)])]) (by kernel_rfl) ?_ ?_
  · exact trivial
  refine AMx.seq ?_
  refine AMx.region (ces := []) (ks := [4]) (hs := []) (cs := [((decide ((List.length g.1 : Int) = 0)) = false) → allP [], ((decide ((List.length g.1 : Int) = 0)) = false) → allP [(decide ((List.length g.1 : Int) = 0)) = false], ((decide ((List.length g.1 : Int) = 0)) = false) → allP [(decide ((List.length g.1 : Int) = 0)) = false], (((decide ((List.length g.1 : Int) = 0)) = false) ∧ (decide (m = 1)) = true) → allP [], (((decide ((List.length g.1 : Int) = 0)) = false) ∧ (decide (m = 1)) = true) → allP [((decide ((List.length g.1 : Int) = 0)) = false) ∧ (decide (m = 1)) = true], (((decide ((List.length g.1 : Int) = 0)) = false) ∧ (decide (m = 1)) = true) → allP [((decide ((List.length g.1 : Int) = 0)) = false) ∧ (decide (m = 1)) = true, (0 : Int) ≤ 0, (0 : Int) < List.length g.1], (((decide ((List.length g.1 : Int) = 0)) = false) ∧ (decide (m = 1)) = true) → allP [((decide ((List.length g.1 : Int) = 0)) = false) ∧ (decide (m = 1)) = true], (((decide ((List.length g.1 : Int) = 0)) = false) ∧ (decide (m = 1)) = true) → allP [((decide ((List.length g.1 : Int) = 0)) = false) ∧ (decide (m = 1)) = true], (((decide ((List.length g.1 : Int) = 0)) = false) ∧ (decide (m = 1)) = true) → allP [((decide ((List.length g.1 : Int) = 0)) = false) ∧ (decide (m = 1)) = true], ((decide ((List.length g.1 : Int) = 0)) = false) → allP [(decide ((List.length g.1 : Int) = 0)) = false, (decide (m = 1)) = true → allP [((decide ((List.length g.1 : Int) = 0)) = false) ∧ (decide (m = 1)) = true]], (decide ((List.length g.1 : Int) = 0)) = false → allP [(decide ((List.length g.1 : Int) = 0)) = false]]) (s' := AS.lst 21 [(4, vc (bo ((decide ((List.length g.1 : Int) = 0)) || ((decide (m = 1)) && (decide ((List.getD g.1 0 (0, 0)).2 = 1))))))] []) (by kernel_rfl) ?_ ?_
  · exact ⟨(fun _ => trivial), (fun hp => hp), (fun hp => hp), (fun _ => trivial), (fun hp => hp), (fun hp => by have hq := hp; (try simp only [decide_eq_true_eq, decide_eq_false_iff_not, Bool.and_eq_true, Bool.or_eq_true, Bool.and_eq_false_iff, Bool.or_eq_false_iff, Bool.not_eq_true', Bool.not_eq_false', Bool.not_eq_true, Bool.not_eq_false] at hq); exact ⟨hp, (show (0 : Int) ≤ 0 from (by omega)), (show (0 : Int) < List.length g.1 from (by omega))⟩), (fun hp => hp), (fun hp => hp), (fun hp => hp), (fun hp => by have hq := hp; (try simp only [decide_eq_true_eq, decide_eq_false_iff_not, Bool.and_eq_true, Bool.or_eq_true, Bool.and_eq_false_iff, Bool.or_eq_false_iff, Bool.not_eq_true', Bool.not_eq_false', Bool.not_eq_true, Bool.not_eq_false] at hq); exact ⟨hp, (fun hp2 => (by first | exact hp2 | exact ⟨hp, hp2⟩))⟩), (fun hp2 => (by first | exact hp2 | exact ⟨hp, hp2⟩))⟩
  refine AMx.ret ?_
  exact RetP.mk (r := vc (bo ((decide ((List.length g.1 : Int) = 0)) || ((decide (m = 1)) && (decide ((List.getD g.1 0 (0, 0)).2 = 1)))))) (by kernel_rfl) (by rw [open_eq])

theorem f139_body : Try.f139.body = some (.seq (.region 0 (rg Try.f139 0) false) (.seq (.region 1 (rg Try.f139 1) false) (.ret))) := by kernel_rfl

set_option maxRecDepth 100000 in
set_option maxHeartbeats 8000000 in
theorem inC_c (a b : One) (ha : 0 ≤ a.1) (hb : 0 ≤ b.1) : Pure Try.prog 139 [TV.agg [.s (i6 a.1), .s (u8 a.2)], TV.agg [.s (i6 b.1), .s (u8 b.2)]] (vc (i6 (a.1 - b.1))) := by
  refine Pure.of_body Try.func139 f139_body (by kernel_rfl) Try.ntmps139 (by kernel_rfl) (by kernel_rfl) ?_
  refine AMx.cell 0 0 rfl rfl (fun (h0 : InR .i64 a.1) => ?_)
  refine AMx.cell 1 0 rfl rfl (fun (h1 : InR .i64 b.1) => ?_)
  simp only [inR64_iff] at h0 h1
  refine AMx.seq ?_
  refine AMx.region (ces := []) (ks := [2, 3]) (hs := [2, 3]) (cs := []) (s' := AS.lst 10 [(2, vp 2 0), (3, vp 3 0)] [(2, AObj.row [.s (i6 a.1), .s (u8 a.2)]), (3, AObj.row [.s (i6 b.1), .s (u8 b.2)])]) (by kernel_rfl) ?_ ?_
  · exact trivial
  refine AMx.seq ?_
  refine AMx.region (ces := []) (ks := [4]) (hs := []) (cs := [InR .i64 (a.1 - b.1)]) (s' := AS.lst 10 [(4, vc (i6 (a.1 - b.1)))] []) (by kernel_rfl) ?_ ?_
  · exact (show InR .i64 (a.1 - b.1) from (inR64 (by omega) (by omega)))
  refine AMx.ret ?_
  exact RetP.mk (r := vc (i6 (a.1 - b.1))) (by kernel_rfl) rfl

theorem f138_body : Try.f138.body = some (.seq (.region 0 (rg Try.f138 0) false) (.seq (.region 1 (rg Try.f138 1) false) (.seq (.region 2 (rg Try.f138 2) false) (.seq (.block 0 (.loop (.seq (.seq (.region 3 (rg Try.f138 3) false) (.cond (.tmp 17) (.skip) (.exit 0))) (.block 1 (.seq (.region 4 (rg Try.f138 4) false) (.seq (.region 5 (rg Try.f138 5) true) (.cond (.tmp 31) (.region 6 (rg Try.f138 6) false) (.region 7 (rg Try.f138 7) false)))))))) (.seq (.region 8 (rg Try.f138 8) true) (.ret)))))) := by kernel_rfl

set_option maxRecDepth 100000 in
set_option maxHeartbeats 8000000 in
theorem Search_c (f : FuncId) (t : One) (c : One → Int) (l : List One) (hf : ∀ x ∈ l, Pure Try.prog f [TV.agg [.s (i6 x.1), .s (u8 x.2)], TV.agg [.s (i6 t.1), .s (u8 t.2)]] (vc (i6 (c x)))) (ha : Lib.Ahead (fun x : One => decide (c x < 0)) l) (hb : l.length ≤ 100000) : Pure Try.prog 138 [tc (slO l), TV.agg [.s (i6 t.1), .s (u8 t.2)], TV.c (.fn f [])] (AV.tup [tc (i6 (Lib.leadS (fun x : One => decide (c x < 0)) l : Int)), tc (bo (decide ((Lib.leadS (fun x : One => decide (c x < 0)) l : Int) < List.length l) && decide (c (List.getD l (Lib.leadS (fun x : One => decide (c x < 0)) l) (0, 0)) = 0)))]) := by
  refine Pure.of_body Try.func138 f138_body (by kernel_rfl) Try.ntmps138 (by kernel_rfl) (by kernel_rfl) ?_
  refine AMx.sl 0 (l := l) rfl (fun hl => ?_)
  simp only [maxLen] at hl
  refine AMx.seq ?_
  refine AMx.region (ces := []) (ks := [0, 2, 4]) (hs := [4]) (cs := []) (s' := AS.lst 49 [(0, vc (slO l)), (2, AV.t (TV.c (.fn f []))), (4, vp 4 0)] [(4, AObj.row [.s (i6 t.1), .s (u8 t.2)])]) (by kernel_rfl) ?_ ?_
  · exact trivial
  refine AMx.seq ?_
  refine AMx.region (ces := []) (ks := [0, 2, 4, 8]) (hs := [4]) (cs := []) (s' := AS.lst 49 [(0, vc (slO l)), (2, AV.t (TV.c (.fn f []))), (4, vp 4 0), (8, vc (i6 (List.length l : Int)))] [(4, AObj.row [.s (i6 t.1), .s (u8 t.2)])]) (by kernel_rfl) ?_ ?_
  · exact trivial
  refine AMx.seq ?_
  refine AMx.region (ces := []) (ks := [0, 2, 4, 8, 9, 10]) (hs := [4]) (cs := []) (s' := AS.lst 49 [(0, vc (slO l)), (2, AV.t (TV.c (.fn f []))), (4, vp 4 0), (8, vc (i6 (List.length l : Int))), (9, vc (i6 0)), (10, vc (i6 (List.length l : Int)))] [(4, AObj.row [.s (i6 t.1), .s (u8 t.2)])]) (by kernel_rfl) ?_ ?_
  · exact trivial
  refine AMx.seq ?_
  refine AMx.block ?_
  refine AMx.ent (s' := AS.lst 49 [(0, vc (slO l)), (2, AV.t (TV.c (.fn f []))), (4, vp 4 0), (8, vc (i6 (List.length l : Int))), (9, vc (i6 0)), (10, vc (i6 (List.length l : Int)))] [(4, AObj.row [.s (i6 t.1), .s (u8 t.2)])]) (ent_proj [0, 2, 4, 8, 9, 10] [4]) ?_
  refine AMx.loop (fun mm ss => ∃ (i : Nat) (j : Nat), (i ≤ j ∧ j ≤ l.length ∧ (∀ x ∈ List.take i l, (fun x : One => decide (c x < 0)) x = true) ∧ (∀ x ∈ List.drop j l, (fun x : One => decide (c x < 0)) x = false)) ∧ mm = j - i ∧ ss = AS.lst 49 [(0, vc (slO l)), (2, AV.t (TV.c (.fn f []))), (4, vp 4 0), (8, vc (i6 (List.length l : Int))), (9, vc (i6 (i : Int))), (10, vc (i6 (j : Int)))] [(4, AObj.row [.s (i6 t.1), .s (u8 t.2)])]) ⟨0, l.length, ?_, rfl, ?_⟩ ?_
  · exact ⟨by omega, by omega, fun x hx => by simp at hx, fun x hx => by simp at hx⟩
  · rfl
  rintro mm ss ⟨i, j, ⟨hI, hJ, h1, h2⟩, rfl, rfl⟩
  have hh := Lib.half (i := i) (j := j) (by omega)
  refine AMx.seq ?_
  refine AMx.seq ?_
  refine AMx.region (ces := []) (ks := [0, 2, 4, 8, 9, 10, 17]) (hs := [4]) (cs := []) (s' := AS.lst 49 [(0, vc (slO l)), (2, AV.t (TV.c (.fn f []))), (4, vp 4 0), (8, vc (i6 (List.length l : Int))), (9, vc (i6 (i : Int))), (10, vc (i6 (j : Int))), (17, vc (bo (decide ((i : Int) < (j : Int)))))] [(4, AObj.row [.s (i6 t.1), .s (u8 t.2)])]) (by kernel_rfl) ?_ ?_
  · exact trivial
  refine AMx.cond (b := decide ((i : Int) < (j : Int))) (by kernel_rfl) (fun hc1 => ?_) (fun hc1 => ?_)
  · try simp only [decide_eq_true_eq, decide_eq_false_iff_not] at hc1
    refine AMx.skip ?_
    refine AMx.block ?_
    refine AMx.seq ?_
    refine AMx.region (ces := []) (ks := [0, 2, 4, 8, 9, 10, 11]) (hs := [4]) (cs := [InR .i64 ((i : Int) + (j : Int)), (0 : Int) ≤ 1, InR .i64 (Int.fdiv (IntKind.wrap .u64 ((i : Int) + (j : Int))) (2 ^ (min (1 : Int).toNat (IntKind.bits .u64))))]) (s' := AS.lst 49 [(0, vc (slO l)), (2, AV.t (TV.c (.fn f []))), (4, vp 4 0), (8, vc (i6 (List.length l : Int))), (9, vc (i6 (i : Int))), (10, vc (i6 (j : Int))), (11, vc (i6 (Int.fdiv (IntKind.wrap .u64 ((i : Int) + (j : Int))) (2 ^ (min (1 : Int).toNat (IntKind.bits .u64))))))] [(4, AObj.row [.s (i6 t.1), .s (u8 t.2)])]) (by kernel_rfl) ?_ ?_
    · exact ⟨(show InR .i64 ((i : Int) + (j : Int)) from (inR64 (by first | omega | (rw [hh]; omega)) (by first | omega | (rw [hh]; omega)))), (show (0 : Int) ≤ 1 from (by first | omega | (rw [hh]; omega))), (show InR .i64 (Int.fdiv (IntKind.wrap .u64 ((i : Int) + (j : Int))) (2 ^ (min (1 : Int).toNat (IntKind.bits .u64)))) from (inR64 (by first | omega | (rw [hh]; omega)) (by first | omega | (rw [hh]; omega))))⟩
    refine AMx.seq ?_
    refine AMx.region_draw (ces := [(6, CE.call [] [] (vc (i6 (c (List.getD l (Int.fdiv (IntKind.wrap .u64 ((i : Int) + (j : Int))) (2 ^ (min (1 : Int).toNat (IntKind.bits .u64)))).toNat (0, 0))))) [])]) (ros := [(5, [4])]) (ks := [0, 2, 4, 8, 9, 10, 11, 31]) (hs := [4]) (cs := [(0 : Int) ≤ Int.fdiv (IntKind.wrap .u64 ((i : Int) + (j : Int))) (2 ^ (min (1 : Int).toNat (IntKind.bits .u64))), Int.fdiv (IntKind.wrap .u64 ((i : Int) + (j : Int))) (2 ^ (min (1 : Int).toNat (IntKind.bits .u64))) < List.length l, Spec Try.prog f [TV.agg [.s (i6 ((List.getD l (Int.fdiv (IntKind.wrap .u64 ((i : Int) + (j : Int))) (2 ^ (min (1 : Int).toNat (IntKind.bits .u64)))).toNat (0, 0)).1)), .s (u8 ((List.getD l (Int.fdiv (IntKind.wrap .u64 ((i : Int) + (j : Int))) (2 ^ (min (1 : Int).toNat (IntKind.bits .u64)))).toNat (0, 0)).2))], TV.agg [.s (i6 t.1), .s (u8 t.2)]] (ofH []) (vc (i6 (c (List.getD l (Int.fdiv (IntKind.wrap .u64 ((i : Int) + (j : Int))) (2 ^ (min (1 : Int).toNat (IntKind.bits .u64)))).toNat (0, 0))))) (ofH [])]) (s' := AS.lst 49 [(0, vc (slO l)), (2, AV.t (TV.c (.fn f []))), (4, vp 4 0), (8, vc (i6 (List.length l : Int))), (9, vc (i6 (i : Int))), (10, vc (i6 (j : Int))), (11, vc (i6 (Int.fdiv (IntKind.wrap .u64 ((i : Int) + (j : Int))) (2 ^ (min (1 : Int).toNat (IntKind.bits .u64)))))), (31, vc (bo (decide (c (List.getD l (Int.fdiv (IntKind.wrap .u64 ((i : Int) + (j : Int))) (2 ^ (min (1 : Int).toNat (IntKind.bits .u64)))).toNat (0, 0)) < 0))))] [(4, AObj.row [.s (i6 t.1), .s (u8 t.2)])]) mixed (by kernel_rfl) ?_ ?_
    · exact ⟨(show (0 : Int) ≤ Int.fdiv (IntKind.wrap .u64 ((i : Int) + (j : Int))) (2 ^ (min (1 : Int).toNat (IntKind.bits .u64))) from (by first | omega | (rw [hh]; omega))), (show Int.fdiv (IntKind.wrap .u64 ((i : Int) + (j : Int))) (2 ^ (min (1 : Int).toNat (IntKind.bits .u64))) < List.length l from (by first | omega | (rw [hh]; omega))), (hf (List.getD l (Int.fdiv (IntKind.wrap .u64 ((i : Int) + (j : Int))) (2 ^ (min (1 : Int).toNat (IntKind.bits .u64)))).toNat (0, 0)) (Lib.getD_mem _ _ _ (by omega)))⟩
    refine AMx.cond (b := decide (c (List.getD l (Int.fdiv (IntKind.wrap .u64 ((i : Int) + (j : Int))) (2 ^ (min (1 : Int).toNat (IntKind.bits .u64)))).toNat (0, 0)) < 0)) (by kernel_rfl) (fun hc2 => ?_) (fun hc2 => ?_)
    · try simp only [decide_eq_true_eq, decide_eq_false_iff_not] at hc2
      refine AMx.region (ces := []) (ks := [0, 2, 4, 8, 9, 10]) (hs := [4]) (cs := [InR .i64 ((Int.fdiv (IntKind.wrap .u64 ((i : Int) + (j : Int))) (2 ^ (min (1 : Int).toNat (IntKind.bits .u64)))) + 1)]) (s' := AS.lst 49 [(0, vc (slO l)), (2, AV.t (TV.c (.fn f []))), (4, vp 4 0), (8, vc (i6 (List.length l : Int))), (9, vc (i6 ((Int.fdiv (IntKind.wrap .u64 ((i : Int) + (j : Int))) (2 ^ (min (1 : Int).toNat (IntKind.bits .u64)))) + 1))), (10, vc (i6 (j : Int)))] [(4, AObj.row [.s (i6 t.1), .s (u8 t.2)])]) (by kernel_rfl) ?_ ?_
      · exact (show InR .i64 ((Int.fdiv (IntKind.wrap .u64 ((i : Int) + (j : Int))) (2 ^ (min (1 : Int).toNat (IntKind.bits .u64)))) + 1) from (inR64 (by first | omega | (rw [hh]; omega)) (by first | omega | (rw [hh]; omega))))
      refine AMx.blk ?_
      refine AMx.ent_inv (s' := AS.lst 49 [(0, vc (slO l)), (2, AV.t (TV.c (.fn f []))), (4, vp 4 0), (8, vc (i6 (List.length l : Int))), (9, vc (i6 ((Int.fdiv (IntKind.wrap .u64 ((i : Int) + (j : Int))) (2 ^ (min (1 : Int).toNat (IntKind.bits .u64)))) + 1))), (10, vc (i6 (j : Int)))] [(4, AObj.row [.s (i6 t.1), .s (u8 t.2)])]) (ent_proj [0, 2, 4, 8, 9, 10] [4]) ?_
      refine AMx.inv ⟨_, ?_, (i + j) / 2 + 1, j, ?_, rfl, ?_⟩
      rotate_left
      · exact ⟨by omega, by omega, Lib.ahead_lo (0, 0) ha ((i + j) / 2) (by omega) (by have q := hc2; rw [hh, Int.toNat_natCast] at q; exact decide_eq_true q), h2⟩
      · rw [hh]; rfl
      · omega
    · try simp only [decide_eq_true_eq, decide_eq_false_iff_not] at hc2
      refine AMx.region (ces := []) (ks := [0, 2, 4, 8, 9, 10]) (hs := [4]) (cs := []) (s' := AS.lst 49 [(0, vc (slO l)), (2, AV.t (TV.c (.fn f []))), (4, vp 4 0), (8, vc (i6 (List.length l : Int))), (9, vc (i6 (i : Int))), (10, vc (i6 (Int.fdiv (IntKind.wrap .u64 ((i : Int) + (j : Int))) (2 ^ (min (1 : Int).toNat (IntKind.bits .u64))))))] [(4, AObj.row [.s (i6 t.1), .s (u8 t.2)])]) (by kernel_rfl) ?_ ?_
      · exact trivial
      refine AMx.blk ?_
      refine AMx.ent_inv (s' := AS.lst 49 [(0, vc (slO l)), (2, AV.t (TV.c (.fn f []))), (4, vp 4 0), (8, vc (i6 (List.length l : Int))), (9, vc (i6 (i : Int))), (10, vc (i6 (Int.fdiv (IntKind.wrap .u64 ((i : Int) + (j : Int))) (2 ^ (min (1 : Int).toNat (IntKind.bits .u64))))))] [(4, AObj.row [.s (i6 t.1), .s (u8 t.2)])]) (ent_proj [0, 2, 4, 8, 9, 10] [4]) ?_
      refine AMx.inv ⟨_, ?_, i, (i + j) / 2, ?_, rfl, ?_⟩
      rotate_left
      · exact ⟨by omega, by omega, h1, Lib.ahead_hi (0, 0) ha ((i + j) / 2) (by omega) (by have q := hc2; rw [hh, Int.toNat_natCast] at q; exact decide_eq_false q)⟩
      · rw [hh]
      · omega
  · try simp only [decide_eq_true_eq, decide_eq_false_iff_not] at hc1
    refine AMx.exit ?_
    refine AMx.code_exit ?_
    refine AMx.inv_exit ?_
    refine AMx.blk_exit ?_
    refine AMx.seq ?_
    refine AMx.region_draw (ces := [(11, CE.call [] [] (vc (i6 (c (List.getD l i (0, 0))))) [])]) (ros := [(10, [4])]) (ks := [6, 7]) (hs := []) (cs := [((decide ((i : Int) < (List.length l : Int))) = true) → allP [], ((decide ((i : Int) < (List.length l : Int))) = true) → allP [], ((decide ((i : Int) < (List.length l : Int))) = true) → allP [], ((decide ((i : Int) < (List.length l : Int))) = true) → allP [(decide ((i : Int) < (List.length l : Int))) = true, (decide ((i : Int) < (List.length l : Int))) = true, (0 : Int) ≤ (i : Int), (i : Int) < List.length l], ((decide ((i : Int) < (List.length l : Int))) = true) → allP [(decide ((i : Int) < (List.length l : Int))) = true], ((decide ((i : Int) < (List.length l : Int))) = true) → allP [], ((decide ((i : Int) < (List.length l : Int))) = true) → allP [(decide ((i : Int) < (List.length l : Int))) = true, (decide ((i : Int) < (List.length l : Int))) = true, (decide ((i : Int) < (List.length l : Int))) = true, Spec Try.prog f [TV.agg [.s (i6 ((List.getD l i (0, 0)).1)), .s (u8 ((List.getD l i (0, 0)).2))], TV.agg [.s (i6 t.1), .s (u8 t.2)]] (ofH []) (vc (i6 (c (List.getD l i (0, 0))))) (ofH [])], ((decide ((i : Int) < (List.length l : Int))) = true) → allP [(decide ((i : Int) < (List.length l : Int))) = true], (decide ((i : Int) < (List.length l : Int))) = true → allP [(decide ((i : Int) < (List.length l : Int))) = true]]) (s' := AS.lst 49 [(6, vc (i6 (i : Int))), (7, vc (bo ((decide ((i : Int) < (List.length l : Int))) && (decide (c (List.getD l i (0, 0)) = 0)))))] []) mixed (by kernel_rfl) ?_ ?_
    · exact ⟨(fun _ => trivial), (fun _ => trivial), (fun _ => trivial), (fun hp => by have hq := hp; (try simp only [decide_eq_true_eq, decide_eq_false_iff_not, Bool.and_eq_true, Bool.or_eq_true, Bool.and_eq_false_iff, Bool.or_eq_false_iff, Bool.not_eq_true', Bool.not_eq_false', Bool.not_eq_true, Bool.not_eq_false] at hq); exact ⟨hp, hp, (show (0 : Int) ≤ (i : Int) from (by first | omega | (rw [hh]; omega))), (show (i : Int) < List.length l from (by first | omega | (rw [hh]; omega)))⟩), (fun hp => hp), (fun _ => trivial), (fun hp => by have hq := hp; (try simp only [decide_eq_true_eq, decide_eq_false_iff_not, Bool.and_eq_true, Bool.or_eq_true, Bool.and_eq_false_iff, Bool.or_eq_false_iff, Bool.not_eq_true', Bool.not_eq_false', Bool.not_eq_true, Bool.not_eq_false] at hq); exact ⟨hp, hp, hp, (hf (List.getD l i (0, 0)) (Lib.getD_mem _ _ _ (by omega)))⟩), (fun hp => hp), (fun hp2 => (by first | exact hp2 | exact ⟨hp, hp2⟩))⟩
    refine AMx.ret ?_
    exact RetP.mk (r := AV.tup [tc (i6 (i : Int)), tc (bo ((decide ((i : Int) < (List.length l : Int))) && (decide (c (List.getD l i (0, 0)) = 0))))]) (by kernel_rfl) (by rw [Lib.lead_eq l i (by omega) h1 (by rw [show i = j by omega]; exact h2)])

theorem f94_body : Try.f94.body = some (.seq (.region 0 (rg Try.f94 0) false) (.seq (.region 1 (rg Try.f94 1) false) (.seq (.region 2 (rg Try.f94 2) true) (.seq (.region 3 (rg Try.f94 3) false) (.ret))))) := by kernel_rfl

set_option maxRecDepth 100000 in
set_option maxHeartbeats 8000000 in
theorem in_c (g : Gt) (x : One) (hu : Up g.1) (hok : ∀ y ∈ g.1, 0 ≤ y.1) (hx : 0 ≤ x.1) (hb : g.1.length ≤ 99999) : Pure Try.prog 94 [TV.agg [.s (slO g.1), .s (slO g.2)], TV.agg [.s (i6 x.1), .s (u8 x.2)]] (AV.t (TV.agg [.s (slO ((intoS g.1 x, g.2).1)), .s (slO ((intoS g.1 x, g.2).2))])) := by
  refine Pure.of_body Try.func94 f94_body (by kernel_rfl) Try.ntmps94 (by kernel_rfl) (by kernel_rfl) ?_
  refine AMx.seq ?_
  refine AMx.region (ces := []) (ks := [2, 3, 4]) (hs := [2, 3, 4]) (cs := []) (s' := AS.lst 28 [(2, vp 2 0), (3, vp 3 0), (4, vp 4 0)] [(2, AObj.row [.s (slO g.1), .s (slO g.2)]), (3, AObj.row [.s (i6 x.1), .s (u8 x.2)]), (4, AObj.row [.s (SC.nilsl), .s (SC.nilsl)])]) (by kernel_rfl) ?_ ?_
  · exact trivial
  refine AMx.seq ?_
  refine AMx.region (ces := [(3, CE.call [] [] (AV.tup [tc (i6 ((Lib.leadS (fun y : One => decide (y.1 - x.1 < 0)) g.1) : Int)), tc (bo (decide (((Lib.leadS (fun y : One => decide (y.1 - x.1 < 0)) g.1) : Int) < List.length g.1) && decide ((List.getD g.1 (Lib.leadS (fun y : One => decide (y.1 - x.1 < 0)) g.1) (0, 0)).1 - x.1 = 0)))]) [])]) (ks := [2, 3, 4, 5]) (hs := [2, 3, 4]) (cs := [Spec Try.prog 138 [tc (slO g.1), TV.agg [.s (i6 x.1), .s (u8 x.2)], TV.c (.fn 139 [])] (ofH []) (AV.tup [tc (i6 ((Lib.leadS (fun y : One => decide (y.1 - x.1 < 0)) g.1) : Int)), tc (bo (decide (((Lib.leadS (fun y : One => decide (y.1 - x.1 < 0)) g.1) : Int) < List.length g.1) && decide ((List.getD g.1 (Lib.leadS (fun y : One => decide (y.1 - x.1 < 0)) g.1) (0, 0)).1 - x.1 = 0)))]) (ofH [])]) (s' := AS.lst 28 [(2, vp 2 0), (3, vp 3 0), (4, vp 4 0), (5, vc (i6 ((Lib.leadS (fun y : One => decide (y.1 - x.1 < 0)) g.1) : Int)))] [(2, AObj.row [.s (slO g.1), .s (slO g.2)]), (3, AObj.row [.s (i6 x.1), .s (u8 x.2)]), (4, AObj.row [.s (SC.nilsl), .s (SC.nilsl)])]) (by kernel_rfl) ?_ ?_
  · exact (Search_c 139 x (fun a : One => a.1 - x.1) g.1 (fun a ha => inC_c a x (hok a ha) hx) (up_ahead hu _) (by omega))
  refine AMx.seq ?_
  refine AMx.region_draw (ces := [(5, CE.shr (some (AObj.grow 166 2 One (0, 0) rowO [x]))), (10, CE.obj (AObj.grow 42 1 (List One) [] rowL [List.take (Lib.leadS (fun y : One => decide (y.1 - x.1 < 0)) g.1) g.1, [x], List.drop (Lib.leadS (fun y : One => decide (y.1 - x.1 < 0)) g.1) g.1])), (11, CE.call [24] [] (vc (slO (([List.take (Lib.leadS (fun y : One => decide (y.1 - x.1 < 0)) g.1) g.1, [x], List.drop (Lib.leadS (fun y : One => decide (y.1 - x.1 < 0)) g.1) g.1]).flatten))) [])]) (ros := [(1, [2]), (4, [3]), (7, [2]), (11, [24]), (13, [2])]) (ks := [2, 4]) (hs := [2, 4]) (cs := [0 ≤ ((Lib.leadS (fun y : One => decide (y.1 - x.1 < 0)) g.1) : Int), ((Lib.leadS (fun y : One => decide (y.1 - x.1 < 0)) g.1) : Int) ≤ List.length g.1, flat 2 rowO [x] = [.s (i6 x.1), .s (u8 x.2)], List.length ([x] : List One) = 1, 0 ≤ ((Lib.leadS (fun y : One => decide (y.1 - x.1 < 0)) g.1) : Int), ((Lib.leadS (fun y : One => decide (y.1 - x.1 < 0)) g.1) : Int) ≤ List.length g.1, flat 1 rowL [List.take (Lib.leadS (fun y : One => decide (y.1 - x.1 < 0)) g.1) g.1, [x], List.drop (Lib.leadS (fun y : One => decide (y.1 - x.1 < 0)) g.1) g.1] = [.s (slO (List.take (Lib.leadS (fun y : One => decide (y.1 - x.1 < 0)) g.1) g.1)), .s (slO [x]), .s (slO (List.drop (Lib.leadS (fun y : One => decide (y.1 - x.1 < 0)) g.1) g.1))], List.length ([List.take (Lib.leadS (fun y : One => decide (y.1 - x.1 < 0)) g.1) g.1, [x], List.drop (Lib.leadS (fun y : One => decide (y.1 - x.1 < 0)) g.1) g.1] : List (List One)) = 3, Spec Try.prog 95 [tc (slL [List.take (Lib.leadS (fun y : One => decide (y.1 - x.1 < 0)) g.1) g.1, [x], List.drop (Lib.leadS (fun y : One => decide (y.1 - x.1 < 0)) g.1) g.1])] (ofH []) (vc (slO (([List.take (Lib.leadS (fun y : One => decide (y.1 - x.1 < 0)) g.1) g.1, [x], List.drop (Lib.leadS (fun y : One => decide (y.1 - x.1 < 0)) g.1) g.1]).flatten))) (ofH [])]) (s' := AS.lst 28 [(2, vp 2 0), (4, vp 4 0)] [(2, AObj.row [.s (slO (([List.take (Lib.leadS (fun y : One => decide (y.1 - x.1 < 0)) g.1) g.1, [x], List.drop (Lib.leadS (fun y : One => decide (y.1 - x.1 < 0)) g.1) g.1]).flatten)), .s (slO g.2)]), (4, AObj.row [.s (SC.nilsl), .s (SC.nilsl)])]) mixed (by kernel_rfl) ?_ ?_
  · exact ⟨(show 0 ≤ ((Lib.leadS (fun y : One => decide (y.1 - x.1 < 0)) g.1) : Int) from (by first | omega | (have hl := Lib.lead_le (fun y : One => decide (y.1 - x.1 < 0)) g.1; first | omega | (simp only [List.length_take, List.length_drop]; omega)))), (show ((Lib.leadS (fun y : One => decide (y.1 - x.1 < 0)) g.1) : Int) ≤ List.length g.1 from (by first | omega | (have hl := Lib.lead_le (fun y : One => decide (y.1 - x.1 < 0)) g.1; first | omega | (simp only [List.length_take, List.length_drop]; omega)))), rfl, rfl, (show 0 ≤ ((Lib.leadS (fun y : One => decide (y.1 - x.1 < 0)) g.1) : Int) from (by first | omega | (have hl := Lib.lead_le (fun y : One => decide (y.1 - x.1 < 0)) g.1; first | omega | (simp only [List.length_take, List.length_drop]; omega)))), (show ((Lib.leadS (fun y : One => decide (y.1 - x.1 < 0)) g.1) : Int) ≤ List.length g.1 from (by first | omega | (have hl := Lib.lead_le (fun y : One => decide (y.1 - x.1 < 0)) g.1; first | omega | (simp only [List.length_take, List.length_drop]; omega)))), rfl, rfl, (Concat_c [List.take (Lib.leadS (fun y : One => decide (y.1 - x.1 < 0)) g.1) g.1, [x], List.drop (Lib.leadS (fun y : One => decide (y.1 - x.1 < 0)) g.1) g.1] (by simp only [List.flatten_cons, List.flatten_nil, List.length_append, List.length_cons, List.length_nil, List.length_take, List.length_drop]; first | omega | (have hl := Lib.lead_le (fun y : One => decide (y.1 - x.1 < 0)) g.1; first | omega | (simp only [List.length_take, List.length_drop]; omega))))⟩
  refine AMx.seq ?_
  refine AMx.region (ces := []) (ks := [4]) (hs := [4]) (cs := []) (s' := AS.lst 28 [(4, vp 4 0)] [(4, AObj.row [.s (slO (([List.take (Lib.leadS (fun y : One => decide (y.1 - x.1 < 0)) g.1) g.1, [x], List.drop (Lib.leadS (fun y : One => decide (y.1 - x.1 < 0)) g.1) g.1]).flatten)), .s (slO g.2)])]) (by kernel_rfl) ?_ ?_
  · exact trivial
  refine AMx.ret ?_
  exact RetP.mk (r := AV.t (TV.agg [.s (slO (([List.take (Lib.leadS (fun y : One => decide (y.1 - x.1 < 0)) g.1) g.1, [x], List.drop (Lib.leadS (fun y : One => decide (y.1 - x.1 < 0)) g.1) g.1]).flatten)), .s (slO g.2)])) (by kernel_rfl) (by rw [← into_lead g.1 x hu]; simp)

theorem f38_body : Try.f38.body = some (.seq (.region 0 (rg Try.f38 0) false) (.seq (.seq (.region 1 (rg Try.f38 1) false) (.seq (.region 2 (rg Try.f38 2) false) (.cond (.tmp 11) (.seq (.region 3 (rg Try.f38 3) false) (.ret)) (.skip)))) (.seq (.region 4 (rg Try.f38 4) false) (.ret)))) := by kernel_rfl

set_option maxRecDepth 100000 in
set_option maxHeartbeats 8000000 in
theorem Holds_c (g : Gt) (w : Int) : Pure Try.prog 38 [TV.agg [.s (slO g.1), .s (slO g.2)], tc (i6 w)] (vc (u8 (modeS g.1 w))) := by
  refine Pure.of_body Try.func38 f38_body (by kernel_rfl) Try.ntmps38 (by kernel_rfl) (by kernel_rfl) ?_
  refine AMx.seq ?_
  refine AMx.region (ces := []) (ks := [1, 2]) (hs := [2]) (cs := []) (s' := AS.lst 18 [(1, vc (i6 w)), (2, vp 2 0)] [(2, AObj.row [.s (slO g.1), .s (slO g.2)])]) (by kernel_rfl) ?_ ?_
  · exact trivial
  refine AMx.seq ?_
  refine AMx.seq ?_
  refine AMx.region (ces := [(3, CE.call [] [] (vc (i6 (findS g.1 w))) [])]) (ks := [2, 5]) (hs := [2]) (cs := [Spec Try.prog 92 [tc (slO g.1), tc (i6 w)] (ofH []) (vc (i6 (findS g.1 w))) (ofH [])]) (s' := AS.lst 18 [(2, vp 2 0), (5, vc (i6 (findS g.1 w)))] [(2, AObj.row [.s (slO g.1), .s (slO g.2)])]) (by kernel_rfl) ?_ ?_
  · exact (find_c g.1 w)
  refine AMx.seq ?_
  refine AMx.region (ces := []) (ks := [2, 5, 11]) (hs := [2]) (cs := []) (s' := AS.lst 18 [(2, vp 2 0), (5, vc (i6 (findS g.1 w))), (11, vc (bo (decide (0 ≤ findS g.1 w))))] [(2, AObj.row [.s (slO g.1), .s (slO g.2)])]) (by kernel_rfl) ?_ ?_
  · exact trivial
  refine AMx.cond (b := decide (0 ≤ findS g.1 w)) (by kernel_rfl) (fun hc1 => ?_) (fun hc1 => ?_)
  · try simp only [decide_eq_true_eq, decide_eq_false_iff_not] at hc1
    refine AMx.seq ?_
    refine AMx.region (ces := []) (ks := [4]) (hs := []) (cs := [(0 : Int) ≤ findS g.1 w, findS g.1 w < List.length g.1]) (s' := AS.lst 18 [(4, vc (u8 ((List.getD g.1 (findS g.1 w).toNat (0, 0)).2)))] []) (by kernel_rfl) ?_ ?_
    · exact ⟨(show (0 : Int) ≤ findS g.1 w from (by first | omega | (have hf := find_lt g.1 w; omega))), (show findS g.1 w < List.length g.1 from (by first | omega | (have hf := find_lt g.1 w; omega)))⟩
    refine AMx.ret ?_
    exact RetP.mk (r := vc (u8 ((List.getD g.1 (findS g.1 w).toNat (0, 0)).2))) (by kernel_rfl) (by unfold modeS; rw [if_neg (by omega)])
  · try simp only [decide_eq_true_eq, decide_eq_false_iff_not] at hc1
    refine AMx.skip ?_
    refine AMx.seq ?_
    refine AMx.region (ces := []) (ks := [4]) (hs := []) (cs := []) (s' := AS.lst 18 [(4, vc (u8 0))] []) (by kernel_rfl) ?_ ?_
    · exact trivial
    refine AMx.ret ?_
    exact RetP.mk (r := vc (u8 0)) (by kernel_rfl) (by unfold modeS; rw [if_pos (by omega)])

theorem f39_body : Try.f39.body = some (.seq (.region 0 (rg Try.f39 0) false) (.seq (.region 1 (rg Try.f39 1) false) (.ret))) := by kernel_rfl

set_option maxRecDepth 100000 in
set_option maxHeartbeats 8000000 in
theorem Waits_c (g : Gt) (w : Int) : Pure Try.prog 39 [TV.agg [.s (slO g.1), .s (slO g.2)], tc (i6 w)] (vc (bo (decide (0 ≤ findS g.2 w)))) := by
  refine Pure.of_body Try.func39 f39_body (by kernel_rfl) Try.ntmps39 (by kernel_rfl) (by kernel_rfl) ?_
  refine AMx.seq ?_
  refine AMx.region (ces := []) (ks := [1, 2]) (hs := [2]) (cs := []) (s' := AS.lst 10 [(1, vc (i6 w)), (2, vp 2 0)] [(2, AObj.row [.s (slO g.1), .s (slO g.2)])]) (by kernel_rfl) ?_ ?_
  · exact trivial
  refine AMx.seq ?_
  refine AMx.region (ces := [(3, CE.call [] [] (vc (i6 (findS g.2 w))) [])]) (ks := [4]) (hs := []) (cs := [Spec Try.prog 92 [tc (slO g.2), tc (i6 w)] (ofH []) (vc (i6 (findS g.2 w))) (ofH [])]) (s' := AS.lst 10 [(4, vc (bo (decide (0 ≤ findS g.2 w))))] []) (by kernel_rfl) ?_ ?_
  · exact (find_c g.2 w)
  refine AMx.ret ?_
  exact RetP.mk (r := vc (bo (decide (0 ≤ findS g.2 w)))) (by kernel_rfl) rfl

theorem f100_body : Try.f100.body = some (.seq (.region 0 (rg Try.f100 0) false) (.seq (.region 1 (rg Try.f100 1) false) (.seq (.seq (.region 2 (rg Try.f100 2) false) (.block 0 (.loop (.seq (.region 3 (rg Try.f100 3) false) (.seq (.cond (.tmp 9) (.skip) (.exit 0)) (.seq (.block 1 (.seq (.region 4 (rg Try.f100 4) false) (.region 5 (rg Try.f100 5) false))) (.region 6 (rg Try.f100 6) false))))))) (.seq (.region 7 (rg Try.f100 7) false) (.ret))))) := by kernel_rfl

set_option maxRecDepth 100000 in
set_option maxHeartbeats 8000000 in
theorem names_c (l : List One) (hb : l.length ≤ 100000) : Pure Try.prog 100 [tc (slO l)] (vc (slI (namesS l))) := by
  refine Pure.of_body Try.func100 f100_body (by kernel_rfl) Try.ntmps100 (by kernel_rfl) (by kernel_rfl) ?_
  refine AMx.seq ?_
  refine AMx.region (ces := []) (ks := [0]) (hs := []) (cs := []) (s' := AS.lst 19 [(0, vc (slO l))] []) (by kernel_rfl) ?_ ?_
  · exact trivial
  refine AMx.seq ?_
  refine AMx.region (ces := []) (ks := [0, 3]) (hs := []) (cs := []) (s' := AS.lst 19 [(0, vc (slO l)), (3, vc (SC.nilsl))] []) (by kernel_rfl) ?_ ?_
  · exact trivial
  refine AMx.seq ?_
  refine AMx.seq ?_
  refine AMx.region (ces := []) (ks := [3, 6, 7, 8]) (hs := []) (cs := []) (s' := AS.lst 19 [(3, vc (SC.nilsl)), (6, vc (slO l)), (7, vc (i6 (List.length l : Int))), (8, vc (i6 0))] []) (by kernel_rfl) ?_ ?_
  · exact trivial
  refine AMx.block ?_
  refine AMx.ent (s' := AS.lst 19 [(3, vo 3), (6, vc (slO l)), (7, vc (i6 (List.length l : Int))), (8, vc (i6 0))] [(3, AObj.grow 3 1 Int 0 rowI [])]) (ent_adopt (t := 3) (d := 3) 3 1 Int 0 rowI (by kernel_rfl) (by kernel_rfl) (by kernel_rfl) (by kernel_rfl)) ?_
  refine AMx.ent (s' := AS.lst 19 [(3, vo 3), (6, vc (slO l)), (7, vc (i6 (List.length l : Int))), (8, vc (i6 0))] [(3, AObj.grow 3 1 Int 0 rowI [])]) (ent_proj [3, 6, 7, 8] [3]) ?_
  refine AMx.loop (fun mm ss => ∃ (k : Nat), (k ≤ l.length) ∧ mm = l.length - k ∧ ss = AS.lst 19 [(3, vo 3), (6, vc (slO l)), (7, vc (i6 (List.length l : Int))), (8, vc (i6 (k : Int)))] [(3, AObj.grow 3 1 Int 0 rowI (namesS (List.take k l)))]) ⟨0, ?_, rfl, ?_⟩ ?_
  · omega
  · rfl
  rintro mm ss ⟨k, hI, rfl, rfl⟩
  refine AMx.seq ?_
  refine AMx.region (ces := []) (ks := [3, 6, 7, 8, 9]) (hs := [3]) (cs := []) (s' := AS.lst 19 [(3, vo 3), (6, vc (slO l)), (7, vc (i6 (List.length l : Int))), (8, vc (i6 (k : Int))), (9, vc (bo (decide ((k : Int) < (List.length l : Int)))))] [(3, AObj.grow 3 1 Int 0 rowI (namesS (List.take k l)))]) (by kernel_rfl) ?_ ?_
  · exact trivial
  refine AMx.seq ?_
  refine AMx.cond (b := decide ((k : Int) < (List.length l : Int))) (by kernel_rfl) (fun hc1 => ?_) (fun hc1 => ?_)
  · try simp only [decide_eq_true_eq, decide_eq_false_iff_not] at hc1
    refine AMx.skip ?_
    refine AMx.seq ?_
    refine AMx.block ?_
    refine AMx.seq ?_
    refine AMx.region (ces := []) (ks := [3, 5, 6, 7, 8]) (hs := [3, 5]) (cs := [(0 : Int) ≤ (k : Int), (k : Int) < List.length l]) (s' := AS.lst 19 [(3, vo 3), (5, vp 5 0), (6, vc (slO l)), (7, vc (i6 (List.length l : Int))), (8, vc (i6 (k : Int)))] [(3, AObj.grow 3 1 Int 0 rowI (namesS (List.take k l))), (5, AObj.row [.s (i6 ((List.getD l k (0, 0)).1)), .s (u8 ((List.getD l k (0, 0)).2))])]) (by kernel_rfl) ?_ ?_
    · exact ⟨(show (0 : Int) ≤ (k : Int) from (by omega)), (show (k : Int) < List.length l from (by omega))⟩
    refine AMx.region (ces := [(3, CE.obj (AObj.grow 3 1 Int 0 rowI [(List.getD l k (0, 0)).1])), (4, CE.obj (AObj.grow 3 1 Int 0 rowI ((namesS (List.take k l)) ++ [(List.getD l k (0, 0)).1])))]) (ks := [3, 6, 7, 8]) (hs := [16]) (cs := [flat 1 rowI [(List.getD l k (0, 0)).1] = [.s (i6 ((List.getD l k (0, 0)).1))], List.length ([(List.getD l k (0, 0)).1] : List Int) = 1, AppC (flat 1 rowI [(List.getD l k (0, 0)).1]) (List.length ([(List.getD l k (0, 0)).1] : List Int)) 8 (AObj.grow 3 1 Int 0 rowI (namesS (List.take k l))) (AObj.grow 3 1 Int 0 rowI ((namesS (List.take k l)) ++ [(List.getD l k (0, 0)).1]))]) (s' := AS.lst 19 [(3, vo 16), (6, vc (slO l)), (7, vc (i6 (List.length l : Int))), (8, vc (i6 (k : Int)))] [(16, AObj.grow 3 1 Int 0 rowI ((namesS (List.take k l)) ++ [(List.getD l k (0, 0)).1]))]) (by kernel_rfl) ?_ ?_
    · exact ⟨rfl, rfl, (⟨_, rfl, rfl, rfl, by simp only [names_len, List.length_take, List.length_cons, List.length_nil]; omega, by simp only [maxLen, names_len, List.length_take, List.length_cons, List.length_nil]; omega⟩)⟩
    refine AMx.blk ?_
    refine AMx.region (ces := []) (ks := [3, 6, 7, 8]) (hs := [16]) (cs := [InR .i64 ((k : Int) + 1)]) (s' := AS.lst 19 [(3, vo 16), (6, vc (slO l)), (7, vc (i6 (List.length l : Int))), (8, vc (i6 ((k : Int) + 1)))] [(16, AObj.grow 3 1 Int 0 rowI ((namesS (List.take k l)) ++ [(List.getD l k (0, 0)).1]))]) (by kernel_rfl) ?_ ?_
    · exact (show InR .i64 ((k : Int) + 1) from (inR64 (by omega) (by omega)))
    refine AMx.ent_inv (s' := AS.lst 19 [(3, vo 3), (6, vc (slO l)), (7, vc (i6 (List.length l : Int))), (8, vc (i6 ((k : Int) + 1)))] [(3, AObj.grow 3 1 Int 0 rowI ((namesS (List.take k l)) ++ [(List.getD l k (0, 0)).1]))]) (ent_swap 16 3 (by kernel_rfl) (by kernel_rfl)) ?_
    refine AMx.ent_inv (s' := AS.lst 19 [(3, vo 3), (6, vc (slO l)), (7, vc (i6 (List.length l : Int))), (8, vc (i6 ((k : Int) + 1)))] [(3, AObj.grow 3 1 Int 0 rowI ((namesS (List.take k l)) ++ [(List.getD l k (0, 0)).1]))]) (ent_proj [3, 6, 7, 8] [3]) ?_
    refine AMx.inv ⟨_, ?_, k + 1, ?_, rfl, ?_⟩
    rotate_left
    · omega
    · rw [← names_step l k (by omega)]; rfl
    · omega
  · try simp only [decide_eq_true_eq, decide_eq_false_iff_not] at hc1
    refine AMx.exit ?_
    refine AMx.code_exit ?_
    refine AMx.inv_exit ?_
    refine AMx.blk_exit ?_
    refine AMx.seq ?_
    refine AMx.region (ces := []) (ks := [2]) (hs := [3]) (cs := []) (s' := AS.lst 19 [(2, vo 3)] [(3, AObj.grow 3 1 Int 0 rowI (namesS (List.take k l)))]) (by kernel_rfl) ?_ ?_
    · exact trivial
    refine AMx.ent (s' := AS.lst 19 [(2, vc (slI (namesS (List.take k l))))] []) (ent_freeze (id := 3) (T := 3) (by kernel_rfl)) ?_
    refine AMx.ret ?_
    exact RetP.mk (r := vc (slI (namesS (List.take k l)))) (by kernel_rfl) (by rw [List.take_of_length_le (by omega)])

theorem f97_body : Try.f97.body = some (.seq (.region 0 (rg Try.f97 0) false) (.seq (.region 1 (rg Try.f97 1) false) (.seq (.seq (.region 2 (rg Try.f97 2) false) (.block 0 (.loop (.seq (.seq (.region 3 (rg Try.f97 3) false) (.cond (.tmp 8) (.skip) (.exit 0))) (.seq (.block 1 (.region 5 (rg Try.f97 5) false)) (.region 4 (rg Try.f97 4) false)))))) (.seq (.region 6 (rg Try.f97 6) false) (.ret))))) := by kernel_rfl

set_option maxRecDepth 100000 in
set_option maxHeartbeats 8000000 in
theorem RNames_c (l : List One) (hb : l.length ≤ 100000) : Pure Try.prog 97 [tc (slO l)] (vc (slI (namesS l))) := by
  refine Pure.of_body Try.func97 f97_body (by kernel_rfl) Try.ntmps97 (by kernel_rfl) (by kernel_rfl) ?_
  refine AMx.seq ?_
  refine AMx.region (ces := []) (ks := [0]) (hs := []) (cs := []) (s' := AS.lst 20 [(0, vc (slO l))] []) (by kernel_rfl) ?_ ?_
  · exact trivial
  refine AMx.seq ?_
  refine AMx.region (ces := []) (ks := [0, 3]) (hs := []) (cs := []) (s' := AS.lst 20 [(0, vc (slO l)), (3, vc (SC.nilsl))] []) (by kernel_rfl) ?_ ?_
  · exact trivial
  refine AMx.seq ?_
  refine AMx.seq ?_
  refine AMx.region (ces := []) (ks := [0, 3, 4]) (hs := []) (cs := []) (s' := AS.lst 20 [(0, vc (slO l)), (3, vc (SC.nilsl)), (4, vc (i6 0))] []) (by kernel_rfl) ?_ ?_
  · exact trivial
  refine AMx.block ?_
  refine AMx.ent (s' := AS.lst 20 [(0, vc (slO l)), (3, vo 3), (4, vc (i6 0))] [(3, AObj.grow 3 1 Int 0 rowI [])]) (ent_adopt (t := 3) (d := 3) 3 1 Int 0 rowI (by kernel_rfl) (by kernel_rfl) (by kernel_rfl) (by kernel_rfl)) ?_
  refine AMx.ent (s' := AS.lst 20 [(0, vc (slO l)), (3, vo 3), (4, vc (i6 0))] [(3, AObj.grow 3 1 Int 0 rowI [])]) (ent_proj [0, 3, 4] [3]) ?_
  refine AMx.loop (fun mm ss => ∃ (k : Nat), (k ≤ l.length) ∧ mm = l.length - k ∧ ss = AS.lst 20 [(0, vc (slO l)), (3, vo 3), (4, vc (i6 (k : Int)))] [(3, AObj.grow 3 1 Int 0 rowI (namesS (List.take k l)))]) ⟨0, ?_, rfl, ?_⟩ ?_
  · omega
  · rfl
  rintro mm ss ⟨k, hI, rfl, rfl⟩
  refine AMx.seq ?_
  refine AMx.seq ?_
  refine AMx.region (ces := []) (ks := [0, 3, 4, 8]) (hs := [3]) (cs := []) (s' := AS.lst 20 [(0, vc (slO l)), (3, vo 3), (4, vc (i6 (k : Int))), (8, vc (bo (decide ((k : Int) < (List.length l : Int)))))] [(3, AObj.grow 3 1 Int 0 rowI (namesS (List.take k l)))]) (by kernel_rfl) ?_ ?_
  · exact trivial
  refine AMx.cond (b := decide ((k : Int) < (List.length l : Int))) (by kernel_rfl) (fun hc1 => ?_) (fun hc1 => ?_)
  · try simp only [decide_eq_true_eq, decide_eq_false_iff_not] at hc1
    refine AMx.skip ?_
    refine AMx.seq ?_
    refine AMx.block ?_
    refine AMx.region (ces := [(6, CE.obj (AObj.grow 3 1 Int 0 rowI [(List.getD l k (0, 0)).1])), (7, CE.obj (AObj.grow 3 1 Int 0 rowI ((namesS (List.take k l)) ++ [(List.getD l k (0, 0)).1])))]) (ks := [0, 3, 4]) (hs := [18]) (cs := [(0 : Int) ≤ (k : Int), (k : Int) < List.length l, flat 1 rowI [(List.getD l k (0, 0)).1] = [.s (i6 ((List.getD l k (0, 0)).1))], List.length ([(List.getD l k (0, 0)).1] : List Int) = 1, AppC (flat 1 rowI [(List.getD l k (0, 0)).1]) (List.length ([(List.getD l k (0, 0)).1] : List Int)) 8 (AObj.grow 3 1 Int 0 rowI (namesS (List.take k l))) (AObj.grow 3 1 Int 0 rowI ((namesS (List.take k l)) ++ [(List.getD l k (0, 0)).1]))]) (s' := AS.lst 20 [(0, vc (slO l)), (3, vo 18), (4, vc (i6 (k : Int)))] [(18, AObj.grow 3 1 Int 0 rowI ((namesS (List.take k l)) ++ [(List.getD l k (0, 0)).1]))]) (by kernel_rfl) ?_ ?_
    · exact ⟨(show (0 : Int) ≤ (k : Int) from (by omega)), (show (k : Int) < List.length l from (by omega)), rfl, rfl, (⟨_, rfl, rfl, rfl, by simp only [names_len, List.length_take, List.length_cons, List.length_nil]; omega, by simp only [maxLen, names_len, List.length_take, List.length_cons, List.length_nil]; omega⟩)⟩
    refine AMx.blk ?_
    refine AMx.region (ces := []) (ks := [0, 3, 4]) (hs := [18]) (cs := [InR .i64 ((k : Int) + 1)]) (s' := AS.lst 20 [(0, vc (slO l)), (3, vo 18), (4, vc (i6 ((k : Int) + 1)))] [(18, AObj.grow 3 1 Int 0 rowI ((namesS (List.take k l)) ++ [(List.getD l k (0, 0)).1]))]) (by kernel_rfl) ?_ ?_
    · exact (show InR .i64 ((k : Int) + 1) from (inR64 (by omega) (by omega)))
    refine AMx.ent_inv (s' := AS.lst 20 [(0, vc (slO l)), (3, vo 3), (4, vc (i6 ((k : Int) + 1)))] [(3, AObj.grow 3 1 Int 0 rowI ((namesS (List.take k l)) ++ [(List.getD l k (0, 0)).1]))]) (ent_swap 18 3 (by kernel_rfl) (by kernel_rfl)) ?_
    refine AMx.ent_inv (s' := AS.lst 20 [(0, vc (slO l)), (3, vo 3), (4, vc (i6 ((k : Int) + 1)))] [(3, AObj.grow 3 1 Int 0 rowI ((namesS (List.take k l)) ++ [(List.getD l k (0, 0)).1]))]) (ent_proj [0, 3, 4] [3]) ?_
    refine AMx.inv ⟨_, ?_, k + 1, ?_, rfl, ?_⟩
    rotate_left
    · omega
    · rw [← names_step l k (by omega)]; rfl
    · omega
  · try simp only [decide_eq_true_eq, decide_eq_false_iff_not] at hc1
    refine AMx.exit ?_
    refine AMx.code_exit ?_
    refine AMx.inv_exit ?_
    refine AMx.blk_exit ?_
    refine AMx.seq ?_
    refine AMx.region (ces := []) (ks := [2]) (hs := [3]) (cs := []) (s' := AS.lst 20 [(2, vo 3)] [(3, AObj.grow 3 1 Int 0 rowI (namesS (List.take k l)))]) (by kernel_rfl) ?_ ?_
    · exact trivial
    refine AMx.ent (s' := AS.lst 20 [(2, vc (slI (namesS (List.take k l))))] []) (ent_freeze (id := 3) (T := 3) (by kernel_rfl)) ?_
    refine AMx.ret ?_
    exact RetP.mk (r := vc (slI (namesS (List.take k l)))) (by kernel_rfl) (by rw [List.take_of_length_le (by omega)])

theorem f46_body : Try.f46.body = some (.seq (.region 0 (rg Try.f46 0) false) (.seq (.region 1 (rg Try.f46 1) false) (.ret))) := by kernel_rfl

set_option maxRecDepth 100000 in
set_option maxHeartbeats 8000000 in
theorem Holders_c (g : Gt) (hb : g.1.length + g.2.length ≤ 90000) : Pure Try.prog 46 [TV.agg [.s (slO g.1), .s (slO g.2)]] (vc (slI (namesS g.1))) := by
  refine Pure.of_body Try.func46 f46_body (by kernel_rfl) Try.ntmps46 (by kernel_rfl) (by kernel_rfl) ?_
  refine AMx.seq ?_
  refine AMx.region (ces := []) (ks := [1]) (hs := [1]) (cs := []) (s' := AS.lst 6 [(1, vp 1 0)] [(1, AObj.row [.s (slO g.1), .s (slO g.2)])]) (by kernel_rfl) ?_ ?_
  · exact trivial
  refine AMx.seq ?_
  refine AMx.region (ces := [(2, CE.call [] [] (vc (slI (namesS g.1))) [])]) (ks := [2]) (hs := []) (cs := [Spec Try.prog 100 [tc (slO g.1)] (ofH []) (vc (slI (namesS g.1))) (ofH [])]) (s' := AS.lst 6 [(2, vc (slI (namesS g.1)))] []) (by kernel_rfl) ?_ ?_
  · exact (names_c g.1 (by omega))
  refine AMx.ret ?_
  exact RetP.mk (r := vc (slI (namesS g.1))) (by kernel_rfl) rfl

theorem f48_body : Try.f48.body = some (.seq (.region 0 (rg Try.f48 0) false) (.seq (.region 1 (rg Try.f48 1) false) (.ret))) := by kernel_rfl

set_option maxRecDepth 100000 in
set_option maxHeartbeats 8000000 in
theorem Row_c (g : Gt) (hb : g.1.length + g.2.length ≤ 90000) : Pure Try.prog 48 [TV.agg [.s (slO g.1), .s (slO g.2)]] (vc (slI (namesS g.2))) := by
  refine Pure.of_body Try.func48 f48_body (by kernel_rfl) Try.ntmps48 (by kernel_rfl) (by kernel_rfl) ?_
  refine AMx.seq ?_
  refine AMx.region (ces := []) (ks := [1]) (hs := [1]) (cs := []) (s' := AS.lst 6 [(1, vp 1 0)] [(1, AObj.row [.s (slO g.1), .s (slO g.2)])]) (by kernel_rfl) ?_ ?_
  · exact trivial
  refine AMx.seq ?_
  refine AMx.region (ces := [(2, CE.call [] [] (vc (slI (namesS g.2))) [])]) (ks := [2]) (hs := []) (cs := [Spec Try.prog 100 [tc (slO g.2)] (ofH []) (vc (slI (namesS g.2))) (ofH [])]) (s' := AS.lst 6 [(2, vc (slI (namesS g.2)))] []) (by kernel_rfl) ?_ ?_
  · exact (names_c g.2 (by omega))
  refine AMx.ret ?_
  exact RetP.mk (r := vc (slI (namesS g.2))) (by kernel_rfl) rfl

theorem f47_body : Try.f47.body = some (.seq (.region 0 (rg Try.f47 0) false) (.seq (.region 1 (rg Try.f47 1) false) (.ret))) := by kernel_rfl

set_option maxRecDepth 100000 in
set_option maxHeartbeats 8000000 in
theorem Free_c (g : Gt) (hb : g.1.length + g.2.length ≤ 90000) : Pure Try.prog 47 [TV.agg [.s (slO g.1), .s (slO g.2)]] (vc (bo (decide ((List.length g.1 : Int) + (List.length g.2 : Int) = 0)))) := by
  refine Pure.of_body Try.func47 f47_body (by kernel_rfl) Try.ntmps47 (by kernel_rfl) (by kernel_rfl) ?_
  refine AMx.seq ?_
  refine AMx.region (ces := []) (ks := [1]) (hs := [1]) (cs := []) (s' := AS.lst 11 [(1, vp 1 0)] [(1, AObj.row [.s (slO g.1), .s (slO g.2)])]) (by kernel_rfl) ?_ ?_
  · exact trivial
  refine AMx.seq ?_
  refine AMx.region (ces := []) (ks := [2]) (hs := []) (cs := [InR .i64 ((List.length g.1 : Int) + (List.length g.2 : Int))]) (s' := AS.lst 11 [(2, vc (bo (decide ((List.length g.1 : Int) + (List.length g.2 : Int) = 0))))] []) (by kernel_rfl) ?_ ?_
  · exact (show InR .i64 ((List.length g.1 : Int) + (List.length g.2 : Int)) from (inR64 (by omega) (by omega)))
  refine AMx.ret ?_
  exact RetP.mk (r := vc (bo (decide ((List.length g.1 : Int) + (List.length g.2 : Int) = 0)))) (by kernel_rfl) rfl

theorem f98_body : Try.f98.body = some (.seq (.region 0 (rg Try.f98 0) false) (.seq (.seq (.region 1 (rg Try.f98 1) false) (.cond (.tmp 10) (.seq (.region 2 (rg Try.f98 2) false) (.ret)) (.skip))) (.seq (.seq (.region 3 (rg Try.f98 3) false) (.block 0 (.loop (.seq (.region 4 (rg Try.f98 4) false) (.seq (.cond (.tmp 14) (.skip) (.exit 0)) (.seq (.block 1 (.seq (.region 5 (rg Try.f98 5) false) (.seq (.region 6 (rg Try.f98 6) true) (.cond (.tmp 24) (.seq (.region 7 (rg Try.f98 7) false) (.ret)) (.skip))))) (.region 8 (rg Try.f98 8) false))))))) (.seq (.region 9 (rg Try.f98 9) false) (.ret))))) := by kernel_rfl

set_option maxRecDepth 100000 in
set_option maxHeartbeats 8000000 in
theorem Equal_c (a b : List One) : Pure Try.prog 98 [tc (slO a), tc (slO b)] (vc (bo (decide (a = b)))) := by
  refine Pure.of_body Try.func98 f98_body (by kernel_rfl) Try.ntmps98 (by kernel_rfl) (by kernel_rfl) ?_
  refine AMx.sl 0 (l := a) rfl (fun hl => ?_)
  simp only [maxLen] at hl
  refine AMx.seq ?_
  refine AMx.region (ces := []) (ks := [0, 1]) (hs := []) (cs := []) (s' := AS.lst 26 [(0, vc (slO a)), (1, vc (slO b))] []) (by kernel_rfl) ?_ ?_
  · exact trivial
  refine AMx.seq ?_
  refine AMx.seq ?_
  refine AMx.region (ces := []) (ks := [0, 1, 10]) (hs := []) (cs := []) (s' := AS.lst 26 [(0, vc (slO a)), (1, vc (slO b)), (10, vc (bo (!decide ((List.length a : Int) = (List.length b : Int)))))] []) (by kernel_rfl) ?_ ?_
  · exact trivial
  refine AMx.cond (b := !decide ((List.length a : Int) = (List.length b : Int))) (by kernel_rfl) (fun hc1 => ?_) (fun hc1 => ?_)
  · try simp only [decide_eq_true_eq, decide_eq_false_iff_not, Bool.not_eq_true', Bool.not_eq_false'] at hc1
    refine AMx.seq ?_
    refine AMx.region (ces := []) (ks := [4]) (hs := []) (cs := []) (s' := AS.lst 26 [(4, vc (bo false))] []) (by kernel_rfl) ?_ ?_
    · exact trivial
    refine AMx.ret ?_
    exact RetP.mk (r := vc (bo false)) (by kernel_rfl) (by rw [decide_eq_false (fun h => by subst h; simp_all)])
  · try simp only [decide_eq_true_eq, decide_eq_false_iff_not, Bool.not_eq_true', Bool.not_eq_false'] at hc1
    refine AMx.skip ?_
    refine AMx.seq ?_
    refine AMx.seq ?_
    refine AMx.region (ces := []) (ks := [0, 1, 12, 13]) (hs := []) (cs := []) (s' := AS.lst 26 [(0, vc (slO a)), (1, vc (slO b)), (12, vc (i6 (List.length a : Int))), (13, vc (i6 0))] []) (by kernel_rfl) ?_ ?_
    · exact trivial
    refine AMx.block ?_
    refine AMx.ent (s' := AS.lst 26 [(0, vc (slO a)), (1, vc (slO b)), (12, vc (i6 (List.length a : Int))), (13, vc (i6 0))] []) (ent_proj [0, 1, 12, 13] []) ?_
    refine AMx.loop (fun mm ss => ∃ (i : Nat), (i ≤ a.length ∧ List.take i a = List.take i b) ∧ mm = a.length - i ∧ ss = AS.lst 26 [(0, vc (slO a)), (1, vc (slO b)), (12, vc (i6 (List.length a : Int))), (13, vc (i6 (i : Int)))] []) ⟨0, ?_, rfl, ?_⟩ ?_
    · exact ⟨by omega, rfl⟩
    · rfl
    rintro mm ss ⟨i, ⟨hI, hE⟩, rfl, rfl⟩
    refine AMx.seq ?_
    refine AMx.region (ces := []) (ks := [0, 1, 12, 13, 14]) (hs := []) (cs := []) (s' := AS.lst 26 [(0, vc (slO a)), (1, vc (slO b)), (12, vc (i6 (List.length a : Int))), (13, vc (i6 (i : Int))), (14, vc (bo (decide ((i : Int) < (List.length a : Int)))))] []) (by kernel_rfl) ?_ ?_
    · exact trivial
    refine AMx.seq ?_
    refine AMx.cond (b := decide ((i : Int) < (List.length a : Int))) (by kernel_rfl) (fun hc2 => ?_) (fun hc2 => ?_)
    · try simp only [decide_eq_true_eq, decide_eq_false_iff_not] at hc2
      refine AMx.skip ?_
      refine AMx.seq ?_
      refine AMx.block ?_
      refine AMx.seq ?_
      refine AMx.region (ces := []) (ks := [0, 1, 5, 12, 13]) (hs := []) (cs := []) (s' := AS.lst 26 [(0, vc (slO a)), (1, vc (slO b)), (5, vc (i6 (i : Int))), (12, vc (i6 (List.length a : Int))), (13, vc (i6 (i : Int)))] []) (by kernel_rfl) ?_ ?_
      · exact trivial
      refine AMx.seq ?_
      refine AMx.region_draw (ces := []) (ros := []) (ks := [0, 1, 12, 13, 24]) (hs := []) (cs := [(0 : Int) ≤ (i : Int), (i : Int) < List.length a, (0 : Int) ≤ (i : Int), (i : Int) < List.length b]) (s' := AS.lst 26 [(0, vc (slO a)), (1, vc (slO b)), (12, vc (i6 (List.length a : Int))), (13, vc (i6 (i : Int))), (24, vc (bo (!(decide ((List.getD a i (0, 0)).1 = (List.getD b i (0, 0)).1) && (decide ((List.getD a i (0, 0)).2 = (List.getD b i (0, 0)).2) && true)))))] []) mixed (by kernel_rfl) ?_ ?_
      · exact ⟨(show (0 : Int) ≤ (i : Int) from (by omega)), (show (i : Int) < List.length a from (by omega)), (show (0 : Int) ≤ (i : Int) from (by omega)), (show (i : Int) < List.length b from (by omega))⟩
      refine AMx.cond (b := !(decide ((List.getD a i (0, 0)).1 = (List.getD b i (0, 0)).1) && (decide ((List.getD a i (0, 0)).2 = (List.getD b i (0, 0)).2) && true))) (by kernel_rfl) (fun hc3 => ?_) (fun hc3 => ?_)
      · try simp only [decide_eq_true_eq, decide_eq_false_iff_not, Bool.and_eq_true, Bool.and_eq_false_iff, Bool.not_eq_true', Bool.not_eq_false'] at hc3
        refine AMx.seq ?_
        refine AMx.region (ces := []) (ks := [4]) (hs := []) (cs := []) (s' := AS.lst 26 [(4, vc (bo false))] []) (by kernel_rfl) ?_ ?_
        · exact trivial
        refine AMx.ret ?_
        exact RetP.mk (r := vc (bo false)) (by kernel_rfl) (by rw [decide_eq_false (fun h => by subst h; simp_all)])
      · try simp only [decide_eq_true_eq, decide_eq_false_iff_not, Bool.and_eq_true, Bool.and_eq_false_iff, Bool.not_eq_true', Bool.not_eq_false'] at hc3
        refine AMx.skip ?_
        refine AMx.blk ?_
        refine AMx.region (ces := []) (ks := [0, 1, 12, 13]) (hs := []) (cs := [InR .i64 ((i : Int) + 1)]) (s' := AS.lst 26 [(0, vc (slO a)), (1, vc (slO b)), (12, vc (i6 (List.length a : Int))), (13, vc (i6 ((i : Int) + 1)))] []) (by kernel_rfl) ?_ ?_
        · exact (show InR .i64 ((i : Int) + 1) from (inR64 (by omega) (by omega)))
        refine AMx.ent_inv (s' := AS.lst 26 [(0, vc (slO a)), (1, vc (slO b)), (12, vc (i6 (List.length a : Int))), (13, vc (i6 ((i : Int) + 1)))] []) (ent_proj [0, 1, 12, 13] []) ?_
        refine AMx.inv ⟨_, ?_, i + 1, ?_, rfl, ?_⟩
        rotate_left
        · exact ⟨by omega, Lib.same_step (0, 0) a b i (by omega) (by omega) hE (by first | (obtain ⟨e1, e2, _⟩ := hc3; exact Prod.ext e1 e2) | (obtain ⟨e1, e2⟩ := hc3; exact Prod.ext e1 e2))⟩
        · rfl
        · omega
    · try simp only [decide_eq_true_eq, decide_eq_false_iff_not] at hc2
      refine AMx.exit ?_
      refine AMx.code_exit ?_
      refine AMx.inv_exit ?_
      refine AMx.blk_exit ?_
      refine AMx.seq ?_
      refine AMx.region (ces := []) (ks := [4]) (hs := []) (cs := []) (s' := AS.lst 26 [(4, vc (bo true))] []) (by kernel_rfl) ?_ ?_
      · exact trivial
      refine AMx.ret ?_
      exact RetP.mk (r := vc (bo true)) (by kernel_rfl) (by rw [decide_eq_true (Lib.same_end a b i (by omega) (by omega) hE)])

theorem f99_body : Try.f99.body = some (.seq (.region 0 (rg Try.f99 0) false) (.seq (.seq (.region 1 (rg Try.f99 1) false) (.cond (.tmp 10) (.seq (.region 2 (rg Try.f99 2) false) (.ret)) (.skip))) (.seq (.seq (.region 3 (rg Try.f99 3) false) (.block 0 (.loop (.seq (.seq (.region 4 (rg Try.f99 4) false) (.cond (.tmp 14) (.skip) (.exit 0))) (.seq (.block 1 (.seq (.region 6 (rg Try.f99 6) true) (.cond (.tmp 25) (.seq (.region 7 (rg Try.f99 7) false) (.ret)) (.skip)))) (.region 5 (rg Try.f99 5) false)))))) (.seq (.region 8 (rg Try.f99 8) false) (.ret))))) := by kernel_rfl

set_option maxRecDepth 100000 in
set_option maxHeartbeats 8000000 in
theorem same_c (a b : List One) : Pure Try.prog 99 [tc (slO a), tc (slO b)] (vc (bo (decide (a = b)))) := by
  refine Pure.of_body Try.func99 f99_body (by kernel_rfl) Try.ntmps99 (by kernel_rfl) (by kernel_rfl) ?_
  refine AMx.sl 0 (l := a) rfl (fun hl => ?_)
  simp only [maxLen] at hl
  refine AMx.seq ?_
  refine AMx.region (ces := []) (ks := [0, 1]) (hs := []) (cs := []) (s' := AS.lst 26 [(0, vc (slO a)), (1, vc (slO b))] []) (by kernel_rfl) ?_ ?_
  · exact trivial
  refine AMx.seq ?_
  refine AMx.seq ?_
  refine AMx.region (ces := []) (ks := [0, 1, 10]) (hs := []) (cs := []) (s' := AS.lst 26 [(0, vc (slO a)), (1, vc (slO b)), (10, vc (bo (!decide ((List.length a : Int) = (List.length b : Int)))))] []) (by kernel_rfl) ?_ ?_
  · exact trivial
  refine AMx.cond (b := !decide ((List.length a : Int) = (List.length b : Int))) (by kernel_rfl) (fun hc1 => ?_) (fun hc1 => ?_)
  · try simp only [decide_eq_true_eq, decide_eq_false_iff_not, Bool.not_eq_true', Bool.not_eq_false'] at hc1
    refine AMx.seq ?_
    refine AMx.region (ces := []) (ks := [4]) (hs := []) (cs := []) (s' := AS.lst 26 [(4, vc (bo false))] []) (by kernel_rfl) ?_ ?_
    · exact trivial
    refine AMx.ret ?_
    exact RetP.mk (r := vc (bo false)) (by kernel_rfl) (by rw [decide_eq_false (fun h => by subst h; simp_all)])
  · try simp only [decide_eq_true_eq, decide_eq_false_iff_not, Bool.not_eq_true', Bool.not_eq_false'] at hc1
    refine AMx.skip ?_
    refine AMx.seq ?_
    refine AMx.seq ?_
    refine AMx.region (ces := []) (ks := [0, 1, 5]) (hs := []) (cs := []) (s' := AS.lst 26 [(0, vc (slO a)), (1, vc (slO b)), (5, vc (i6 0))] []) (by kernel_rfl) ?_ ?_
    · exact trivial
    refine AMx.block ?_
    refine AMx.ent (s' := AS.lst 26 [(0, vc (slO a)), (1, vc (slO b)), (5, vc (i6 0))] []) (ent_proj [0, 1, 5] []) ?_
    refine AMx.loop (fun mm ss => ∃ (i : Nat), (i ≤ a.length ∧ List.take i a = List.take i b) ∧ mm = a.length - i ∧ ss = AS.lst 26 [(0, vc (slO a)), (1, vc (slO b)), (5, vc (i6 (i : Int)))] []) ⟨0, ?_, rfl, ?_⟩ ?_
    · exact ⟨by omega, rfl⟩
    · rfl
    rintro mm ss ⟨i, ⟨hI, hE⟩, rfl, rfl⟩
    refine AMx.seq ?_
    refine AMx.seq ?_
    refine AMx.region (ces := []) (ks := [0, 1, 5, 14]) (hs := []) (cs := []) (s' := AS.lst 26 [(0, vc (slO a)), (1, vc (slO b)), (5, vc (i6 (i : Int))), (14, vc (bo (decide ((i : Int) < (List.length a : Int)))))] []) (by kernel_rfl) ?_ ?_
    · exact trivial
    refine AMx.cond (b := decide ((i : Int) < (List.length a : Int))) (by kernel_rfl) (fun hc2 => ?_) (fun hc2 => ?_)
    · try simp only [decide_eq_true_eq, decide_eq_false_iff_not] at hc2
      refine AMx.skip ?_
      refine AMx.seq ?_
      refine AMx.block ?_
      refine AMx.seq ?_
      refine AMx.region_draw (ces := []) (ros := []) (ks := [0, 1, 5, 25]) (hs := []) (cs := [(0 : Int) ≤ (i : Int), (i : Int) < List.length a, (0 : Int) ≤ (i : Int), (i : Int) < List.length b]) (s' := AS.lst 26 [(0, vc (slO a)), (1, vc (slO b)), (5, vc (i6 (i : Int))), (25, vc (bo (!(decide ((List.getD a i (0, 0)).1 = (List.getD b i (0, 0)).1) && (decide ((List.getD a i (0, 0)).2 = (List.getD b i (0, 0)).2) && true)))))] []) mixed (by kernel_rfl) ?_ ?_
      · exact ⟨(show (0 : Int) ≤ (i : Int) from (by omega)), (show (i : Int) < List.length a from (by omega)), (show (0 : Int) ≤ (i : Int) from (by omega)), (show (i : Int) < List.length b from (by omega))⟩
      refine AMx.cond (b := !(decide ((List.getD a i (0, 0)).1 = (List.getD b i (0, 0)).1) && (decide ((List.getD a i (0, 0)).2 = (List.getD b i (0, 0)).2) && true))) (by kernel_rfl) (fun hc3 => ?_) (fun hc3 => ?_)
      · try simp only [decide_eq_true_eq, decide_eq_false_iff_not, Bool.and_eq_true, Bool.and_eq_false_iff, Bool.not_eq_true', Bool.not_eq_false'] at hc3
        refine AMx.seq ?_
        refine AMx.region (ces := []) (ks := [4]) (hs := []) (cs := []) (s' := AS.lst 26 [(4, vc (bo false))] []) (by kernel_rfl) ?_ ?_
        · exact trivial
        refine AMx.ret ?_
        exact RetP.mk (r := vc (bo false)) (by kernel_rfl) (by rw [decide_eq_false (fun h => by subst h; simp_all)])
      · try simp only [decide_eq_true_eq, decide_eq_false_iff_not, Bool.and_eq_true, Bool.and_eq_false_iff, Bool.not_eq_true', Bool.not_eq_false'] at hc3
        refine AMx.skip ?_
        refine AMx.blk ?_
        refine AMx.region (ces := []) (ks := [0, 1, 5]) (hs := []) (cs := [InR .i64 ((i : Int) + 1)]) (s' := AS.lst 26 [(0, vc (slO a)), (1, vc (slO b)), (5, vc (i6 ((i : Int) + 1)))] []) (by kernel_rfl) ?_ ?_
        · exact (show InR .i64 ((i : Int) + 1) from (inR64 (by omega) (by omega)))
        refine AMx.ent_inv (s' := AS.lst 26 [(0, vc (slO a)), (1, vc (slO b)), (5, vc (i6 ((i : Int) + 1)))] []) (ent_proj [0, 1, 5] []) ?_
        refine AMx.inv ⟨_, ?_, i + 1, ?_, rfl, ?_⟩
        rotate_left
        · exact ⟨by omega, Lib.same_step (0, 0) a b i (by omega) (by omega) hE (by first | (obtain ⟨e1, e2, _⟩ := hc3; exact Prod.ext e1 e2) | (obtain ⟨e1, e2⟩ := hc3; exact Prod.ext e1 e2))⟩
        · rfl
        · omega
    · try simp only [decide_eq_true_eq, decide_eq_false_iff_not] at hc2
      refine AMx.exit ?_
      refine AMx.code_exit ?_
      refine AMx.inv_exit ?_
      refine AMx.blk_exit ?_
      refine AMx.seq ?_
      refine AMx.region (ces := []) (ks := [4]) (hs := []) (cs := []) (s' := AS.lst 26 [(4, vc (bo true))] []) (by kernel_rfl) ?_ ?_
      · exact trivial
      refine AMx.ret ?_
      exact RetP.mk (r := vc (bo true)) (by kernel_rfl) (by rw [decide_eq_true (Lib.same_end a b i (by omega) (by omega) hE)])

theorem f43_body : Try.f43.body = some (.seq (.region 0 (rg Try.f43 0) false) (.seq (.region 1 (rg Try.f43 1) false) (.ret))) := by kernel_rfl

set_option maxRecDepth 100000 in
set_option maxHeartbeats 8000000 in
theorem Same_c (g h : Gt) : Pure Try.prog 43 [TV.agg [.s (slO g.1), .s (slO g.2)], TV.agg [.s (slO h.1), .s (slO h.2)]] (vc (bo (decide (g.1 = h.1) && decide (g.2 = h.2)))) := by
  refine Pure.of_body Try.func43 f43_body (by kernel_rfl) Try.ntmps43 (by kernel_rfl) (by kernel_rfl) ?_
  refine AMx.seq ?_
  refine AMx.region (ces := []) (ks := [2, 3]) (hs := [2, 3]) (cs := []) (s' := AS.lst 17 [(2, vp 2 0), (3, vp 3 0)] [(2, AObj.row [.s (slO g.1), .s (slO g.2)]), (3, AObj.row [.s (slO h.1), .s (slO h.2)])]) (by kernel_rfl) ?_ ?_
  · exact trivial
  refine AMx.seq ?_
  refine AMx.region (ces := [(4, CE.call [] [] (vc (bo (decide (g.1 = h.1)))) []), (10, CE.call [] [] (vc (bo (decide (g.2 = h.2)))) [])]) (ks := [4]) (hs := []) (cs := [Spec Try.prog 98 [tc (slO g.1), tc (slO h.1)] (ofH []) (vc (bo (decide (g.1 = h.1)))) (ofH []), ((decide (g.1 = h.1)) = true) → allP [], ((decide (g.1 = h.1)) = true) → allP [(decide (g.1 = h.1)) = true], ((decide (g.1 = h.1)) = true) → allP [], ((decide (g.1 = h.1)) = true) → allP [(decide (g.1 = h.1)) = true], ((decide (g.1 = h.1)) = true) → allP [(decide (g.1 = h.1)) = true, (decide (g.1 = h.1)) = true, Spec Try.prog 98 [tc (slO g.2), tc (slO h.2)] (ofH []) (vc (bo (decide (g.2 = h.2)))) (ofH [])], (decide (g.1 = h.1)) = true → allP [(decide (g.1 = h.1)) = true]]) (s' := AS.lst 17 [(4, vc (bo ((decide (g.1 = h.1)) && (decide (g.2 = h.2)))))] []) (by kernel_rfl) ?_ ?_
  · exact ⟨(Equal_c g.1 h.1), (fun _ => trivial), (fun hp => hp), (fun _ => trivial), (fun hp => hp), (fun hp => by have hq := hp; (try simp only [decide_eq_true_eq, decide_eq_false_iff_not, Bool.and_eq_true, Bool.or_eq_true, Bool.and_eq_false_iff, Bool.or_eq_false_iff, Bool.not_eq_true', Bool.not_eq_false', Bool.not_eq_true, Bool.not_eq_false] at hq); exact ⟨hp, hp, (Equal_c g.2 h.2)⟩), (fun hp2 => (by first | exact hp2 | exact ⟨hp, hp2⟩))⟩
  refine AMx.ret ?_
  exact RetP.mk (r := vc (bo ((decide (g.1 = h.1)) && (decide (g.2 = h.2))))) (by kernel_rfl) rfl

theorem f44_body : Try.f44.body = some (.seq (.region 0 (rg Try.f44 0) false) (.seq (.region 1 (rg Try.f44 1) false) (.ret))) := by kernel_rfl

set_option maxRecDepth 100000 in
set_option maxHeartbeats 8000000 in
theorem RSame_c (g h : Gt) : Pure Try.prog 44 [TV.agg [.s (slO g.1), .s (slO g.2)], TV.agg [.s (slO h.1), .s (slO h.2)]] (vc (bo (decide (g.1 = h.1) && decide (g.2 = h.2)))) := by
  refine Pure.of_body Try.func44 f44_body (by kernel_rfl) Try.ntmps44 (by kernel_rfl) (by kernel_rfl) ?_
  refine AMx.seq ?_
  refine AMx.region (ces := []) (ks := [2, 3]) (hs := [2, 3]) (cs := []) (s' := AS.lst 17 [(2, vp 2 0), (3, vp 3 0)] [(2, AObj.row [.s (slO g.1), .s (slO g.2)]), (3, AObj.row [.s (slO h.1), .s (slO h.2)])]) (by kernel_rfl) ?_ ?_
  · exact trivial
  refine AMx.seq ?_
  refine AMx.region (ces := [(4, CE.call [] [] (vc (bo (decide (g.1 = h.1)))) []), (10, CE.call [] [] (vc (bo (decide (g.2 = h.2)))) [])]) (ks := [4]) (hs := []) (cs := [Spec Try.prog 99 [tc (slO g.1), tc (slO h.1)] (ofH []) (vc (bo (decide (g.1 = h.1)))) (ofH []), ((decide (g.1 = h.1)) = true) → allP [], ((decide (g.1 = h.1)) = true) → allP [(decide (g.1 = h.1)) = true], ((decide (g.1 = h.1)) = true) → allP [], ((decide (g.1 = h.1)) = true) → allP [(decide (g.1 = h.1)) = true], ((decide (g.1 = h.1)) = true) → allP [(decide (g.1 = h.1)) = true, (decide (g.1 = h.1)) = true, Spec Try.prog 99 [tc (slO g.2), tc (slO h.2)] (ofH []) (vc (bo (decide (g.2 = h.2)))) (ofH [])], (decide (g.1 = h.1)) = true → allP [(decide (g.1 = h.1)) = true]]) (s' := AS.lst 17 [(4, vc (bo ((decide (g.1 = h.1)) && (decide (g.2 = h.2)))))] []) (by kernel_rfl) ?_ ?_
  · exact ⟨(same_c g.1 h.1), (fun _ => trivial), (fun hp => hp), (fun _ => trivial), (fun hp => hp), (fun hp => by have hq := hp; (try simp only [decide_eq_true_eq, decide_eq_false_iff_not, Bool.and_eq_true, Bool.or_eq_true, Bool.and_eq_false_iff, Bool.or_eq_false_iff, Bool.not_eq_true', Bool.not_eq_false', Bool.not_eq_true, Bool.not_eq_false] at hq); exact ⟨hp, hp, (same_c g.2 h.2)⟩), (fun hp2 => (by first | exact hp2 | exact ⟨hp, hp2⟩))⟩
  refine AMx.ret ?_
  exact RetP.mk (r := vc (bo ((decide (g.1 = h.1)) && (decide (g.2 = h.2))))) (by kernel_rfl) rfl

theorem f37_body : Try.f37.body = some (.seq (.region 0 (rg Try.f37 0) false) (.seq (.seq (.region 1 (rg Try.f37 1) false) (.block 0 (.loop (.seq (.seq (.region 2 (rg Try.f37 2) false) (.cond (.tmp 9) (.skip) (.exit 0))) (.seq (.block 1 (.seq (.region 4 (rg Try.f37 4) false) (.cond (.tmp 18) (.seq (.region 5 (rg Try.f37 5) false) (.ret)) (.skip)))) (.region 3 (rg Try.f37 3) false)))))) (.seq (.region 6 (rg Try.f37 6) false) (.ret)))) := by kernel_rfl

set_option maxRecDepth 100000 in
set_option maxHeartbeats 8000000 in
theorem RFind_c (l : List One) (w : Int) : Pure Try.prog 37 [tc (slO l), tc (i6 w)] (vc (i6 (findS l w))) := by
  refine Pure.of_body Try.func37 f37_body (by kernel_rfl) Try.ntmps37 (by kernel_rfl) (by kernel_rfl) ?_
  refine AMx.sl 0 (l := l) rfl (fun hl => ?_)
  simp only [maxLen] at hl
  refine AMx.seq ?_
  refine AMx.region (ces := []) (ks := [0, 1]) (hs := []) (cs := []) (s' := AS.lst 20 [(0, vc (slO l)), (1, vc (i6 w))] []) (by kernel_rfl) ?_ ?_
  · exact trivial
  refine AMx.seq ?_
  refine AMx.seq ?_
  refine AMx.region (ces := []) (ks := [0, 1, 5]) (hs := []) (cs := []) (s' := AS.lst 20 [(0, vc (slO l)), (1, vc (i6 w)), (5, vc (i6 0))] []) (by kernel_rfl) ?_ ?_
  · exact trivial
  refine AMx.block ?_
  refine AMx.ent (s' := AS.lst 20 [(0, vc (slO l)), (1, vc (i6 w)), (5, vc (i6 0))] []) (ent_proj [0, 1, 5] []) ?_
  refine AMx.loop (fun mm ss => ∃ (k : Nat), (k ≤ l.length ∧ ∀ x ∈ List.take k l, isW w x = false) ∧ mm = l.length - k ∧ ss = AS.lst 20 [(0, vc (slO l)), (1, vc (i6 w)), (5, vc (i6 (k : Int)))] []) ⟨0, ?_, rfl, ?_⟩ ?_
  · exact ⟨by omega, fun x hx => by simp at hx⟩
  · rfl
  rintro mm ss ⟨k, ⟨hI, hN⟩, rfl, rfl⟩
  refine AMx.seq ?_
  refine AMx.seq ?_
  refine AMx.region (ces := []) (ks := [0, 1, 5, 9]) (hs := []) (cs := []) (s' := AS.lst 20 [(0, vc (slO l)), (1, vc (i6 w)), (5, vc (i6 (k : Int))), (9, vc (bo (decide ((k : Int) < (List.length l : Int)))))] []) (by kernel_rfl) ?_ ?_
  · exact trivial
  refine AMx.cond (b := decide ((k : Int) < (List.length l : Int))) (by kernel_rfl) (fun hc1 => ?_) (fun hc1 => ?_)
  · try simp only [decide_eq_true_eq, decide_eq_false_iff_not] at hc1
    refine AMx.skip ?_
    refine AMx.seq ?_
    refine AMx.block ?_
    refine AMx.seq ?_
    refine AMx.region (ces := []) (ks := [0, 1, 5, 18]) (hs := []) (cs := [(0 : Int) ≤ (k : Int), (k : Int) < List.length l]) (s' := AS.lst 20 [(0, vc (slO l)), (1, vc (i6 w)), (5, vc (i6 (k : Int))), (18, vc (bo (decide ((List.getD l k (0, 0)).1 = w))))] []) (by kernel_rfl) ?_ ?_
    · exact ⟨(show (0 : Int) ≤ (k : Int) from (by omega)), (show (k : Int) < List.length l from (by omega))⟩
    refine AMx.cond (b := decide ((List.getD l k (0, 0)).1 = w)) (by kernel_rfl) (fun hc2 => ?_) (fun hc2 => ?_)
    · try simp only [decide_eq_true_eq, decide_eq_false_iff_not] at hc2
      refine AMx.seq ?_
      refine AMx.region (ces := []) (ks := [4]) (hs := []) (cs := []) (s' := AS.lst 20 [(4, vc (i6 (k : Int)))] []) (by kernel_rfl) ?_ ?_
      · exact trivial
      refine AMx.ret ?_
      exact RetP.mk (r := vc (i6 (k : Int))) (by kernel_rfl) (by unfold findS; rw [Lib.idx_hit (0, 0) l k (by omega) hN (decide_eq_true (by assumption))])
    · try simp only [decide_eq_true_eq, decide_eq_false_iff_not] at hc2
      refine AMx.skip ?_
      refine AMx.blk ?_
      refine AMx.region (ces := []) (ks := [0, 1, 5]) (hs := []) (cs := [InR .i64 ((k : Int) + 1)]) (s' := AS.lst 20 [(0, vc (slO l)), (1, vc (i6 w)), (5, vc (i6 ((k : Int) + 1)))] []) (by kernel_rfl) ?_ ?_
      · exact (show InR .i64 ((k : Int) + 1) from (inR64 (by omega) (by omega)))
      refine AMx.ent_inv (s' := AS.lst 20 [(0, vc (slO l)), (1, vc (i6 w)), (5, vc (i6 ((k : Int) + 1)))] []) (ent_proj [0, 1, 5] []) ?_
      refine AMx.inv ⟨_, ?_, k + 1, ?_, rfl, ?_⟩
      rotate_left
      · exact ⟨by omega, Lib.all_step (0, 0) l k (by omega) hN (decide_eq_false (by assumption))⟩
      · rfl
      · omega
  · try simp only [decide_eq_true_eq, decide_eq_false_iff_not] at hc1
    refine AMx.exit ?_
    refine AMx.code_exit ?_
    refine AMx.inv_exit ?_
    refine AMx.blk_exit ?_
    refine AMx.seq ?_
    refine AMx.region (ces := []) (ks := [4]) (hs := []) (cs := []) (s' := AS.lst 20 [(4, vc (i6 (-1)))] []) (by kernel_rfl) ?_ ?_
    · exact trivial
    refine AMx.ret ?_
    exact RetP.mk (r := vc (i6 (-1))) (by kernel_rfl) (by unfold findS; rw [Lib.idx_none (fun x hx => hN x (by rwa [List.take_of_length_le (by omega)]))])

theorem f133_body : Try.f133.body = some (.seq (.region 0 (rg Try.f133 0) false) (.seq (.seq (.region 1 (rg Try.f133 1) false) (.cond (.tmp 6) (.seq (.region 2 (rg Try.f133 2) false) (.ret)) (.skip))) (.seq (.region 3 (rg Try.f133 3) true) (.ret)))) := by kernel_rfl

set_option maxRecDepth 100000 in
set_option maxHeartbeats 8000000 in
theorem RWithout_c (l : List One) (i : Int) (hi : i < l.length) (hb : l.length ≤ 100000) : Pure Try.prog 133 [tc (slO l), tc (i6 i)] (vc (slO (cutS l i))) := by
  refine Pure.of_body Try.func133 f133_body (by kernel_rfl) Try.ntmps133 (by kernel_rfl) (by kernel_rfl) ?_
  refine AMx.seq ?_
  refine AMx.region (ces := []) (ks := [0, 1]) (hs := []) (cs := []) (s' := AS.lst 18 [(0, vc (slO l)), (1, vc (i6 i))] []) (by kernel_rfl) ?_ ?_
  · exact trivial
  refine AMx.seq ?_
  refine AMx.seq ?_
  refine AMx.region (ces := []) (ks := [0, 1, 6]) (hs := []) (cs := []) (s' := AS.lst 18 [(0, vc (slO l)), (1, vc (i6 i)), (6, vc (bo (decide (i < 0))))] []) (by kernel_rfl) ?_ ?_
  · exact trivial
  refine AMx.cond (b := decide (i < 0)) (by kernel_rfl) (fun hc1 => ?_) (fun hc1 => ?_)
  · try simp only [decide_eq_true_eq, decide_eq_false_iff_not] at hc1
    refine AMx.seq ?_
    refine AMx.region (ces := []) (ks := [4]) (hs := []) (cs := []) (s' := AS.lst 18 [(4, vc (slO l))] []) (by kernel_rfl) ?_ ?_
    · exact trivial
    refine AMx.ret ?_
    exact RetP.mk (r := vc (slO l)) (by kernel_rfl) (by unfold cutS; rw [if_pos (by assumption)])
  · try simp only [decide_eq_true_eq, decide_eq_false_iff_not] at hc1
    refine AMx.skip ?_
    refine AMx.seq ?_
    refine AMx.region_draw (ces := [(0, CE.obj (AObj.grow 52 2 One (0, 0) rowO [])), (4, CE.obj (AObj.grow 52 2 One (0, 0) rowO ([] ++ (List.take (i).toNat l)))), (9, CE.obj (AObj.grow 52 2 One (0, 0) rowO (([] ++ (List.take (i).toNat l)) ++ (List.drop (i + 1).toNat l))))]) (ros := [(4, [8]), (9, [12])]) (ks := [4]) (hs := [17]) (cs := [flat 2 rowO [] = [], List.length ([] : List One) = 0, 0 ≤ i, i ≤ List.length l, AppC (flat 2 rowO (List.take (i).toNat l)) (List.length (List.take (i).toNat l : List One)) 16 (AObj.grow 52 2 One (0, 0) rowO []) (AObj.grow 52 2 One (0, 0) rowO ([] ++ (List.take (i).toNat l))), InR .i64 (i + 1), 0 ≤ i + 1, i + 1 ≤ List.length l, AppC (flat 2 rowO (List.drop (i + 1).toNat l)) (List.length (List.drop (i + 1).toNat l : List One)) 16 (AObj.grow 52 2 One (0, 0) rowO ([] ++ (List.take (i).toNat l))) (AObj.grow 52 2 One (0, 0) rowO (([] ++ (List.take (i).toNat l)) ++ (List.drop (i + 1).toNat l)))]) (s' := AS.lst 18 [(4, vo 17)] [(17, AObj.grow 52 2 One (0, 0) rowO (([] ++ (List.take (i).toNat l)) ++ (List.drop (i + 1).toNat l)))]) mixed (by kernel_rfl) ?_ ?_
    · exact ⟨rfl, rfl, (show 0 ≤ i from (by omega)), (show i ≤ List.length l from (by omega)), (⟨_, rfl, rfl, rfl, by simp only [List.length_take, List.length_nil]; omega, by simp only [maxLen, List.length_take, List.length_nil]; omega⟩), (show InR .i64 (i + 1) from (inR64 (by omega) (by omega))), (show 0 ≤ i + 1 from (by omega)), (show i + 1 ≤ List.length l from (by omega)), (⟨_, rfl, rfl, rfl, by simp only [List.length_append, List.length_take, List.length_drop, List.length_nil]; omega, by simp only [maxLen, List.length_append, List.length_take, List.length_drop, List.length_nil]; omega⟩)⟩
    refine AMx.ent (s' := AS.lst 18 [(4, vc (slO (([] ++ (List.take (i).toNat l)) ++ (List.drop (i + 1).toNat l))))] []) (ent_freeze (id := 17) (T := 52) (by kernel_rfl)) ?_
    refine AMx.ret ?_
    exact RetP.mk (r := vc (slO (([] ++ (List.take (i).toNat l)) ++ (List.drop (i + 1).toNat l)))) (by kernel_rfl) (by unfold cutS; rw [if_neg (by omega), show (i + 1).toNat = i.toNat + 1 by omega]; rfl)

theorem f134_body : Try.f134.body = some (.seq (.region 0 (rg Try.f134 0) false) (.seq (.region 1 (rg Try.f134 1) false) (.ret))) := by kernel_rfl

set_option maxRecDepth 100000 in
set_option maxHeartbeats 8000000 in
theorem RMay_c (l : List One) (m : Int) : Pure Try.prog 134 [tc (slO l), tc (u8 m)] (vc (bo (openS l m))) := by
  refine Pure.of_body Try.func134 f134_body (by kernel_rfl) Try.ntmps134 (by kernel_rfl) (by kernel_rfl) ?_
  refine AMx.seq ?_
  refine AMx.region (ces := []) (ks := [0, 1]) (hs := []) (cs := []) (s' := AS.lst 19 [(0, vc (slO l)), (1, vc (u8 m))] []) (by kernel_rfl) ?_ ?_
  · exact trivial
  refine AMx.seq ?_
  refine AMx.region (ces := []) (ks := [4]) (hs := []) (cs := [((decide ((List.length l : Int) = 0)) = false) → allP [], ((decide ((List.length l : Int) = 0)) = false) → allP [(decide ((List.length l : Int) = 0)) = false], ((decide ((List.length l : Int) = 0)) = false) → allP [(decide ((List.length l : Int) = 0)) = false], (((decide ((List.length l : Int) = 0)) = false) ∧ (decide (m = 1)) = true) → allP [], (((decide ((List.length l : Int) = 0)) = false) ∧ (decide (m = 1)) = true) → allP [((decide ((List.length l : Int) = 0)) = false) ∧ (decide (m = 1)) = true, (0 : Int) ≤ 0, (0 : Int) < List.length l], (((decide ((List.length l : Int) = 0)) = false) ∧ (decide (m = 1)) = true) → allP [((decide ((List.length l : Int) = 0)) = false) ∧ (decide (m = 1)) = true], (((decide ((List.length l : Int) = 0)) = false) ∧ (decide (m = 1)) = true) → allP [((decide ((List.length l : Int) = 0)) = false) ∧ (decide (m = 1)) = true], (((decide ((List.length l : Int) = 0)) = false) ∧ (decide (m = 1)) = true) → allP [((decide ((List.length l : Int) = 0)) = false) ∧ (decide (m = 1)) = true], ((decide ((List.length l : Int) = 0)) = false) → allP [(decide ((List.length l : Int) = 0)) = false, (decide (m = 1)) = true → allP [((decide ((List.length l : Int) = 0)) = false) ∧ (decide (m = 1)) = true]], (decide ((List.length l : Int) = 0)) = false → allP [(decide ((List.length l : Int) = 0)) = false]]) (s' := AS.lst 19 [(4, vc (bo ((decide ((List.length l : Int) = 0)) || ((decide (m = 1)) && (decide ((List.getD l 0 (0, 0)).2 = 1))))))] []) (by kernel_rfl) ?_ ?_
  · exact ⟨(fun _ => trivial), (fun hp => hp), (fun hp => hp), (fun _ => trivial), (fun hp => by have hq := hp; (try simp only [decide_eq_true_eq, decide_eq_false_iff_not, Bool.and_eq_true, Bool.or_eq_true, Bool.and_eq_false_iff, Bool.or_eq_false_iff, Bool.not_eq_true', Bool.not_eq_false', Bool.not_eq_true, Bool.not_eq_false] at hq); exact ⟨hp, (show (0 : Int) ≤ 0 from (by omega)), (show (0 : Int) < List.length l from (by omega))⟩), (fun hp => hp), (fun hp => hp), (fun hp => hp), (fun hp => by have hq := hp; (try simp only [decide_eq_true_eq, decide_eq_false_iff_not, Bool.and_eq_true, Bool.or_eq_true, Bool.and_eq_false_iff, Bool.or_eq_false_iff, Bool.not_eq_true', Bool.not_eq_false', Bool.not_eq_true, Bool.not_eq_false] at hq); exact ⟨hp, (fun hp2 => (by first | exact hp2 | exact ⟨hp, hp2⟩))⟩), (fun hp2 => (by first | exact hp2 | exact ⟨hp, hp2⟩))⟩
  refine AMx.ret ?_
  exact RetP.mk (r := vc (bo ((decide ((List.length l : Int) = 0)) || ((decide (m = 1)) && (decide ((List.getD l 0 (0, 0)).2 = 1)))))) (by kernel_rfl) (by rw [open_eq])

theorem f135_body : Try.f135.body = some (.seq (.region 0 (rg Try.f135 0) false) (.seq (.region 1 (rg Try.f135 1) false) (.seq (.block 0 (.loop (.seq (.seq (.region 2 (rg Try.f135 2) true) (.cond (.tmp 19) (.skip) (.exit 0))) (.block 1 (.region 3 (rg Try.f135 3) false))))) (.seq (.region 4 (rg Try.f135 4) true) (.ret))))) := by kernel_rfl

set_option maxRecDepth 100000 in
set_option maxHeartbeats 8000000 in
theorem RInto_c (l : List One) (x : One) (hb : l.length ≤ 99999) : Pure Try.prog 135 [tc (slO l), TV.agg [.s (i6 x.1), .s (u8 x.2)]] (vc (slO (intoS l x))) := by
  refine Pure.of_body Try.func135 f135_body (by kernel_rfl) Try.ntmps135 (by kernel_rfl) (by kernel_rfl) ?_
  refine AMx.seq ?_
  refine AMx.region (ces := []) (ks := [0, 3]) (hs := [3]) (cs := []) (s' := AS.lst 34 [(0, vc (slO l)), (3, vp 3 0)] [(3, AObj.row [.s (i6 x.1), .s (u8 x.2)])]) (by kernel_rfl) ?_ ?_
  · exact trivial
  refine AMx.seq ?_
  refine AMx.region (ces := []) (ks := [0, 3, 5]) (hs := [3]) (cs := []) (s' := AS.lst 34 [(0, vc (slO l)), (3, vp 3 0), (5, vc (i6 0))] [(3, AObj.row [.s (i6 x.1), .s (u8 x.2)])]) (by kernel_rfl) ?_ ?_
  · exact trivial
  refine AMx.seq ?_
  refine AMx.block ?_
  refine AMx.ent (s' := AS.lst 34 [(0, vc (slO l)), (3, vp 3 0), (5, vc (i6 0))] [(3, AObj.row [.s (i6 x.1), .s (u8 x.2)])]) (ent_proj [0, 3, 5] [3]) ?_
  refine AMx.loop (fun mm ss => ∃ (k : Nat), (k ≤ l.length ∧ ∀ y ∈ List.take k l, y.1 < x.1) ∧ mm = l.length - k ∧ ss = AS.lst 34 [(0, vc (slO l)), (3, vp 3 0), (5, vc (i6 (k : Int)))] [(3, AObj.row [.s (i6 x.1), .s (u8 x.2)])]) ⟨0, ?_, rfl, ?_⟩ ?_
  · exact ⟨by omega, fun x hx => by simp at hx⟩
  · rfl
  rintro mm ss ⟨k, ⟨hI, hN⟩, rfl, rfl⟩
  refine AMx.seq ?_
  refine AMx.seq ?_
  refine AMx.region_draw (ces := []) (ros := [(11, [3])]) (ks := [0, 3, 5, 19]) (hs := [3]) (cs := [((decide ((k : Int) < (List.length l : Int))) = true) → allP [], ((decide ((k : Int) < (List.length l : Int))) = true) → allP [], ((decide ((k : Int) < (List.length l : Int))) = true) → allP [(decide ((k : Int) < (List.length l : Int))) = true, (decide ((k : Int) < (List.length l : Int))) = true, (0 : Int) ≤ (k : Int), (k : Int) < List.length l], ((decide ((k : Int) < (List.length l : Int))) = true) → allP [(decide ((k : Int) < (List.length l : Int))) = true], ((decide ((k : Int) < (List.length l : Int))) = true) → allP [(decide ((k : Int) < (List.length l : Int))) = true], ((decide ((k : Int) < (List.length l : Int))) = true) → allP [], ((decide ((k : Int) < (List.length l : Int))) = true) → allP [(decide ((k : Int) < (List.length l : Int))) = true], ((decide ((k : Int) < (List.length l : Int))) = true) → allP [(decide ((k : Int) < (List.length l : Int))) = true, (decide ((k : Int) < (List.length l : Int))) = true], (decide ((k : Int) < (List.length l : Int))) = true → allP [(decide ((k : Int) < (List.length l : Int))) = true]]) (s' := AS.lst 34 [(0, vc (slO l)), (3, vp 3 0), (5, vc (i6 (k : Int))), (19, vc (bo ((decide ((k : Int) < (List.length l : Int))) && (decide ((List.getD l k (0, 0)).1 < x.1)))))] [(3, AObj.row [.s (i6 x.1), .s (u8 x.2)])]) mixed (by kernel_rfl) ?_ ?_
  · exact ⟨(fun _ => trivial), (fun _ => trivial), (fun hp => by have hq := hp; (try simp only [decide_eq_true_eq, decide_eq_false_iff_not, Bool.and_eq_true, Bool.or_eq_true, Bool.and_eq_false_iff, Bool.or_eq_false_iff, Bool.not_eq_true', Bool.not_eq_false', Bool.not_eq_true, Bool.not_eq_false] at hq); exact ⟨hp, hp, (show (0 : Int) ≤ (k : Int) from (by omega)), (show (k : Int) < List.length l from (by omega))⟩), (fun hp => hp), (fun hp => hp), (fun _ => trivial), (fun hp => hp), (fun hp => ⟨hp, hp⟩), (fun hp2 => (by first | exact hp2 | exact ⟨hp, hp2⟩))⟩
  refine AMx.cond (b := ((decide ((k : Int) < (List.length l : Int))) && (decide ((List.getD l k (0, 0)).1 < x.1)))) (by kernel_rfl) (fun hc1 => ?_) (fun hc1 => ?_)
  · try simp only [decide_eq_true_eq, decide_eq_false_iff_not, Bool.and_eq_true, Bool.and_eq_false_iff] at hc1
    refine AMx.skip ?_
    refine AMx.block ?_
    refine AMx.region (ces := []) (ks := [0, 3, 5]) (hs := [3]) (cs := [InR .i64 ((k : Int) + 1)]) (s' := AS.lst 34 [(0, vc (slO l)), (3, vp 3 0), (5, vc (i6 ((k : Int) + 1)))] [(3, AObj.row [.s (i6 x.1), .s (u8 x.2)])]) (by kernel_rfl) ?_ ?_
    · exact (show InR .i64 ((k : Int) + 1) from (inR64 (by omega) (by omega)))
    refine AMx.blk ?_
    refine AMx.ent_inv (s' := AS.lst 34 [(0, vc (slO l)), (3, vp 3 0), (5, vc (i6 ((k : Int) + 1)))] [(3, AObj.row [.s (i6 x.1), .s (u8 x.2)])]) (ent_proj [0, 3, 5] [3]) ?_
    refine AMx.inv ⟨_, ?_, k + 1, ?_, rfl, ?_⟩
    rotate_left
    · refine ⟨by omega, fun y hy => ?_⟩; rw [Lib.take_succ (0, 0) l k (by omega)] at hy; rcases List.mem_append.1 hy with hy | hy; exact hN y hy; rw [List.mem_singleton.1 hy]; exact hc1.2
    · rfl
    · omega
  · try simp only [decide_eq_true_eq, decide_eq_false_iff_not, Bool.and_eq_true, Bool.and_eq_false_iff] at hc1
    refine AMx.exit ?_
    refine AMx.code_exit ?_
    refine AMx.inv_exit ?_
    refine AMx.blk_exit ?_
    refine AMx.seq ?_
    refine AMx.region_draw (ces := [(0, CE.obj (AObj.grow 52 2 One (0, 0) rowO [])), (4, CE.obj (AObj.grow 52 2 One (0, 0) rowO ([] ++ (List.take k l)))), (6, CE.obj (AObj.grow 52 2 One (0, 0) rowO [x])), (7, CE.obj (AObj.grow 52 2 One (0, 0) rowO (([] ++ (List.take k l)) ++ [x]))), (11, CE.obj (AObj.grow 52 2 One (0, 0) rowO ((([] ++ (List.take k l)) ++ [x]) ++ (List.drop k l))))]) (ros := [(4, [22]), (5, [3]), (7, [26, 28]), (11, [29])]) (ks := [4]) (hs := [33]) (cs := [flat 2 rowO [] = [], List.length ([] : List One) = 0, 0 ≤ (k : Int), (k : Int) ≤ List.length l, AppC (flat 2 rowO (List.take k l)) (List.length (List.take k l : List One)) 16 (AObj.grow 52 2 One (0, 0) rowO []) (AObj.grow 52 2 One (0, 0) rowO ([] ++ (List.take k l))), flat 2 rowO [x] = [.s (i6 x.1), .s (u8 x.2)], List.length ([x] : List One) = 1, AppC (flat 2 rowO [x]) (List.length ([x] : List One)) 16 (AObj.grow 52 2 One (0, 0) rowO ([] ++ (List.take k l))) (AObj.grow 52 2 One (0, 0) rowO (([] ++ (List.take k l)) ++ [x])), 0 ≤ (k : Int), (k : Int) ≤ List.length l, AppC (flat 2 rowO (List.drop k l)) (List.length (List.drop k l : List One)) 16 (AObj.grow 52 2 One (0, 0) rowO (([] ++ (List.take k l)) ++ [x])) (AObj.grow 52 2 One (0, 0) rowO ((([] ++ (List.take k l)) ++ [x]) ++ (List.drop k l)))]) (s' := AS.lst 34 [(4, vo 33)] [(33, AObj.grow 52 2 One (0, 0) rowO ((([] ++ (List.take k l)) ++ [x]) ++ (List.drop k l)))]) mixed (by kernel_rfl) ?_ ?_
    · exact ⟨rfl, rfl, (show 0 ≤ (k : Int) from (by omega)), (show (k : Int) ≤ List.length l from (by omega)), (⟨_, rfl, rfl, rfl, by simp only [List.length_append, List.length_take, List.length_drop, List.length_cons, List.length_nil]; omega, by simp only [maxLen, List.length_append, List.length_take, List.length_drop, List.length_cons, List.length_nil]; omega⟩), rfl, rfl, (⟨_, rfl, rfl, rfl, by simp only [List.length_append, List.length_take, List.length_drop, List.length_cons, List.length_nil]; omega, by simp only [maxLen, List.length_append, List.length_take, List.length_drop, List.length_cons, List.length_nil]; omega⟩), (show 0 ≤ (k : Int) from (by omega)), (show (k : Int) ≤ List.length l from (by omega)), (⟨_, rfl, rfl, rfl, by simp only [List.length_append, List.length_take, List.length_drop, List.length_cons, List.length_nil]; omega, by simp only [maxLen, List.length_append, List.length_take, List.length_drop, List.length_cons, List.length_nil]; omega⟩)⟩
    refine AMx.ent (s' := AS.lst 34 [(4, vc (slO ((([] ++ (List.take k l)) ++ [x]) ++ (List.drop k l))))] []) (ent_freeze (id := 33) (T := 52) (by kernel_rfl)) ?_
    refine AMx.ret ?_
    exact RetP.mk (r := vc (slO ((([] ++ (List.take k l)) ++ [x]) ++ (List.drop k l)))) (by kernel_rfl) (by rw [← into_cut l x k (by omega) hN (fun hk => by omega)]; rfl)

theorem f40_body : Try.f40.body = some (.seq (.region 0 (rg Try.f40 0) false) (.seq (.block 0 (.seq (.region 1 (rg Try.f40 1) false) (.cond (.tmp 10) (.seq (.region 2 (rg Try.f40 2) false) (.ret)) (.seq (.region 3 (rg Try.f40 3) false) (.cond (.tmp 22) (.seq (.region 4 (rg Try.f40 4) false) (.ret)) (.skip)))))) (.seq (.region 5 (rg Try.f40 5) false) (.seq (.seq (.region 6 (rg Try.f40 6) false) (.cond (.tmp 44) (.seq (.region 7 (rg Try.f40 7) false) (.ret)) (.skip))) (.seq (.region 8 (rg Try.f40 8) false) (.seq (.region 9 (rg Try.f40 9) false) (.ret))))))) := by kernel_rfl

set_option maxRecDepth 100000 in
set_option maxHeartbeats 8000000 in
theorem Ask_c (g : Gt) (w m : Int) (hg : Wf g) (hb : g.1.length + g.2.length ≤ 90000) : Pure Try.prog 40 [TV.agg [.s (slO g.1), .s (slO g.2)], tc (i6 w), tc (u8 m)] (AV.tup [TV.agg [.s (slO (((askS g w m).1).1)), .s (slO (((askS g w m).1).2))], tc (bo ((askS g w m).2.1)), tc (i6 ((askS g w m).2.2))]) := by
  refine Pure.of_body Try.func40 f40_body (by kernel_rfl) Try.ntmps40 (by kernel_rfl) (by kernel_rfl) ?_
  refine AMx.seq ?_
  refine AMx.region (ces := []) (ks := [1, 2, 3, 6]) (hs := [3, 6]) (cs := []) (s' := AS.lst 56 [(1, vc (i6 w)), (2, vc (u8 m)), (3, vp 3 0), (6, vp 6 0)] [(3, AObj.row [.s (slO g.1), .s (slO g.2)]), (6, AObj.row [.s (SC.nilsl), .s (SC.nilsl)])]) (by kernel_rfl) ?_ ?_
  · exact trivial
  refine AMx.seq ?_
  refine AMx.block ?_
  refine AMx.seq ?_
  refine AMx.region (ces := []) (ks := [1, 2, 3, 6, 10]) (hs := [3, 6]) (cs := [((decide (w < 0)) = false) → allP [], ((decide (w < 0)) = false) → allP [(decide (w < 0)) = false], ((decide (w < 0)) = false) → allP [(decide (w < 0)) = false], (((decide (w < 0)) = false) ∧ (!decide (m = 1)) = true) → allP [], (((decide (w < 0)) = false) ∧ (!decide (m = 1)) = true) → allP [((decide (w < 0)) = false) ∧ (!decide (m = 1)) = true], ((decide (w < 0)) = false) → allP [(decide (w < 0)) = false, (!decide (m = 1)) = true → allP [((decide (w < 0)) = false) ∧ (!decide (m = 1)) = true]], (decide (w < 0)) = false → allP [(decide (w < 0)) = false]]) (s' := AS.lst 56 [(1, vc (i6 w)), (2, vc (u8 m)), (3, vp 3 0), (6, vp 6 0), (10, vc (bo ((decide (w < 0)) || ((!decide (m = 1)) && (!decide (m = 2))))))] [(3, AObj.row [.s (slO g.1), .s (slO g.2)]), (6, AObj.row [.s (SC.nilsl), .s (SC.nilsl)])]) (by kernel_rfl) ?_ ?_
  · exact ⟨(fun _ => trivial), (fun hp => hp), (fun hp => hp), (fun _ => trivial), (fun hp => hp), (fun hp => by have hq := hp; (try simp only [decide_eq_true_eq, decide_eq_false_iff_not, Bool.and_eq_true, Bool.or_eq_true, Bool.and_eq_false_iff, Bool.or_eq_false_iff, Bool.not_eq_true', Bool.not_eq_false', Bool.not_eq_true, Bool.not_eq_false] at hq); exact ⟨hp, (fun hp2 => (by first | exact hp2 | exact ⟨hp, hp2⟩))⟩), (fun hp2 => (by first | exact hp2 | exact ⟨hp, hp2⟩))⟩
  refine AMx.cond (b := ((decide (w < 0)) || ((!decide (m = 1)) && (!decide (m = 2))))) (by kernel_rfl) (fun hc1 => ?_) (fun hc1 => ?_)
  · try simp only [decide_eq_true_eq, decide_eq_false_iff_not, Bool.and_eq_true, Bool.and_eq_false_iff, Bool.or_eq_true, Bool.or_eq_false_iff, Bool.not_eq_true', Bool.not_eq_false'] at hc1
    refine AMx.seq ?_
    refine AMx.region (ces := []) (ks := [6, 7, 8]) (hs := [6]) (cs := []) (s' := AS.lst 56 [(6, vp 6 0), (7, vc (bo false)), (8, vc (i6 2))] [(6, AObj.row [.s (slO g.1), .s (slO g.2)])]) (by kernel_rfl) ?_ ?_
    · exact trivial
    refine AMx.ret ?_
    exact RetP.mk (r := AV.tup [TV.agg [.s (slO g.1), .s (slO g.2)], tc (bo false), tc (i6 2)]) (by kernel_rfl) (by rw [ask_arg (by omega)])
  · try simp only [decide_eq_true_eq, decide_eq_false_iff_not, Bool.and_eq_true, Bool.and_eq_false_iff, Bool.or_eq_true, Bool.or_eq_false_iff, Bool.not_eq_true', Bool.not_eq_false'] at hc1
    refine AMx.seq ?_
    refine AMx.region (ces := [(2, CE.call [] [] (vc (u8 (modeS g.1 w))) []), (7, CE.call [] [] (vc (bo (decide (0 ≤ findS g.2 w)))) [])]) (ks := [1, 2, 3, 6, 22]) (hs := [3, 6]) (cs := [Spec Try.prog 38 [TV.agg [.s (slO g.1), .s (slO g.2)], tc (i6 w)] (ofH []) (vc (u8 (modeS g.1 w))) (ofH []), ((!decide (modeS g.1 w = 0)) = false) → allP [], ((!decide (modeS g.1 w = 0)) = false) → allP [], ((!decide (modeS g.1 w = 0)) = false) → allP [(!decide (modeS g.1 w = 0)) = false, (!decide (modeS g.1 w = 0)) = false, Spec Try.prog 39 [TV.agg [.s (slO g.1), .s (slO g.2)], tc (i6 w)] (ofH []) (vc (bo (decide (0 ≤ findS g.2 w)))) (ofH [])], (!decide (modeS g.1 w = 0)) = false → allP [(!decide (modeS g.1 w = 0)) = false]]) (s' := AS.lst 56 [(1, vc (i6 w)), (2, vc (u8 m)), (3, vp 3 0), (6, vp 6 0), (22, vc (bo ((!decide (modeS g.1 w = 0)) || (decide (0 ≤ findS g.2 w)))))] [(3, AObj.row [.s (slO g.1), .s (slO g.2)]), (6, AObj.row [.s (SC.nilsl), .s (SC.nilsl)])]) (by kernel_rfl) ?_ ?_
    · exact ⟨(Holds_c g w), (fun _ => trivial), (fun _ => trivial), (fun hp => by have hq := hp; (try simp only [decide_eq_true_eq, decide_eq_false_iff_not, Bool.and_eq_true, Bool.or_eq_true, Bool.and_eq_false_iff, Bool.or_eq_false_iff, Bool.not_eq_true', Bool.not_eq_false', Bool.not_eq_true, Bool.not_eq_false] at hq); exact ⟨hp, hp, (Waits_c g w)⟩), (fun hp2 => (by first | exact hp2 | exact ⟨hp, hp2⟩))⟩
    refine AMx.cond (b := ((!decide (modeS g.1 w = 0)) || (decide (0 ≤ findS g.2 w)))) (by kernel_rfl) (fun hc2 => ?_) (fun hc2 => ?_)
    · try simp only [decide_eq_true_eq, decide_eq_false_iff_not, Bool.or_eq_true, Bool.or_eq_false_iff, Bool.not_eq_true', Bool.not_eq_false'] at hc2
      refine AMx.seq ?_
      refine AMx.region (ces := []) (ks := [6, 7, 8]) (hs := [6]) (cs := []) (s' := AS.lst 56 [(6, vp 6 0), (7, vc (bo false)), (8, vc (i6 9))] [(6, AObj.row [.s (slO g.1), .s (slO g.2)])]) (by kernel_rfl) ?_ ?_
      · exact trivial
      refine AMx.ret ?_
      exact RetP.mk (r := AV.tup [TV.agg [.s (slO g.1), .s (slO g.2)], tc (bo false), tc (i6 9)]) (by kernel_rfl) (by have hm := mode_ne hg (w := w); rw [ask_state (by omega) (by omega)])
    · try simp only [decide_eq_true_eq, decide_eq_false_iff_not, Bool.or_eq_true, Bool.or_eq_false_iff, Bool.not_eq_true', Bool.not_eq_false'] at hc2
      refine AMx.skip ?_
      refine AMx.blk ?_
      refine AMx.seq ?_
      refine AMx.region (ces := []) (ks := [2, 3, 6, 9]) (hs := [3, 6, 9]) (cs := []) (s' := AS.lst 56 [(2, vc (u8 m)), (3, vp 3 0), (6, vp 6 0), (9, vp 9 0)] [(3, AObj.row [.s (slO g.1), .s (slO g.2)]), (6, AObj.row [.s (SC.nilsl), .s (SC.nilsl)]), (9, AObj.row [.s (i6 w), .s (u8 m)])]) (by kernel_rfl) ?_ ?_
      · exact trivial
      refine AMx.seq ?_
      refine AMx.seq ?_
      refine AMx.region (ces := [(7, CE.call [] [] (vc (bo (openS g.1 m))) [])]) (ks := [3, 6, 9, 44]) (hs := [3, 6, 9]) (cs := [((decide ((List.length g.2 : Int) = 0)) = true) → allP [], ((decide ((List.length g.2 : Int) = 0)) = true) → allP [], ((decide ((List.length g.2 : Int) = 0)) = true) → allP [(decide ((List.length g.2 : Int) = 0)) = true, (decide ((List.length g.2 : Int) = 0)) = true, Spec Try.prog 93 [TV.agg [.s (slO g.1), .s (slO g.2)], tc (u8 m)] (ofH []) (vc (bo (openS g.1 m))) (ofH [])], (decide ((List.length g.2 : Int) = 0)) = true → allP [(decide ((List.length g.2 : Int) = 0)) = true]]) (s' := AS.lst 56 [(3, vp 3 0), (6, vp 6 0), (9, vp 9 0), (44, vc (bo ((decide ((List.length g.2 : Int) = 0)) && (openS g.1 m))))] [(3, AObj.row [.s (slO g.1), .s (slO g.2)]), (6, AObj.row [.s (SC.nilsl), .s (SC.nilsl)]), (9, AObj.row [.s (i6 w), .s (u8 m)])]) (by kernel_rfl) ?_ ?_
      · exact ⟨(fun _ => trivial), (fun _ => trivial), (fun hp => by have hq := hp; (try simp only [decide_eq_true_eq, decide_eq_false_iff_not, Bool.and_eq_true, Bool.or_eq_true, Bool.and_eq_false_iff, Bool.or_eq_false_iff, Bool.not_eq_true', Bool.not_eq_false', Bool.not_eq_true, Bool.not_eq_false] at hq); exact ⟨hp, hp, (open_c g m)⟩), (fun hp2 => (by first | exact hp2 | exact ⟨hp, hp2⟩))⟩
      refine AMx.cond (b := ((decide ((List.length g.2 : Int) = 0)) && (openS g.1 m))) (by kernel_rfl) (fun hc3 => ?_) (fun hc3 => ?_)
      · try simp only [decide_eq_true_eq, decide_eq_false_iff_not, Bool.and_eq_true, Bool.and_eq_false_iff] at hc3
        refine AMx.seq ?_
        refine AMx.region (ces := [(2, CE.call [] [] (AV.t (TV.agg [.s (slO (((intoS g.1 (w, m), g.2) : Gt).1)), .s (slO (((intoS g.1 (w, m), g.2) : Gt).2))])) [])]) (ks := [6, 7, 8]) (hs := [6]) (cs := [Spec Try.prog 94 [TV.agg [.s (slO g.1), .s (slO g.2)], TV.agg [.s (i6 w), .s (u8 m)]] (ofH []) (AV.t (TV.agg [.s (slO (((intoS g.1 (w, m), g.2) : Gt).1)), .s (slO (((intoS g.1 (w, m), g.2) : Gt).2))])) (ofH [])]) (s' := AS.lst 56 [(6, vp 6 0), (7, vc (bo true)), (8, vc (i6 0))] [(6, AObj.row [.s (slO (((intoS g.1 (w, m), g.2) : Gt).1)), .s (slO (((intoS g.1 (w, m), g.2) : Gt).2))])]) (by kernel_rfl) ?_ ?_
        · exact (in_c g (w, m) (by first | assumption | exact hg.up | exact hw.up) (by first | assumption | exact Wf.pos hg | exact fun y hy => Wf.pos hw y hy) (by first | omega | exact wf_head hw (by omega)) (by first | omega | (show List.length _ ≤ _; omega) | (simp only []; omega)))
        refine AMx.ret ?_
        exact RetP.mk (r := AV.tup [TV.agg [.s (slO (((intoS g.1 (w, m), g.2) : Gt).1)), .s (slO (((intoS g.1 (w, m), g.2) : Gt).2))], tc (bo true), tc (i6 0)]) (by kernel_rfl) (by have h0 : g.2 = [] := List.eq_nil_of_length_eq_zero (by omega); rw [ask_in (by omega) (by have hm := mode_ne hg (w := w); omega) h0 (by simp_all)]; try simp only [h0])
      · try simp only [decide_eq_true_eq, decide_eq_false_iff_not, Bool.and_eq_true, Bool.and_eq_false_iff] at hc3
        refine AMx.skip ?_
        refine AMx.seq ?_
        refine AMx.region (ces := [(3, CE.shr (some (AObj.grow 166 2 One (0, 0) rowO [(w, m)]))), (4, CE.obj (AObj.grow 42 1 (List One) [] rowL [g.2, [(w, m)]])), (5, CE.call [52] [] (vc (slO (([g.2, [(w, m)]]).flatten))) [])]) (ks := [3, 6]) (hs := [3, 6]) (cs := [flat 2 rowO [(w, m)] = [.s (i6 w), .s (u8 m)], List.length ([(w, m)] : List One) = 1, flat 1 rowL [g.2, [(w, m)]] = [.s (slO g.2), .s (slO [(w, m)])], List.length ([g.2, [(w, m)]] : List (List One)) = 2, Spec Try.prog 95 [tc (slL [g.2, [(w, m)]])] (ofH []) (vc (slO (([g.2, [(w, m)]]).flatten))) (ofH [])]) (s' := AS.lst 56 [(3, vp 3 0), (6, vp 6 0)] [(3, AObj.row [.s (slO g.1), .s (slO (([g.2, [(w, m)]]).flatten))]), (6, AObj.row [.s (SC.nilsl), .s (SC.nilsl)])]) (by kernel_rfl) ?_ ?_
        · exact ⟨rfl, rfl, rfl, rfl, (Concat_c [g.2, [(w, m)]] (by simp only [List.flatten_cons, List.flatten_nil, List.length_append, List.length_cons, List.length_nil, List.length_take, List.length_drop]; omega))⟩
        refine AMx.seq ?_
        refine AMx.region (ces := []) (ks := [6, 7, 8]) (hs := [6]) (cs := []) (s' := AS.lst 56 [(6, vp 6 0), (7, vc (bo false)), (8, vc (i6 0))] [(6, AObj.row [.s (slO g.1), .s (slO (([g.2, [(w, m)]]).flatten))])]) (by kernel_rfl) ?_ ?_
        · exact trivial
        refine AMx.ret ?_
        exact RetP.mk (r := AV.tup [TV.agg [.s (slO g.1), .s (slO (([g.2, [(w, m)]]).flatten))], tc (bo false), tc (i6 0)]) (by kernel_rfl) (by rw [ask_row (by omega) (by have hm := mode_ne hg (w := w); omega) (fun h => by rcases hc3 with q | q; exact q (by rw [h.1]; rfl); rw [q] at h; cases h.2)]; simp)

theorem f91_body : Try.f91.body = some (.seq (.region 0 (rg Try.f91 0) false) (.seq (.seq (.region 1 (rg Try.f91 1) false) (.cond (.tmp 18) (.seq (.region 2 (rg Try.f91 2) false) (.ret)) (.skip))) (.seq (.seq (.region 3 (rg Try.f91 3) false) (.cond (.tmp 31) (.seq (.region 4 (rg Try.f91 4) false) (.ret)) (.skip))) (.seq (.seq (.region 5 (rg Try.f91 5) false) (.cond (.tmp 42) (.seq (.region 6 (rg Try.f91 6) false) (.ret)) (.skip))) (.seq (.region 7 (rg Try.f91 7) true) (.ret)))))) := by kernel_rfl

set_option maxRecDepth 100000 in
set_option maxHeartbeats 8000000 in
theorem RAsk_c (g : Gt) (w m : Int) (hg : Wf g) (hb : g.1.length + g.2.length ≤ 90000) : Pure Try.prog 91 [TV.agg [.s (slO g.1), .s (slO g.2)], tc (i6 w), tc (u8 m)] (AV.tup [TV.agg [.s (slO (((askS g w m).1).1)), .s (slO (((askS g w m).1).2))], tc (bo ((askS g w m).2.1)), tc (i6 ((askS g w m).2.2))]) := by
  refine Pure.of_body Try.func91 f91_body (by kernel_rfl) Try.ntmps91 (by kernel_rfl) (by kernel_rfl) ?_
  refine AMx.seq ?_
  refine AMx.region (ces := []) (ks := [1, 2, 3, 6]) (hs := [3, 6]) (cs := []) (s' := AS.lst 62 [(1, vc (i6 w)), (2, vc (u8 m)), (3, vp 3 0), (6, vp 6 0)] [(3, AObj.row [.s (slO g.1), .s (slO g.2)]), (6, AObj.row [.s (SC.nilsl), .s (SC.nilsl)])]) (by kernel_rfl) ?_ ?_
  · exact trivial
  refine AMx.seq ?_
  refine AMx.seq ?_
  refine AMx.region (ces := []) (ks := [1, 2, 3, 6, 18]) (hs := [3, 6]) (cs := [((decide (w < 0)) = false) → allP [], ((decide (w < 0)) = false) → allP [(decide (w < 0)) = false], ((decide (w < 0)) = false) → allP [(decide (w < 0)) = false], (((decide (w < 0)) = false) ∧ (!decide (m = 1)) = true) → allP [], (((decide (w < 0)) = false) ∧ (!decide (m = 1)) = true) → allP [((decide (w < 0)) = false) ∧ (!decide (m = 1)) = true], ((decide (w < 0)) = false) → allP [(decide (w < 0)) = false, (!decide (m = 1)) = true → allP [((decide (w < 0)) = false) ∧ (!decide (m = 1)) = true]], (decide (w < 0)) = false → allP [(decide (w < 0)) = false]]) (s' := AS.lst 62 [(1, vc (i6 w)), (2, vc (u8 m)), (3, vp 3 0), (6, vp 6 0), (18, vc (bo ((decide (w < 0)) || ((!decide (m = 1)) && (!decide (m = 2))))))] [(3, AObj.row [.s (slO g.1), .s (slO g.2)]), (6, AObj.row [.s (SC.nilsl), .s (SC.nilsl)])]) (by kernel_rfl) ?_ ?_
  · exact ⟨(fun _ => trivial), (fun hp => hp), (fun hp => hp), (fun _ => trivial), (fun hp => hp), (fun hp => by have hq := hp; (try simp only [decide_eq_true_eq, decide_eq_false_iff_not, Bool.and_eq_true, Bool.or_eq_true, Bool.and_eq_false_iff, Bool.or_eq_false_iff, Bool.not_eq_true', Bool.not_eq_false', Bool.not_eq_true, Bool.not_eq_false] at hq); exact ⟨hp, (fun hp2 => (by first | exact hp2 | exact ⟨hp, hp2⟩))⟩), (fun hp2 => (by first | exact hp2 | exact ⟨hp, hp2⟩))⟩
  refine AMx.cond (b := ((decide (w < 0)) || ((!decide (m = 1)) && (!decide (m = 2))))) (by kernel_rfl) (fun hc1 => ?_) (fun hc1 => ?_)
  · try simp only [decide_eq_true_eq, decide_eq_false_iff_not, Bool.and_eq_true, Bool.and_eq_false_iff, Bool.or_eq_true, Bool.or_eq_false_iff, Bool.not_eq_true', Bool.not_eq_false'] at hc1
    refine AMx.seq ?_
    refine AMx.region (ces := []) (ks := [6, 7, 8]) (hs := [6]) (cs := []) (s' := AS.lst 62 [(6, vp 6 0), (7, vc (bo false)), (8, vc (i6 2))] [(6, AObj.row [.s (slO g.1), .s (slO g.2)])]) (by kernel_rfl) ?_ ?_
    · exact trivial
    refine AMx.ret ?_
    exact RetP.mk (r := AV.tup [TV.agg [.s (slO g.1), .s (slO g.2)], tc (bo false), tc (i6 2)]) (by kernel_rfl) (by rw [ask_arg (by omega)])
  · try simp only [decide_eq_true_eq, decide_eq_false_iff_not, Bool.and_eq_true, Bool.and_eq_false_iff, Bool.or_eq_true, Bool.or_eq_false_iff, Bool.not_eq_true', Bool.not_eq_false'] at hc1
    refine AMx.skip ?_
    refine AMx.seq ?_
    refine AMx.seq ?_
    refine AMx.region (ces := [(3, CE.call [] [] (vc (i6 (findS g.1 w))) []), (9, CE.call [] [] (vc (i6 (findS g.2 w))) [])]) (ks := [1, 2, 3, 6, 31]) (hs := [3, 6]) (cs := [Spec Try.prog 37 [tc (slO g.1), tc (i6 w)] (ofH []) (vc (i6 (findS g.1 w))) (ofH []), ((decide (0 ≤ findS g.1 w)) = false) → allP [], ((decide (0 ≤ findS g.1 w)) = false) → allP [(decide (0 ≤ findS g.1 w)) = false], ((decide (0 ≤ findS g.1 w)) = false) → allP [], ((decide (0 ≤ findS g.1 w)) = false) → allP [(decide (0 ≤ findS g.1 w)) = false, (decide (0 ≤ findS g.1 w)) = false, Spec Try.prog 37 [tc (slO g.2), tc (i6 w)] (ofH []) (vc (i6 (findS g.2 w))) (ofH [])], ((decide (0 ≤ findS g.1 w)) = false) → allP [(decide (0 ≤ findS g.1 w)) = false], (decide (0 ≤ findS g.1 w)) = false → allP [(decide (0 ≤ findS g.1 w)) = false]]) (s' := AS.lst 62 [(1, vc (i6 w)), (2, vc (u8 m)), (3, vp 3 0), (6, vp 6 0), (31, vc (bo ((decide (0 ≤ findS g.1 w)) || (decide (0 ≤ findS g.2 w)))))] [(3, AObj.row [.s (slO g.1), .s (slO g.2)]), (6, AObj.row [.s (SC.nilsl), .s (SC.nilsl)])]) (by kernel_rfl) ?_ ?_
    · exact ⟨(RFind_c g.1 w), (fun _ => trivial), (fun hp => hp), (fun _ => trivial), (fun hp => by have hq := hp; (try simp only [decide_eq_true_eq, decide_eq_false_iff_not, Bool.and_eq_true, Bool.or_eq_true, Bool.and_eq_false_iff, Bool.or_eq_false_iff, Bool.not_eq_true', Bool.not_eq_false', Bool.not_eq_true, Bool.not_eq_false] at hq); exact ⟨hp, hp, (RFind_c g.2 w)⟩), (fun hp => hp), (fun hp2 => (by first | exact hp2 | exact ⟨hp, hp2⟩))⟩
    refine AMx.cond (b := ((decide (0 ≤ findS g.1 w)) || (decide (0 ≤ findS g.2 w)))) (by kernel_rfl) (fun hc2 => ?_) (fun hc2 => ?_)
    · try simp only [decide_eq_true_eq, decide_eq_false_iff_not, Bool.or_eq_true, Bool.or_eq_false_iff] at hc2
      refine AMx.seq ?_
      refine AMx.region (ces := []) (ks := [6, 7, 8]) (hs := [6]) (cs := []) (s' := AS.lst 62 [(6, vp 6 0), (7, vc (bo false)), (8, vc (i6 9))] [(6, AObj.row [.s (slO g.1), .s (slO g.2)])]) (by kernel_rfl) ?_ ?_
      · exact trivial
      refine AMx.ret ?_
      exact RetP.mk (r := AV.tup [TV.agg [.s (slO g.1), .s (slO g.2)], tc (bo false), tc (i6 9)]) (by kernel_rfl) (by have hm := mode_ne hg (w := w); rw [ask_state (by omega) (by omega)])
    · try simp only [decide_eq_true_eq, decide_eq_false_iff_not, Bool.or_eq_true, Bool.or_eq_false_iff] at hc2
      refine AMx.skip ?_
      refine AMx.seq ?_
      refine AMx.seq ?_
      refine AMx.region (ces := [(8, CE.call [] [] (vc (bo (openS g.1 m))) [])]) (ks := [1, 2, 3, 6, 42]) (hs := [3, 6]) (cs := [((decide ((List.length g.2 : Int) = 0)) = true) → allP [], ((decide ((List.length g.2 : Int) = 0)) = true) → allP [(decide ((List.length g.2 : Int) = 0)) = true], ((decide ((List.length g.2 : Int) = 0)) = true) → allP [], ((decide ((List.length g.2 : Int) = 0)) = true) → allP [(decide ((List.length g.2 : Int) = 0)) = true, (decide ((List.length g.2 : Int) = 0)) = true, Spec Try.prog 134 [tc (slO g.1), tc (u8 m)] (ofH []) (vc (bo (openS g.1 m))) (ofH [])], (decide ((List.length g.2 : Int) = 0)) = true → allP [(decide ((List.length g.2 : Int) = 0)) = true]]) (s' := AS.lst 62 [(1, vc (i6 w)), (2, vc (u8 m)), (3, vp 3 0), (6, vp 6 0), (42, vc (bo ((decide ((List.length g.2 : Int) = 0)) && (openS g.1 m))))] [(3, AObj.row [.s (slO g.1), .s (slO g.2)]), (6, AObj.row [.s (SC.nilsl), .s (SC.nilsl)])]) (by kernel_rfl) ?_ ?_
      · exact ⟨(fun _ => trivial), (fun hp => hp), (fun _ => trivial), (fun hp => by have hq := hp; (try simp only [decide_eq_true_eq, decide_eq_false_iff_not, Bool.and_eq_true, Bool.or_eq_true, Bool.and_eq_false_iff, Bool.or_eq_false_iff, Bool.not_eq_true', Bool.not_eq_false', Bool.not_eq_true, Bool.not_eq_false] at hq); exact ⟨hp, hp, (RMay_c g.1 m)⟩), (fun hp2 => (by first | exact hp2 | exact ⟨hp, hp2⟩))⟩
      refine AMx.cond (b := ((decide ((List.length g.2 : Int) = 0)) && (openS g.1 m))) (by kernel_rfl) (fun hc3 => ?_) (fun hc3 => ?_)
      · try simp only [decide_eq_true_eq, decide_eq_false_iff_not, Bool.and_eq_true, Bool.and_eq_false_iff] at hc3
        refine AMx.seq ?_
        refine AMx.region (ces := [(5, CE.call [] [] (vc (slO (intoS g.1 (w, m)))) [])]) (ks := [6, 7, 8]) (hs := [6]) (cs := [Spec Try.prog 135 [tc (slO g.1), TV.agg [.s (i6 w), .s (u8 m)]] (ofH []) (vc (slO (intoS g.1 (w, m)))) (ofH [])]) (s' := AS.lst 62 [(6, vp 6 0), (7, vc (bo true)), (8, vc (i6 0))] [(6, AObj.row [.s (slO (intoS g.1 (w, m))), .s (SC.nilsl)])]) (by kernel_rfl) ?_ ?_
        · exact (RInto_c g.1 (w, m) (by omega))
        refine AMx.ent (ent_row 6 (l := [.s (slO (intoS g.1 (w, m))), .s (SC.nilsl)]) (m := [.s (slO (intoS g.1 (w, m))), .s (slO [])]) (by kernel_rfl) ⟨AC.le_rfl, AC.le_nil, trivial⟩) ?_
        refine AMx.ret ?_
        exact RetP.mk (r := AV.tup [TV.agg [.s (slO (intoS g.1 (w, m))), .s (slO [])], tc (bo true), tc (i6 0)]) (by kernel_rfl) (by have h0 : g.2 = [] := List.eq_nil_of_length_eq_zero (by omega); rw [ask_in (by omega) (by have hm := mode_ne hg (w := w); omega) h0 (by simp_all)]; try simp only [h0])
      · try simp only [decide_eq_true_eq, decide_eq_false_iff_not, Bool.and_eq_true, Bool.and_eq_false_iff] at hc3
        refine AMx.skip ?_
        refine AMx.seq ?_
        refine AMx.region_draw (ces := [(2, CE.obj (AObj.grow 52 2 One (0, 0) rowO [])), (5, CE.obj (AObj.grow 52 2 One (0, 0) rowO ([] ++ g.2))), (9, CE.obj (AObj.grow 52 2 One (0, 0) rowO [(w, m)])), (10, CE.obj (AObj.grow 52 2 One (0, 0) rowO (([] ++ g.2) ++ [(w, m)])))]) (ros := [(1, [3]), (4, [3]), (5, [52]), (10, [55, 59]), (12, [6])]) (ks := [6, 7, 8]) (hs := [6, 60]) (cs := [flat 2 rowO [] = [], List.length ([] : List One) = 0, AppC (flat 2 rowO g.2) (List.length g.2) 16 (AObj.grow 52 2 One (0, 0) rowO []) (AObj.grow 52 2 One (0, 0) rowO ([] ++ g.2)), flat 2 rowO [(w, m)] = [.s (i6 w), .s (u8 m)], List.length ([(w, m)] : List One) = 1, AppC (flat 2 rowO [(w, m)]) (List.length ([(w, m)] : List One)) 16 (AObj.grow 52 2 One (0, 0) rowO ([] ++ g.2)) (AObj.grow 52 2 One (0, 0) rowO (([] ++ g.2) ++ [(w, m)]))]) (s' := AS.lst 62 [(6, vp 6 0), (7, vc (bo false)), (8, vc (i6 0))] [(6, AObj.row [.s (slO g.1), .own 60]), (60, AObj.grow 52 2 One (0, 0) rowO (([] ++ g.2) ++ [(w, m)]))]) mixed (by kernel_rfl) ?_ ?_
        · exact ⟨rfl, rfl, (⟨_, rfl, rfl, rfl, by simp only [List.length_append, List.length_take, List.length_drop, List.length_cons, List.length_nil]; omega, by simp only [maxLen, List.length_append, List.length_take, List.length_drop, List.length_cons, List.length_nil]; omega⟩), rfl, rfl, (⟨_, rfl, rfl, rfl, by simp only [List.length_append, List.length_take, List.length_drop, List.length_cons, List.length_nil]; omega, by simp only [maxLen, List.length_append, List.length_take, List.length_drop, List.length_cons, List.length_nil]; omega⟩)⟩
        refine AMx.ent (s' := AS.lst 62 [(6, vp 6 0), (7, vc (bo false)), (8, vc (i6 0))] [(6, AObj.row [.s (slO g.1), .s (slO (([] ++ g.2) ++ [(w, m)]))])]) (ent_freeze (id := 60) (T := 52) (by kernel_rfl)) ?_
        refine AMx.ret ?_
        exact RetP.mk (r := AV.tup [TV.agg [.s (slO g.1), .s (slO (([] ++ g.2) ++ [(w, m)]))], tc (bo false), tc (i6 0)]) (by kernel_rfl) (by rw [ask_row (by omega) (by have hm := mode_ne hg (w := w); omega) (fun h => by rcases hc3 with q | q; exact q (by rw [h.1]; rfl); rw [q] at h; cases h.2)]; simp)

theorem f41_body : Try.f41.body = some (.seq (.region 0 (rg Try.f41 0) false) (.seq (.block 0 (.seq (.region 1 (rg Try.f41 1) false) (.cond (.tmp 9) (.seq (.region 2 (rg Try.f41 2) false) (.ret)) (.seq (.region 3 (rg Try.f41 3) false) (.cond (.tmp 13) (.seq (.region 4 (rg Try.f41 4) false) (.ret)) (.skip)))))) (.seq (.region 5 (rg Try.f41 5) true) (.seq (.region 6 (rg Try.f41 6) false) (.seq (.block 1 (.loop (.seq (.seq (.region 7 (rg Try.f41 7) true) (.cond (.tmp 47) (.skip) (.exit 1))) (.block 2 (.seq (.region 8 (rg Try.f41 8) false) (.seq (.region 9 (rg Try.f41 9) false) (.seq (.region 10 (rg Try.f41 10) false) (.region 11 (rg Try.f41 11) false)))))))) (.seq (.region 12 (rg Try.f41 12) false) (.ret))))))) := by kernel_rfl

set_option maxRecDepth 100000 in
set_option maxHeartbeats 8000000 in
theorem Leave_c (g : Gt) (w : Int) (hg : Wf g) (hb : g.1.length + g.2.length ≤ 90000) : Pure Try.prog 41 [TV.agg [.s (slO g.1), .s (slO g.2)], tc (i6 w)] (AV.tup [TV.agg [.s (slO (((leaveS g w).1).1)), .s (slO (((leaveS g w).1).2))], tc (slI ((leaveS g w).2.1)), tc (i6 ((leaveS g w).2.2))]) := by
  refine Pure.of_body Try.func41 f41_body (by kernel_rfl) Try.ntmps41 (by kernel_rfl) (by kernel_rfl) ?_
  refine AMx.seq ?_
  refine AMx.region (ces := []) (ks := [1, 2, 4]) (hs := [2, 4]) (cs := []) (s' := AS.lst 66 [(1, vc (i6 w)), (2, vp 2 0), (4, vp 4 0)] [(2, AObj.row [.s (slO g.1), .s (slO g.2)]), (4, AObj.row [.s (SC.nilsl), .s (SC.nilsl)])]) (by kernel_rfl) ?_ ?_
  · exact trivial
  refine AMx.seq ?_
  refine AMx.block ?_
  refine AMx.seq ?_
  refine AMx.region (ces := []) (ks := [1, 2, 4, 9]) (hs := [2, 4]) (cs := []) (s' := AS.lst 66 [(1, vc (i6 w)), (2, vp 2 0), (4, vp 4 0), (9, vc (bo (decide (w < 0))))] [(2, AObj.row [.s (slO g.1), .s (slO g.2)]), (4, AObj.row [.s (SC.nilsl), .s (SC.nilsl)])]) (by kernel_rfl) ?_ ?_
  · exact trivial
  refine AMx.cond (b := decide (w < 0)) (by kernel_rfl) (fun hc1 => ?_) (fun hc1 => ?_)
  · try simp only [decide_eq_true_eq, decide_eq_false_iff_not] at hc1
    refine AMx.seq ?_
    refine AMx.region (ces := []) (ks := [4, 5, 6]) (hs := [4]) (cs := []) (s' := AS.lst 66 [(4, vp 4 0), (5, vc (SC.nilsl)), (6, vc (i6 2))] [(4, AObj.row [.s (slO g.1), .s (slO g.2)])]) (by kernel_rfl) ?_ ?_
    · exact trivial
    refine AMx.ent (ent_weak 5 (v' := vc (slI [])) (by kernel_rfl) (AV.le_t (TV.le_c AC.le_nil))) ?_
    refine AMx.ret ?_
    exact RetP.mk (r := AV.tup [TV.agg [.s (slO g.1), .s (slO g.2)], tc (slI []), tc (i6 2)]) (by kernel_rfl) (by rw [leave_arg (by omega)])
  · try simp only [decide_eq_true_eq, decide_eq_false_iff_not] at hc1
    refine AMx.seq ?_
    refine AMx.region (ces := [(2, CE.call [] [] (vc (u8 (modeS g.1 w))) []), (7, CE.call [] [] (vc (bo (decide (0 ≤ findS g.2 w)))) [])]) (ks := [1, 2, 4, 13]) (hs := [2, 4]) (cs := [Spec Try.prog 38 [TV.agg [.s (slO g.1), .s (slO g.2)], tc (i6 w)] (ofH []) (vc (u8 (modeS g.1 w))) (ofH []), ((decide (modeS g.1 w = 0)) = true) → allP [], ((decide (modeS g.1 w = 0)) = true) → allP [], ((decide (modeS g.1 w = 0)) = true) → allP [(decide (modeS g.1 w = 0)) = true, (decide (modeS g.1 w = 0)) = true, Spec Try.prog 39 [TV.agg [.s (slO g.1), .s (slO g.2)], tc (i6 w)] (ofH []) (vc (bo (decide (0 ≤ findS g.2 w)))) (ofH [])], ((decide (modeS g.1 w = 0)) = true) → allP [(decide (modeS g.1 w = 0)) = true], (decide (modeS g.1 w = 0)) = true → allP [(decide (modeS g.1 w = 0)) = true]]) (s' := AS.lst 66 [(1, vc (i6 w)), (2, vp 2 0), (4, vp 4 0), (13, vc (bo ((decide (modeS g.1 w = 0)) && (!(decide (0 ≤ findS g.2 w))))))] [(2, AObj.row [.s (slO g.1), .s (slO g.2)]), (4, AObj.row [.s (SC.nilsl), .s (SC.nilsl)])]) (by kernel_rfl) ?_ ?_
    · exact ⟨(Holds_c g w), (fun _ => trivial), (fun _ => trivial), (fun hp => by have hq := hp; (try simp only [decide_eq_true_eq, decide_eq_false_iff_not, Bool.and_eq_true, Bool.or_eq_true, Bool.and_eq_false_iff, Bool.or_eq_false_iff, Bool.not_eq_true', Bool.not_eq_false', Bool.not_eq_true, Bool.not_eq_false] at hq); exact ⟨hp, hp, (Waits_c g w)⟩), (fun hp => hp), (fun hp2 => (by first | exact hp2 | exact ⟨hp, hp2⟩))⟩
    refine AMx.cond (b := ((decide (modeS g.1 w = 0)) && (!(decide (0 ≤ findS g.2 w))))) (by kernel_rfl) (fun hc2 => ?_) (fun hc2 => ?_)
    · try simp only [decide_eq_true_eq, decide_eq_false_iff_not, Bool.and_eq_true, Bool.and_eq_false_iff, Bool.not_eq_true', Bool.not_eq_false'] at hc2
      refine AMx.seq ?_
      refine AMx.region (ces := []) (ks := [4, 5, 6]) (hs := [4]) (cs := []) (s' := AS.lst 66 [(4, vp 4 0), (5, vc (SC.nilsl)), (6, vc (i6 6))] [(4, AObj.row [.s (slO g.1), .s (slO g.2)])]) (by kernel_rfl) ?_ ?_
      · exact trivial
      refine AMx.ent (ent_weak 5 (v' := vc (slI [])) (by kernel_rfl) (AV.le_t (TV.le_c AC.le_nil))) ?_
      refine AMx.ret ?_
      exact RetP.mk (r := AV.tup [TV.agg [.s (slO g.1), .s (slO g.2)], tc (slI []), tc (i6 6)]) (by kernel_rfl) (by have hm := mode_ne hg (w := w); rw [leave_none (by omega) (by omega)])
    · try simp only [decide_eq_true_eq, decide_eq_false_iff_not, Bool.and_eq_true, Bool.and_eq_false_iff, Bool.not_eq_true', Bool.not_eq_false'] at hc2
      refine AMx.skip ?_
      refine AMx.blk ?_
      refine AMx.seq ?_
      refine AMx.region_draw (ces := [(3, CE.call [] [] (vc (slO (dropS w g.1))) []), (7, CE.call [] [] (vc (slO (dropS w g.2))) [])]) (ros := [(1, [2]), (5, [2]), (9, [2]), (11, [2])]) (ks := [2, 4]) (hs := [2, 4]) (cs := [Spec Try.prog 96 [tc (slO g.1), tc (i6 w)] (ofH []) (vc (slO (dropS w g.1))) (ofH []), Spec Try.prog 96 [tc (slO g.2), tc (i6 w)] (ofH []) (vc (slO (dropS w g.2))) (ofH [])]) (s' := AS.lst 66 [(2, vp 2 0), (4, vp 4 0)] [(2, AObj.row [.s (slO (dropS w g.1)), .s (slO (dropS w g.2))]), (4, AObj.row [.s (SC.nilsl), .s (SC.nilsl)])]) mixed (by kernel_rfl) ?_ ?_
      · exact ⟨(without_c g.1 w (by first | omega | (have hd1 := drop_le w g.1; have hd2 := drop_le w g.2; omega))), (without_c g.2 w (by first | omega | (have hd1 := drop_le w g.1; have hd2 := drop_le w g.2; omega)))⟩
      refine AMx.seq ?_
      refine AMx.region (ces := []) (ks := [2, 4, 7]) (hs := [2, 4]) (cs := []) (s' := AS.lst 66 [(2, vp 2 0), (4, vp 4 0), (7, vc (SC.nilsl))] [(2, AObj.row [.s (slO (dropS w g.1)), .s (slO (dropS w g.2))]), (4, AObj.row [.s (SC.nilsl), .s (SC.nilsl)])]) (by kernel_rfl) ?_ ?_
      · exact trivial
      refine AMx.seq ?_
      refine AMx.block ?_
      refine AMx.ent (s' := AS.lst 66 [(2, vp 2 0), (4, vp 4 0), (7, vo 7)] [(7, AObj.grow 3 1 Int 0 rowI []), (2, AObj.row [.s (slO (dropS w g.1)), .s (slO (dropS w g.2))]), (4, AObj.row [.s (SC.nilsl), .s (SC.nilsl)])]) (ent_adopt (t := 7) (d := 7) 3 1 Int 0 rowI (by kernel_rfl) (by kernel_rfl) (by kernel_rfl) (by kernel_rfl)) ?_
      refine AMx.ent (s' := AS.lst 66 [(2, vp 2 0), (4, vp 4 0), (7, vo 7)] [(2, AObj.row [.s (slO (dropS w g.1)), .s (slO (dropS w g.2))]), (4, AObj.row [.s (SC.nilsl), .s (SC.nilsl)]), (7, AObj.grow 3 1 Int 0 rowI [])]) (ent_proj [2, 4, 7] [2, 4, 7]) ?_
      refine AMx.loop (fun mm ss => ∃ (h : List One) (r : List One) (o : List Int), (Wf (h, r) ∧ h.length + r.length ≤ 90000 ∧ o.length + r.length ≤ 90000 ∧ letS (dropS w g.1) (dropS w g.2) = ((letS h r).1, (letS h r).2.1, o ++ (letS h r).2.2)) ∧ mm = r.length ∧ ss = AS.lst 66 [(2, vp 2 0), (4, vp 4 0), (7, vo 7)] [(2, AObj.row [.s (slO h), .s (slO r)]), (4, AObj.row [.s (SC.nilsl), .s (SC.nilsl)]), (7, AObj.grow 3 1 Int 0 rowI o)]) ⟨dropS w g.1, dropS w g.2, [], ?_, rfl, ?_⟩ ?_
      · exact ⟨wf_sub (drop_sub w _) (drop_sub w _) hg, by have := drop_le w g.1; have := drop_le w g.2; omega, by have := drop_le w g.2; simp only [List.length_nil]; omega, rfl⟩
      · first | rfl | (rw [cut_find, cut_find] <;> rfl)
      rintro mm ss ⟨h, r, o, ⟨hw, hI, hO, hG⟩, rfl, rfl⟩
      refine AMx.seq ?_
      refine AMx.seq ?_
      refine AMx.region_draw (ces := [(11, CE.call [] [] (vc (bo (openS ((h, r) : Gt).1 (List.getD r 0 (0, 0)).2))) [])]) (ros := [(1, [2]), (5, [2]), (7, [2])]) (ks := [2, 4, 7, 47]) (hs := [2, 4, 7]) (cs := [((decide (0 < (List.length r : Int))) = true) → allP [], ((decide (0 < (List.length r : Int))) = true) → allP [], ((decide (0 < (List.length r : Int))) = true) → allP [(decide (0 < (List.length r : Int))) = true], ((decide (0 < (List.length r : Int))) = true) → allP [(decide (0 < (List.length r : Int))) = true, (0 : Int) ≤ 0, (0 : Int) < List.length r], ((decide (0 < (List.length r : Int))) = true) → allP [(decide (0 < (List.length r : Int))) = true], ((decide (0 < (List.length r : Int))) = true) → allP [(decide (0 < (List.length r : Int))) = true], ((decide (0 < (List.length r : Int))) = true) → allP [(decide (0 < (List.length r : Int))) = true, (decide (0 < (List.length r : Int))) = true, Spec Try.prog 93 [TV.agg [.s (slO h), .s (slO r)], tc (u8 ((List.getD r 0 (0, 0)).2))] (ofH []) (vc (bo (openS ((h, r) : Gt).1 (List.getD r 0 (0, 0)).2))) (ofH [])], (decide (0 < (List.length r : Int))) = true → allP [(decide (0 < (List.length r : Int))) = true]]) (s' := AS.lst 66 [(2, vp 2 0), (4, vp 4 0), (7, vo 7), (47, vc (bo ((decide (0 < (List.length r : Int))) && (openS ((h, r) : Gt).1 (List.getD r 0 (0, 0)).2))))] [(2, AObj.row [.s (slO h), .s (slO r)]), (4, AObj.row [.s (SC.nilsl), .s (SC.nilsl)]), (7, AObj.grow 3 1 Int 0 rowI o)]) mixed (by kernel_rfl) ?_ ?_
      · exact ⟨(fun _ => trivial), (fun _ => trivial), (fun hp => hp), (fun hp => by have hq := hp; (try simp only [decide_eq_true_eq, decide_eq_false_iff_not, Bool.and_eq_true, Bool.or_eq_true, Bool.and_eq_false_iff, Bool.or_eq_false_iff, Bool.not_eq_true', Bool.not_eq_false', Bool.not_eq_true, Bool.not_eq_false] at hq); exact ⟨hp, (show (0 : Int) ≤ 0 from (by first | omega | (have hd1 := drop_le w g.1; have hd2 := drop_le w g.2; omega))), (show (0 : Int) < List.length r from (by first | omega | (have hd1 := drop_le w g.1; have hd2 := drop_le w g.2; omega)))⟩), (fun hp => hp), (fun hp => hp), (fun hp => by have hq := hp; (try simp only [decide_eq_true_eq, decide_eq_false_iff_not, Bool.and_eq_true, Bool.or_eq_true, Bool.and_eq_false_iff, Bool.or_eq_false_iff, Bool.not_eq_true', Bool.not_eq_false', Bool.not_eq_true, Bool.not_eq_false] at hq); exact ⟨hp, hp, (open_c ((h, r) : Gt) ((List.getD r 0 (0, 0)).2))⟩), (fun hp2 => (by first | exact hp2 | exact ⟨hp, hp2⟩))⟩
      refine AMx.cond (b := ((decide (0 < (List.length r : Int))) && (openS ((h, r) : Gt).1 (List.getD r 0 (0, 0)).2))) (by kernel_rfl) (fun hc3 => ?_) (fun hc3 => ?_)
      · try simp only [decide_eq_true_eq, decide_eq_false_iff_not, Bool.and_eq_true, Bool.and_eq_false_iff] at hc3
        refine AMx.skip ?_
        refine AMx.block ?_
        refine AMx.seq ?_
        refine AMx.region (ces := []) (ks := [2, 4, 7, 8]) (hs := [2, 4, 7, 8]) (cs := [(0 : Int) ≤ 0, (0 : Int) < List.length r]) (s' := AS.lst 66 [(2, vp 2 0), (4, vp 4 0), (7, vo 7), (8, vp 8 0)] [(2, AObj.row [.s (slO h), .s (slO r)]), (4, AObj.row [.s (SC.nilsl), .s (SC.nilsl)]), (7, AObj.grow 3 1 Int 0 rowI o), (8, AObj.row [.s (i6 ((List.getD r 0 (0, 0)).1)), .s (u8 ((List.getD r 0 (0, 0)).2))])]) (by kernel_rfl) ?_ ?_
        · exact ⟨(show (0 : Int) ≤ 0 from (by first | omega | (have hd1 := drop_le w g.1; have hd2 := drop_le w g.2; omega))), (show (0 : Int) < List.length r from (by first | omega | (have hd1 := drop_le w g.1; have hd2 := drop_le w g.2; omega)))⟩
        refine AMx.seq ?_
        refine AMx.region (ces := [(3, CE.obj (AObj.grow 3 1 Int 0 rowI [(List.getD r 0 (0, 0)).1])), (4, CE.obj (AObj.grow 3 1 Int 0 rowI (o ++ [(List.getD r 0 (0, 0)).1])))]) (ks := [2, 4, 7, 8]) (hs := [2, 4, 8, 56]) (cs := [flat 1 rowI [(List.getD r 0 (0, 0)).1] = [.s (i6 ((List.getD r 0 (0, 0)).1))], List.length ([(List.getD r 0 (0, 0)).1] : List Int) = 1, AppC (flat 1 rowI [(List.getD r 0 (0, 0)).1]) (List.length ([(List.getD r 0 (0, 0)).1] : List Int)) 8 (AObj.grow 3 1 Int 0 rowI o) (AObj.grow 3 1 Int 0 rowI (o ++ [(List.getD r 0 (0, 0)).1]))]) (s' := AS.lst 66 [(2, vp 2 0), (4, vp 4 0), (7, vo 56), (8, vp 8 0)] [(2, AObj.row [.s (slO h), .s (slO r)]), (4, AObj.row [.s (SC.nilsl), .s (SC.nilsl)]), (8, AObj.row [.s (i6 ((List.getD r 0 (0, 0)).1)), .s (u8 ((List.getD r 0 (0, 0)).2))]), (56, AObj.grow 3 1 Int 0 rowI (o ++ [(List.getD r 0 (0, 0)).1]))]) (by kernel_rfl) ?_ ?_
        · exact ⟨rfl, rfl, (⟨_, rfl, rfl, rfl, by simp only [List.length_cons, List.length_nil]; omega, by simp only [maxLen, List.length_cons, List.length_nil]; omega⟩)⟩
        refine AMx.seq ?_
        refine AMx.region (ces := []) (ks := [2, 4, 7, 8]) (hs := [2, 4, 8, 56]) (cs := [0 ≤ (1 : Int), (1 : Int) ≤ List.length r]) (s' := AS.lst 66 [(2, vp 2 0), (4, vp 4 0), (7, vo 56), (8, vp 8 0)] [(2, AObj.row [.s (slO h), .s (slO (List.drop 1 r))]), (4, AObj.row [.s (SC.nilsl), .s (SC.nilsl)]), (8, AObj.row [.s (i6 ((List.getD r 0 (0, 0)).1)), .s (u8 ((List.getD r 0 (0, 0)).2))]), (56, AObj.grow 3 1 Int 0 rowI (o ++ [(List.getD r 0 (0, 0)).1]))]) (by kernel_rfl) ?_ ?_
        · exact ⟨(show 0 ≤ (1 : Int) from (by first | omega | (have hd1 := drop_le w g.1; have hd2 := drop_le w g.2; omega))), (show (1 : Int) ≤ List.length r from (by first | omega | (have hd1 := drop_le w g.1; have hd2 := drop_le w g.2; omega)))⟩
        refine AMx.region (ces := [(2, CE.call [] [] (AV.t (TV.agg [.s (slO (((intoS ((h, List.drop 1 r) : Gt).1 (List.getD r 0 (0, 0)), ((h, List.drop 1 r) : Gt).2) : Gt).1)), .s (slO (((intoS ((h, List.drop 1 r) : Gt).1 (List.getD r 0 (0, 0)), ((h, List.drop 1 r) : Gt).2) : Gt).2))])) [])]) (ks := [2, 4, 7]) (hs := [2, 4, 56]) (cs := [Spec Try.prog 94 [TV.agg [.s (slO h), .s (slO (List.drop 1 r))], TV.agg [.s (i6 ((List.getD r 0 (0, 0)).1)), .s (u8 ((List.getD r 0 (0, 0)).2))]] (ofH []) (AV.t (TV.agg [.s (slO (((intoS ((h, List.drop 1 r) : Gt).1 (List.getD r 0 (0, 0)), ((h, List.drop 1 r) : Gt).2) : Gt).1)), .s (slO (((intoS ((h, List.drop 1 r) : Gt).1 (List.getD r 0 (0, 0)), ((h, List.drop 1 r) : Gt).2) : Gt).2))])) (ofH [])]) (s' := AS.lst 66 [(2, vp 2 0), (4, vp 4 0), (7, vo 56)] [(2, AObj.row [.s (slO (((intoS ((h, List.drop 1 r) : Gt).1 (List.getD r 0 (0, 0)), ((h, List.drop 1 r) : Gt).2) : Gt).1)), .s (slO (((intoS ((h, List.drop 1 r) : Gt).1 (List.getD r 0 (0, 0)), ((h, List.drop 1 r) : Gt).2) : Gt).2))]), (4, AObj.row [.s (SC.nilsl), .s (SC.nilsl)]), (56, AObj.grow 3 1 Int 0 rowI (o ++ [(List.getD r 0 (0, 0)).1]))]) (by kernel_rfl) ?_ ?_
        · exact (in_c ((h, List.drop 1 r) : Gt) (List.getD r 0 (0, 0)) (by first | assumption | exact hg.up | exact hw.up) (by first | assumption | exact Wf.pos hg | exact fun y hy => Wf.pos hw y hy) (by first | omega | exact wf_head hw (by omega)) (by first | omega | (show List.length _ ≤ _; omega) | (simp only []; omega)))
        refine AMx.blk ?_
        refine AMx.ent_inv (s' := AS.lst 66 [(2, vp 2 0), (4, vp 4 0), (7, vo 7)] [(2, AObj.row [.s (slO (((intoS ((h, List.drop 1 r) : Gt).1 (List.getD r 0 (0, 0)), ((h, List.drop 1 r) : Gt).2) : Gt).1)), .s (slO (((intoS ((h, List.drop 1 r) : Gt).1 (List.getD r 0 (0, 0)), ((h, List.drop 1 r) : Gt).2) : Gt).2))]), (4, AObj.row [.s (SC.nilsl), .s (SC.nilsl)]), (7, AObj.grow 3 1 Int 0 rowI (o ++ [(List.getD r 0 (0, 0)).1]))]) (ent_swap 56 7 (by kernel_rfl) (by kernel_rfl)) ?_
        refine AMx.ent_inv (s' := AS.lst 66 [(2, vp 2 0), (4, vp 4 0), (7, vo 7)] [(2, AObj.row [.s (slO (((intoS ((h, List.drop 1 r) : Gt).1 (List.getD r 0 (0, 0)), ((h, List.drop 1 r) : Gt).2) : Gt).1)), .s (slO (((intoS ((h, List.drop 1 r) : Gt).1 (List.getD r 0 (0, 0)), ((h, List.drop 1 r) : Gt).2) : Gt).2))]), (4, AObj.row [.s (SC.nilsl), .s (SC.nilsl)]), (7, AObj.grow 3 1 Int 0 rowI (o ++ [(List.getD r 0 (0, 0)).1]))]) (ent_proj [2, 4, 7] [2, 4, 7]) ?_
        refine AMx.inv ⟨_, ?_, intoS h (List.getD r 0 (0, 0)), List.drop 1 r, o ++ [(List.getD r 0 (0, 0)).1], ?_, rfl, ?_⟩
        rotate_left
        · exact ⟨wf_go hw (by omega), by simp only [into_len, List.length_drop]; omega, by simp only [List.length_append, List.length_cons, List.length_nil, List.length_drop]; omega, glue_go hG (by omega) hc3.2⟩
        · first | rfl | (rw [cut_zero] <;> rfl)
        · simp only [List.length_drop]; omega
      · try simp only [decide_eq_true_eq, decide_eq_false_iff_not, Bool.and_eq_true, Bool.and_eq_false_iff] at hc3
        refine AMx.exit ?_
        refine AMx.code_exit ?_
        refine AMx.inv_exit ?_
        refine AMx.blk_exit ?_
        refine AMx.seq ?_
        refine AMx.region (ces := []) (ks := [4, 5, 6]) (hs := [4, 7]) (cs := []) (s' := AS.lst 66 [(4, vp 4 0), (5, vo 7), (6, vc (i6 0))] [(4, AObj.row [.s (slO h), .s (slO r)]), (7, AObj.grow 3 1 Int 0 rowI o)]) (by kernel_rfl) ?_ ?_
        · exact trivial
        refine AMx.ent (s' := AS.lst 66 [(4, vp 4 0), (5, vc (slI o)), (6, vc (i6 0))] [(4, AObj.row [.s (slO h), .s (slO r)])]) (ent_freeze (id := 7) (T := 3) (by kernel_rfl)) ?_
        refine AMx.ret ?_
        exact RetP.mk (r := AV.tup [TV.agg [.s (slO h), .s (slO r)], tc (slI o), tc (i6 0)]) (by kernel_rfl) (by have hm := mode_ne hg (w := w); rw [leave_fin (by omega) (by omega) hG (fun q => by rcases hc3 with z | z; omega; rw [q.2] at z; cases z)])

theorem f90_body : Try.f90.body = some (.seq (.region 0 (rg Try.f90 0) false) (.seq (.seq (.region 1 (rg Try.f90 1) false) (.cond (.tmp 11) (.seq (.region 2 (rg Try.f90 2) false) (.ret)) (.skip))) (.seq (.seq (.region 3 (rg Try.f90 3) false) (.cond (.tmp 24) (.seq (.region 4 (rg Try.f90 4) false) (.ret)) (.skip))) (.seq (.region 5 (rg Try.f90 5) true) (.seq (.region 6 (rg Try.f90 6) false) (.seq (.block 0 (.loop (.seq (.seq (.region 7 (rg Try.f90 7) true) (.cond (.tmp 54) (.skip) (.exit 0))) (.block 1 (.seq (.region 8 (rg Try.f90 8) false) (.seq (.region 9 (rg Try.f90 9) false) (.region 10 (rg Try.f90 10) true))))))) (.seq (.region 11 (rg Try.f90 11) false) (.ret)))))))) := by kernel_rfl

set_option maxRecDepth 100000 in
set_option maxHeartbeats 8000000 in
theorem RLeave_c (g : Gt) (w : Int) (hg : Wf g) (hb : g.1.length + g.2.length ≤ 90000) : Pure Try.prog 90 [TV.agg [.s (slO g.1), .s (slO g.2)], tc (i6 w)] (AV.tup [TV.agg [.s (slO (((leaveS g w).1).1)), .s (slO (((leaveS g w).1).2))], tc (slI ((leaveS g w).2.1)), tc (i6 ((leaveS g w).2.2))]) := by
  refine Pure.of_body Try.func90 f90_body (by kernel_rfl) Try.ntmps90 (by kernel_rfl) (by kernel_rfl) ?_
  refine AMx.seq ?_
  refine AMx.region (ces := []) (ks := [1, 2, 4]) (hs := [2, 4]) (cs := []) (s' := AS.lst 74 [(1, vc (i6 w)), (2, vp 2 0), (4, vp 4 0)] [(2, AObj.row [.s (slO g.1), .s (slO g.2)]), (4, AObj.row [.s (SC.nilsl), .s (SC.nilsl)])]) (by kernel_rfl) ?_ ?_
  · exact trivial
  refine AMx.seq ?_
  refine AMx.seq ?_
  refine AMx.region (ces := []) (ks := [1, 2, 4, 11]) (hs := [2, 4]) (cs := []) (s' := AS.lst 74 [(1, vc (i6 w)), (2, vp 2 0), (4, vp 4 0), (11, vc (bo (decide (w < 0))))] [(2, AObj.row [.s (slO g.1), .s (slO g.2)]), (4, AObj.row [.s (SC.nilsl), .s (SC.nilsl)])]) (by kernel_rfl) ?_ ?_
  · exact trivial
  refine AMx.cond (b := decide (w < 0)) (by kernel_rfl) (fun hc1 => ?_) (fun hc1 => ?_)
  · try simp only [decide_eq_true_eq, decide_eq_false_iff_not] at hc1
    refine AMx.seq ?_
    refine AMx.region (ces := []) (ks := [4, 5, 6]) (hs := [4]) (cs := []) (s' := AS.lst 74 [(4, vp 4 0), (5, vc (SC.nilsl)), (6, vc (i6 2))] [(4, AObj.row [.s (slO g.1), .s (slO g.2)])]) (by kernel_rfl) ?_ ?_
    · exact trivial
    refine AMx.ent (ent_weak 5 (v' := vc (slI [])) (by kernel_rfl) (AV.le_t (TV.le_c AC.le_nil))) ?_
    refine AMx.ret ?_
    exact RetP.mk (r := AV.tup [TV.agg [.s (slO g.1), .s (slO g.2)], tc (slI []), tc (i6 2)]) (by kernel_rfl) (by rw [leave_arg (by omega)])
  · try simp only [decide_eq_true_eq, decide_eq_false_iff_not] at hc1
    refine AMx.skip ?_
    refine AMx.seq ?_
    refine AMx.seq ?_
    refine AMx.region (ces := [(3, CE.call [] [] (vc (i6 (findS g.1 w))) []), (9, CE.call [] [] (vc (i6 (findS g.2 w))) [])]) (ks := [1, 2, 4, 24]) (hs := [2, 4]) (cs := [Spec Try.prog 37 [tc (slO g.1), tc (i6 w)] (ofH []) (vc (i6 (findS g.1 w))) (ofH []), ((decide (findS g.1 w < 0)) = true) → allP [], ((decide (findS g.1 w < 0)) = true) → allP [(decide (findS g.1 w < 0)) = true], ((decide (findS g.1 w < 0)) = true) → allP [], ((decide (findS g.1 w < 0)) = true) → allP [(decide (findS g.1 w < 0)) = true, (decide (findS g.1 w < 0)) = true, Spec Try.prog 37 [tc (slO g.2), tc (i6 w)] (ofH []) (vc (i6 (findS g.2 w))) (ofH [])], ((decide (findS g.1 w < 0)) = true) → allP [(decide (findS g.1 w < 0)) = true], (decide (findS g.1 w < 0)) = true → allP [(decide (findS g.1 w < 0)) = true]]) (s' := AS.lst 74 [(1, vc (i6 w)), (2, vp 2 0), (4, vp 4 0), (24, vc (bo ((decide (findS g.1 w < 0)) && (decide (findS g.2 w < 0)))))] [(2, AObj.row [.s (slO g.1), .s (slO g.2)]), (4, AObj.row [.s (SC.nilsl), .s (SC.nilsl)])]) (by kernel_rfl) ?_ ?_
    · exact ⟨(RFind_c g.1 w), (fun _ => trivial), (fun hp => hp), (fun _ => trivial), (fun hp => by have hq := hp; (try simp only [decide_eq_true_eq, decide_eq_false_iff_not, Bool.and_eq_true, Bool.or_eq_true, Bool.and_eq_false_iff, Bool.or_eq_false_iff, Bool.not_eq_true', Bool.not_eq_false', Bool.not_eq_true, Bool.not_eq_false] at hq); exact ⟨hp, hp, (RFind_c g.2 w)⟩), (fun hp => hp), (fun hp2 => (by first | exact hp2 | exact ⟨hp, hp2⟩))⟩
    refine AMx.cond (b := ((decide (findS g.1 w < 0)) && (decide (findS g.2 w < 0)))) (by kernel_rfl) (fun hc2 => ?_) (fun hc2 => ?_)
    · try simp only [decide_eq_true_eq, decide_eq_false_iff_not, Bool.and_eq_true, Bool.and_eq_false_iff] at hc2
      refine AMx.seq ?_
      refine AMx.region (ces := []) (ks := [4, 5, 6]) (hs := [4]) (cs := []) (s' := AS.lst 74 [(4, vp 4 0), (5, vc (SC.nilsl)), (6, vc (i6 6))] [(4, AObj.row [.s (slO g.1), .s (slO g.2)])]) (by kernel_rfl) ?_ ?_
      · exact trivial
      refine AMx.ent (ent_weak 5 (v' := vc (slI [])) (by kernel_rfl) (AV.le_t (TV.le_c AC.le_nil))) ?_
      refine AMx.ret ?_
      exact RetP.mk (r := AV.tup [TV.agg [.s (slO g.1), .s (slO g.2)], tc (slI []), tc (i6 6)]) (by kernel_rfl) (by have hm := mode_ne hg (w := w); rw [leave_none (by omega) (by omega)])
    · try simp only [decide_eq_true_eq, decide_eq_false_iff_not, Bool.and_eq_true, Bool.and_eq_false_iff] at hc2
      refine AMx.skip ?_
      refine AMx.seq ?_
      refine AMx.region_draw (ces := [(5, CE.call [] [] (vc (i6 (findS g.1 w))) []), (6, CE.call [] [] (vc (slO (cutS g.1 (findS g.1 w)))) []), (12, CE.call [] [] (vc (i6 (findS g.2 w))) []), (13, CE.call [] [] (vc (slO (cutS g.2 (findS g.2 w)))) [])]) (ros := [(1, [2]), (3, [2]), (8, [2]), (10, [2]), (16, [7])]) (ks := [4, 7]) (hs := [4, 7]) (cs := [Spec Try.prog 37 [tc (slO g.1), tc (i6 w)] (ofH []) (vc (i6 (findS g.1 w))) (ofH []), Spec Try.prog 133 [tc (slO g.1), tc (i6 (findS g.1 w))] (ofH []) (vc (slO (cutS g.1 (findS g.1 w)))) (ofH []), Spec Try.prog 37 [tc (slO g.2), tc (i6 w)] (ofH []) (vc (i6 (findS g.2 w))) (ofH []), Spec Try.prog 133 [tc (slO g.2), tc (i6 (findS g.2 w))] (ofH []) (vc (slO (cutS g.2 (findS g.2 w)))) (ofH [])]) (s' := AS.lst 74 [(4, vp 4 0), (7, vp 7 0)] [(4, AObj.row [.s (SC.nilsl), .s (SC.nilsl)]), (7, AObj.row [.s (slO (cutS g.1 (findS g.1 w))), .s (slO (cutS g.2 (findS g.2 w)))])]) mixed (by kernel_rfl) ?_ ?_
      · exact ⟨(RFind_c g.1 w), (RWithout_c g.1 (findS g.1 w) (by first | exact find_lt _ _ | omega) (by first | omega | (have hd1 := drop_le w g.1; have hd2 := drop_le w g.2; first | omega | (simp only [List.length_nil]; omega)))), (RFind_c g.2 w), (RWithout_c g.2 (findS g.2 w) (by first | exact find_lt _ _ | omega) (by first | omega | (have hd1 := drop_le w g.1; have hd2 := drop_le w g.2; first | omega | (simp only [List.length_nil]; omega))))⟩
      refine AMx.seq ?_
      refine AMx.region (ces := []) (ks := [4, 7, 8]) (hs := [4, 7]) (cs := []) (s' := AS.lst 74 [(4, vp 4 0), (7, vp 7 0), (8, vc (SC.nilsl))] [(4, AObj.row [.s (SC.nilsl), .s (SC.nilsl)]), (7, AObj.row [.s (slO (cutS g.1 (findS g.1 w))), .s (slO (cutS g.2 (findS g.2 w)))])]) (by kernel_rfl) ?_ ?_
      · exact trivial
      refine AMx.seq ?_
      refine AMx.block ?_
      refine AMx.ent (s' := AS.lst 74 [(4, vp 4 0), (7, vp 7 0), (8, vo 8)] [(8, AObj.grow 3 1 Int 0 rowI []), (4, AObj.row [.s (SC.nilsl), .s (SC.nilsl)]), (7, AObj.row [.s (slO (cutS g.1 (findS g.1 w))), .s (slO (cutS g.2 (findS g.2 w)))])]) (ent_adopt (t := 8) (d := 8) 3 1 Int 0 rowI (by kernel_rfl) (by kernel_rfl) (by kernel_rfl) (by kernel_rfl)) ?_
      refine AMx.ent (s' := AS.lst 74 [(4, vp 4 0), (7, vp 7 0), (8, vo 8)] [(4, AObj.row [.s (SC.nilsl), .s (SC.nilsl)]), (7, AObj.row [.s (slO (cutS g.1 (findS g.1 w))), .s (slO (cutS g.2 (findS g.2 w)))]), (8, AObj.grow 3 1 Int 0 rowI [])]) (ent_proj [4, 7, 8] [4, 7, 8]) ?_
      refine AMx.loop (fun mm ss => ∃ (h : List One) (r : List One) (o : List Int), (Wf (h, r) ∧ h.length + r.length ≤ 90000 ∧ o.length + r.length ≤ 90000 ∧ letS (dropS w g.1) (dropS w g.2) = ((letS h r).1, (letS h r).2.1, o ++ (letS h r).2.2)) ∧ mm = r.length ∧ ss = AS.lst 74 [(4, vp 4 0), (7, vp 7 0), (8, vo 8)] [(4, AObj.row [.s (SC.nilsl), .s (SC.nilsl)]), (7, AObj.row [.s (slO h), .s (slO r)]), (8, AObj.grow 3 1 Int 0 rowI o)]) ⟨dropS w g.1, dropS w g.2, [], ?_, rfl, ?_⟩ ?_
      · exact ⟨wf_sub (drop_sub w _) (drop_sub w _) hg, by have := drop_le w g.1; have := drop_le w g.2; omega, by have := drop_le w g.2; simp only [List.length_nil]; omega, rfl⟩
      · first | rfl | (rw [cut_find, cut_find] <;> rfl)
      rintro mm ss ⟨h, r, o, ⟨hw, hI, hO, hG⟩, rfl, rfl⟩
      refine AMx.seq ?_
      refine AMx.seq ?_
      refine AMx.region_draw (ces := [(12, CE.call [] [] (vc (bo (openS h ((List.getD r 0 (0, 0)).2)))) [])]) (ros := [(1, [7]), (6, [7]), (8, [7])]) (ks := [4, 7, 8, 54]) (hs := [4, 7, 8]) (cs := [((decide (0 < (List.length r : Int))) = true) → allP [], ((decide (0 < (List.length r : Int))) = true) → allP [(decide (0 < (List.length r : Int))) = true], ((decide (0 < (List.length r : Int))) = true) → allP [], ((decide (0 < (List.length r : Int))) = true) → allP [(decide (0 < (List.length r : Int))) = true], ((decide (0 < (List.length r : Int))) = true) → allP [(decide (0 < (List.length r : Int))) = true, (0 : Int) ≤ 0, (0 : Int) < List.length r], ((decide (0 < (List.length r : Int))) = true) → allP [(decide (0 < (List.length r : Int))) = true], ((decide (0 < (List.length r : Int))) = true) → allP [(decide (0 < (List.length r : Int))) = true], ((decide (0 < (List.length r : Int))) = true) → allP [(decide (0 < (List.length r : Int))) = true, (decide (0 < (List.length r : Int))) = true, Spec Try.prog 134 [tc (slO h), tc (u8 ((List.getD r 0 (0, 0)).2))] (ofH []) (vc (bo (openS h ((List.getD r 0 (0, 0)).2)))) (ofH [])], (decide (0 < (List.length r : Int))) = true → allP [(decide (0 < (List.length r : Int))) = true]]) (s' := AS.lst 74 [(4, vp 4 0), (7, vp 7 0), (8, vo 8), (54, vc (bo ((decide (0 < (List.length r : Int))) && (openS h ((List.getD r 0 (0, 0)).2)))))] [(4, AObj.row [.s (SC.nilsl), .s (SC.nilsl)]), (7, AObj.row [.s (slO h), .s (slO r)]), (8, AObj.grow 3 1 Int 0 rowI o)]) mixed (by kernel_rfl) ?_ ?_
      · exact ⟨(fun _ => trivial), (fun hp => hp), (fun _ => trivial), (fun hp => hp), (fun hp => by have hq := hp; (try simp only [decide_eq_true_eq, decide_eq_false_iff_not, Bool.and_eq_true, Bool.or_eq_true, Bool.and_eq_false_iff, Bool.or_eq_false_iff, Bool.not_eq_true', Bool.not_eq_false', Bool.not_eq_true, Bool.not_eq_false] at hq); exact ⟨hp, (show (0 : Int) ≤ 0 from (by first | omega | (have hd1 := drop_le w g.1; have hd2 := drop_le w g.2; first | omega | (simp only [List.length_nil]; omega)))), (show (0 : Int) < List.length r from (by first | omega | (have hd1 := drop_le w g.1; have hd2 := drop_le w g.2; first | omega | (simp only [List.length_nil]; omega))))⟩), (fun hp => hp), (fun hp => hp), (fun hp => by have hq := hp; (try simp only [decide_eq_true_eq, decide_eq_false_iff_not, Bool.and_eq_true, Bool.or_eq_true, Bool.and_eq_false_iff, Bool.or_eq_false_iff, Bool.not_eq_true', Bool.not_eq_false', Bool.not_eq_true, Bool.not_eq_false] at hq); exact ⟨hp, hp, (RMay_c h ((List.getD r 0 (0, 0)).2))⟩), (fun hp2 => (by first | exact hp2 | exact ⟨hp, hp2⟩))⟩
      refine AMx.cond (b := ((decide (0 < (List.length r : Int))) && (openS h ((List.getD r 0 (0, 0)).2)))) (by kernel_rfl) (fun hc3 => ?_) (fun hc3 => ?_)
      · try simp only [decide_eq_true_eq, decide_eq_false_iff_not, Bool.and_eq_true, Bool.and_eq_false_iff] at hc3
        refine AMx.skip ?_
        refine AMx.block ?_
        refine AMx.seq ?_
        refine AMx.region (ces := []) (ks := [4, 7, 8, 9]) (hs := [4, 7, 8, 9]) (cs := [(0 : Int) ≤ 0, (0 : Int) < List.length r]) (s' := AS.lst 74 [(4, vp 4 0), (7, vp 7 0), (8, vo 8), (9, vp 9 0)] [(4, AObj.row [.s (SC.nilsl), .s (SC.nilsl)]), (7, AObj.row [.s (slO h), .s (slO r)]), (8, AObj.grow 3 1 Int 0 rowI o), (9, AObj.row [.s (i6 ((List.getD r 0 (0, 0)).1)), .s (u8 ((List.getD r 0 (0, 0)).2))])]) (by kernel_rfl) ?_ ?_
        · exact ⟨(show (0 : Int) ≤ 0 from (by first | omega | (have hd1 := drop_le w g.1; have hd2 := drop_le w g.2; first | omega | (simp only [List.length_nil]; omega)))), (show (0 : Int) < List.length r from (by first | omega | (have hd1 := drop_le w g.1; have hd2 := drop_le w g.2; first | omega | (simp only [List.length_nil]; omega))))⟩
        refine AMx.seq ?_
        refine AMx.region (ces := [(3, CE.obj (AObj.grow 3 1 Int 0 rowI [(List.getD r 0 (0, 0)).1])), (4, CE.obj (AObj.grow 3 1 Int 0 rowI (o ++ [(List.getD r 0 (0, 0)).1])))]) (ks := [4, 7, 8, 9]) (hs := [4, 7, 9, 63]) (cs := [flat 1 rowI [(List.getD r 0 (0, 0)).1] = [.s (i6 ((List.getD r 0 (0, 0)).1))], List.length ([(List.getD r 0 (0, 0)).1] : List Int) = 1, AppC (flat 1 rowI [(List.getD r 0 (0, 0)).1]) (List.length ([(List.getD r 0 (0, 0)).1] : List Int)) 8 (AObj.grow 3 1 Int 0 rowI o) (AObj.grow 3 1 Int 0 rowI (o ++ [(List.getD r 0 (0, 0)).1]))]) (s' := AS.lst 74 [(4, vp 4 0), (7, vp 7 0), (8, vo 63), (9, vp 9 0)] [(4, AObj.row [.s (SC.nilsl), .s (SC.nilsl)]), (7, AObj.row [.s (slO h), .s (slO r)]), (9, AObj.row [.s (i6 ((List.getD r 0 (0, 0)).1)), .s (u8 ((List.getD r 0 (0, 0)).2))]), (63, AObj.grow 3 1 Int 0 rowI (o ++ [(List.getD r 0 (0, 0)).1]))]) (by kernel_rfl) ?_ ?_
        · exact ⟨rfl, rfl, (⟨_, rfl, rfl, rfl, by simp only [List.length_cons, List.length_nil]; omega, by simp only [maxLen, List.length_cons, List.length_nil]; omega⟩)⟩
        refine AMx.region_draw (ces := [(3, CE.call [] [] (vc (slO (intoS h (List.getD r 0 (0, 0))))) []), (6, CE.call [] [] (vc (slO (cutS r 0))) [])]) (ros := [(1, [7]), (2, [9]), (5, [7]), (8, [7])]) (ks := [4, 7, 8]) (hs := [4, 7, 63]) (cs := [Spec Try.prog 135 [tc (slO h), TV.agg [.s (i6 ((List.getD r 0 (0, 0)).1)), .s (u8 ((List.getD r 0 (0, 0)).2))]] (ofH []) (vc (slO (intoS h (List.getD r 0 (0, 0))))) (ofH []), Spec Try.prog 133 [tc (slO r), tc (i6 0)] (ofH []) (vc (slO (cutS r 0))) (ofH [])]) (s' := AS.lst 74 [(4, vp 4 0), (7, vp 7 0), (8, vo 63)] [(4, AObj.row [.s (SC.nilsl), .s (SC.nilsl)]), (7, AObj.row [.s (slO (intoS h (List.getD r 0 (0, 0)))), .s (slO (cutS r 0))]), (63, AObj.grow 3 1 Int 0 rowI (o ++ [(List.getD r 0 (0, 0)).1]))]) mixed (by kernel_rfl) ?_ ?_
        · exact ⟨(RInto_c h (List.getD r 0 (0, 0)) (by first | omega | (have hd1 := drop_le w g.1; have hd2 := drop_le w g.2; first | omega | (simp only [List.length_nil]; omega)))), (RWithout_c r 0 (by first | exact find_lt _ _ | omega) (by first | omega | (have hd1 := drop_le w g.1; have hd2 := drop_le w g.2; first | omega | (simp only [List.length_nil]; omega))))⟩
        refine AMx.blk ?_
        refine AMx.ent_inv (s' := AS.lst 74 [(4, vp 4 0), (7, vp 7 0), (8, vo 8)] [(4, AObj.row [.s (SC.nilsl), .s (SC.nilsl)]), (7, AObj.row [.s (slO (intoS h (List.getD r 0 (0, 0)))), .s (slO (cutS r 0))]), (8, AObj.grow 3 1 Int 0 rowI (o ++ [(List.getD r 0 (0, 0)).1]))]) (ent_swap 63 8 (by kernel_rfl) (by kernel_rfl)) ?_
        refine AMx.ent_inv (s' := AS.lst 74 [(4, vp 4 0), (7, vp 7 0), (8, vo 8)] [(4, AObj.row [.s (SC.nilsl), .s (SC.nilsl)]), (7, AObj.row [.s (slO (intoS h (List.getD r 0 (0, 0)))), .s (slO (cutS r 0))]), (8, AObj.grow 3 1 Int 0 rowI (o ++ [(List.getD r 0 (0, 0)).1]))]) (ent_proj [4, 7, 8] [4, 7, 8]) ?_
        refine AMx.inv ⟨_, ?_, intoS h (List.getD r 0 (0, 0)), List.drop 1 r, o ++ [(List.getD r 0 (0, 0)).1], ?_, rfl, ?_⟩
        rotate_left
        · exact ⟨wf_go hw (by omega), by simp only [into_len, List.length_drop]; omega, by simp only [List.length_append, List.length_cons, List.length_nil, List.length_drop]; omega, glue_go hG (by omega) hc3.2⟩
        · first | rfl | (rw [cut_zero] <;> rfl)
        · simp only [List.length_drop]; omega
      · try simp only [decide_eq_true_eq, decide_eq_false_iff_not, Bool.and_eq_true, Bool.and_eq_false_iff] at hc3
        refine AMx.exit ?_
        refine AMx.code_exit ?_
        refine AMx.inv_exit ?_
        refine AMx.blk_exit ?_
        refine AMx.seq ?_
        refine AMx.region (ces := []) (ks := [4, 5, 6]) (hs := [4, 8]) (cs := []) (s' := AS.lst 74 [(4, vp 4 0), (5, vo 8), (6, vc (i6 0))] [(4, AObj.row [.s (slO h), .s (slO r)]), (8, AObj.grow 3 1 Int 0 rowI o)]) (by kernel_rfl) ?_ ?_
        · exact trivial
        refine AMx.ent (s' := AS.lst 74 [(4, vp 4 0), (5, vc (slI o)), (6, vc (i6 0))] [(4, AObj.row [.s (slO h), .s (slO r)])]) (ent_freeze (id := 8) (T := 3) (by kernel_rfl)) ?_
        refine AMx.ret ?_
        exact RetP.mk (r := AV.tup [TV.agg [.s (slO h), .s (slO r)], tc (slI o), tc (i6 0)]) (by kernel_rfl) (by have hm := mode_ne hg (w := w); rw [leave_fin (by omega) (by omega) hG (fun q => by rcases hc3 with z | z; omega; rw [q.2] at z; cases z)])

end AL.Gate
