/- secret: the contracts of its functions, by their walks. No condition. -/
import Derived.Test.YtioefgdmkjagdaaSecretB
namespace AL.Secret
open Go Go.Proofs AL AL.Fnv
set_option linter.unusedVariables false
set_option linter.unusedSimpArgs false

theorem f142_body : Try.f142.body = some (.seq (.region 0 (rg Try.f142 0) false) (.seq (.region 1 (rg Try.f142 1) false) (.ret))) := by kernel_rfl

set_option maxRecDepth 100000 in
set_option maxHeartbeats 8000000 in
theorem findC_c (x : RowV) (n : Int) : Pure Try.prog 142 [TV.agg [.s (i6 x.1), .s (bo x.2.1), .s (bo x.2.2)], tc (SC.ref 1 (rl [i6 n]))] (vc (bo (decide (x.1 = n)))) := by
  refine Pure.of_body Try.func142 f142_body (by kernel_rfl) Try.ntmps142 (by kernel_rfl) (by kernel_rfl) ?_
  refine AMx.seq ?_
  refine AMx.region (ces := []) (ks := [1, 2]) (hs := [2]) (cs := []) (s' := AS.lst 8 [(1, vc (SC.ref 1 (rl [i6 n]))), (2, vp 2 0)] [(2, AObj.row [.s (i6 x.1), .s (bo x.2.1), .s (bo x.2.2)])]) (by kernel_rfl) ?_ ?_
  · exact trivial
  refine AMx.seq ?_
  refine AMx.region (ces := []) (ks := [3]) (hs := []) (cs := []) (s' := AS.lst 8 [(3, vc (bo (decide (x.1 = n))))] []) (by kernel_rfl) ?_ ?_
  · exact trivial
  refine AMx.ret ?_
  exact RetP.mk (r := vc (bo (decide (x.1 = n)))) (by kernel_rfl) rfl

theorem f141_body : Try.f141.body = some (.seq (.region 0 (rg Try.f141 0) false) (.seq (.seq (.region 1 (rg Try.f141 1) false) (.block 0 (.loop (.seq (.region 2 (rg Try.f141 2) false) (.seq (.cond (.tmp 9) (.skip) (.exit 0)) (.seq (.block 1 (.seq (.region 3 (rg Try.f141 3) false) (.seq (.region 4 (rg Try.f141 4) false) (.cond (.tmp 16) (.seq (.region 5 (rg Try.f141 5) false) (.ret)) (.skip))))) (.region 6 (rg Try.f141 6) false))))))) (.seq (.region 7 (rg Try.f141 7) false) (.ret)))) := by kernel_rfl

set_option maxRecDepth 100000 in
set_option maxHeartbeats 8000000 in
theorem IndexR_c (f : FuncId) (caps : List Cap) (p : RowV → Bool) (hf : ∀ x : RowV, Pure Try.prog f ([TV.agg [.s (i6 x.1), .s (bo x.2.1), .s (bo x.2.2)]] ++ List.map capT caps) (vc (bo (p x)))) (l : List RowV) : Pure Try.prog 141 [tc (slR l), TV.c (.fn f caps)] (vc (i6 (Lib.idxS p l))) := by
  refine Pure.of_body Try.func141 f141_body (by kernel_rfl) Try.ntmps141 (by kernel_rfl) (by kernel_rfl) ?_
  refine AMx.sl 0 (l := l) rfl (fun hl => ?_)
  simp only [maxLen] at hl
  refine AMx.seq ?_
  refine AMx.region (ces := []) (ks := [0, 1]) (hs := []) (cs := []) (s' := AS.lst 19 [(0, vc (slR l)), (1, AV.t (TV.c (.fn f caps)))] []) (by kernel_rfl) ?_ ?_
  · exact trivial
  refine AMx.seq ?_
  refine AMx.seq ?_
  refine AMx.region (ces := []) (ks := [0, 1, 7, 8]) (hs := []) (cs := []) (s' := AS.lst 19 [(0, vc (slR l)), (1, AV.t (TV.c (.fn f caps))), (7, vc (i6 (List.length l : Int))), (8, vc (i6 0))] []) (by kernel_rfl) ?_ ?_
  · exact trivial
  refine AMx.block ?_
  refine AMx.ent (s' := AS.lst 19 [(0, vc (slR l)), (1, AV.t (TV.c (.fn f caps))), (7, vc (i6 (List.length l : Int))), (8, vc (i6 0))] []) (ent_proj [0, 1, 7, 8] []) ?_
  refine AMx.loop (fun mm ss => ∃ (k : Nat), (k ≤ l.length ∧ ∀ x ∈ List.take k l, p x = false) ∧ mm = l.length - k ∧ ss = AS.lst 19 [(0, vc (slR l)), (1, AV.t (TV.c (.fn f caps))), (7, vc (i6 (List.length l : Int))), (8, vc (i6 (k : Int)))] []) ⟨0, ?_, rfl, ?_⟩ ?_
  · exact ⟨by omega, fun x hx => by simp at hx⟩
  · rfl
  rintro mm ss ⟨k, ⟨hI, hN⟩, rfl, rfl⟩
  refine AMx.seq ?_
  refine AMx.region (ces := []) (ks := [0, 1, 7, 8, 9]) (hs := []) (cs := []) (s' := AS.lst 19 [(0, vc (slR l)), (1, AV.t (TV.c (.fn f caps))), (7, vc (i6 (List.length l : Int))), (8, vc (i6 (k : Int))), (9, vc (bo (decide ((k : Int) < (List.length l : Int)))))] []) (by kernel_rfl) ?_ ?_
  · exact trivial
  refine AMx.seq ?_
  refine AMx.cond (b := decide ((k : Int) < (List.length l : Int))) (by kernel_rfl) (fun hc1 => ?_) (fun hc1 => ?_)
  · try simp only [decide_eq_true_eq, decide_eq_false_iff_not] at hc1
    refine AMx.skip ?_
    refine AMx.seq ?_
    refine AMx.block ?_
    refine AMx.seq ?_
    refine AMx.region (ces := []) (ks := [0, 1, 5, 7, 8]) (hs := []) (cs := []) (s' := AS.lst 19 [(0, vc (slR l)), (1, AV.t (TV.c (.fn f caps))), (5, vc (i6 (k : Int))), (7, vc (i6 (List.length l : Int))), (8, vc (i6 (k : Int)))] []) (by kernel_rfl) ?_ ?_
    · exact trivial
    refine AMx.seq ?_
    refine AMx.region (ces := [(5, CE.call [] [] (vc (bo (p (List.getD l k (0, false, false))))) [])]) (ks := [0, 1, 5, 7, 8, 16]) (hs := []) (cs := [(0 : Int) ≤ (k : Int), (k : Int) < List.length l, Spec Try.prog f ([TV.agg [.s (i6 ((List.getD l k (0, false, false)).1)), .s (bo ((List.getD l k (0, false, false)).2.1)), .s (bo ((List.getD l k (0, false, false)).2.2))]] ++ List.map capT caps) (ofH []) (vc (bo (p (List.getD l k (0, false, false))))) (ofH [])]) (s' := AS.lst 19 [(0, vc (slR l)), (1, AV.t (TV.c (.fn f caps))), (5, vc (i6 (k : Int))), (7, vc (i6 (List.length l : Int))), (8, vc (i6 (k : Int))), (16, vc (bo (p (List.getD l k (0, false, false)))))] []) (by kernel_rfl) ?_ ?_
    · exact ⟨(show (0 : Int) ≤ (k : Int) from (by omega)), (show (k : Int) < List.length l from (by omega)), (hf (List.getD l k (0, false, false)))⟩
    refine AMx.cond (b := p (List.getD l k (0, false, false))) (by kernel_rfl) (fun hc2 => ?_) (fun hc2 => ?_)
    · try simp only [decide_eq_true_eq, decide_eq_false_iff_not] at hc2
      refine AMx.seq ?_
      refine AMx.region (ces := []) (ks := [4]) (hs := []) (cs := []) (s' := AS.lst 19 [(4, vc (i6 (k : Int)))] []) (by kernel_rfl) ?_ ?_
      · exact trivial
      refine AMx.ret ?_
      exact RetP.mk (r := vc (i6 (k : Int))) (by kernel_rfl) (by rw [Lib.idx_hit (0, false, false) l k (by omega) hN (by assumption)])
    · try simp only [decide_eq_true_eq, decide_eq_false_iff_not] at hc2
      refine AMx.skip ?_
      refine AMx.blk ?_
      refine AMx.region (ces := []) (ks := [0, 1, 7, 8]) (hs := []) (cs := [InR .i64 ((k : Int) + 1)]) (s' := AS.lst 19 [(0, vc (slR l)), (1, AV.t (TV.c (.fn f caps))), (7, vc (i6 (List.length l : Int))), (8, vc (i6 ((k : Int) + 1)))] []) (by kernel_rfl) ?_ ?_
      · exact (show InR .i64 ((k : Int) + 1) from (inR64 (by omega) (by omega)))
      refine AMx.ent_inv (s' := AS.lst 19 [(0, vc (slR l)), (1, AV.t (TV.c (.fn f caps))), (7, vc (i6 (List.length l : Int))), (8, vc (i6 ((k : Int) + 1)))] []) (ent_proj [0, 1, 7, 8] []) ?_
      refine AMx.inv ⟨_, ?_, k + 1, ?_, rfl, ?_⟩
      rotate_left
      · exact ⟨by omega, Lib.all_step (0, false, false) l k (by omega) hN (by assumption)⟩
      · rfl
      · omega
  · try simp only [decide_eq_true_eq, decide_eq_false_iff_not] at hc1
    refine AMx.exit ?_
    refine AMx.code_exit ?_
    refine AMx.inv_exit ?_
    refine AMx.blk_exit ?_
    refine AMx.seq ?_
    refine AMx.region (ces := []) (ks := [4]) (hs := []) (cs := []) (s' := AS.lst 19 [(4, vc (i6 (-1)))] []) (by kernel_rfl) ?_ ?_
    · exact trivial
    refine AMx.ret ?_
    exact RetP.mk (r := vc (i6 (-1))) (by kernel_rfl) (by rw [Lib.idx_none (fun x hx => hN x (by rwa [List.take_of_length_le (by omega)]))])

theorem f112_body : Try.f112.body = some (.seq (.region 0 (rg Try.f112 0) false) (.seq (.seq (.region 1 (rg Try.f112 1) false) (.cond (.tmp 6) (.seq (.region 2 (rg Try.f112 2) false) (.ret)) (.skip))) (.seq (.region 3 (rg Try.f112 3) false) (.ret)))) := by kernel_rfl

set_option maxRecDepth 100000 in
set_option maxHeartbeats 8000000 in
theorem find_c (s : Sec) (n : Int) : Pure Try.prog 112 [TV.agg [.s (i6 s.1), .s (bo s.2.1), .s (i6 s.2.2.1), .s (slR s.2.2.2)], tc (i6 n)] (vc (i6 (findR s n))) := by
  refine Pure.of_body Try.func112 f112_body (by kernel_rfl) Try.ntmps112 (by kernel_rfl) (by kernel_rfl) ?_
  refine AMx.celln 0 3 rfl rfl (fun hl => ?_)
  simp only [maxLen] at hl
  refine AMx.seq ?_
  refine AMx.region (ces := [(1, CE.shr none)]) (ks := [2, 3]) (hs := [2]) (cs := []) (s' := AS.lst 15 [(2, vp 2 0), (3, vc (SC.ref 1 (rl [i6 n])))] [(2, AObj.row [.s (i6 s.1), .s (bo s.2.1), .s (i6 s.2.2.1), .s (slR s.2.2.2)])]) (by kernel_rfl) ?_ ?_
  · exact trivial
  refine AMx.seq ?_
  refine AMx.seq ?_
  refine AMx.region (ces := []) (ks := [2, 3, 6]) (hs := [2]) (cs := []) (s' := AS.lst 15 [(2, vp 2 0), (3, vc (SC.ref 1 (rl [i6 n]))), (6, vc (bo (decide (n = 0))))] [(2, AObj.row [.s (i6 s.1), .s (bo s.2.1), .s (i6 s.2.2.1), .s (slR s.2.2.2)])]) (by kernel_rfl) ?_ ?_
  · exact trivial
  refine AMx.cond (b := decide (n = 0)) (by kernel_rfl) (fun hc1 => ?_) (fun hc1 => ?_)
  · try simp only [decide_eq_true_eq, decide_eq_false_iff_not] at hc1
    refine AMx.seq ?_
    refine AMx.region (ces := []) (ks := [4]) (hs := []) (cs := [InR .i64 ((List.length s.2.2.2 : Int) - 1)]) (s' := AS.lst 15 [(4, vc (i6 ((List.length s.2.2.2 : Int) - 1)))] []) (by kernel_rfl) ?_ ?_
    · exact (show InR .i64 ((List.length s.2.2.2 : Int) - 1) from (inR64 (by omega) (by omega)))
    refine AMx.ret ?_
    exact RetP.mk (r := vc (i6 ((List.length s.2.2.2 : Int) - 1))) (by kernel_rfl) (by rw [show findR s n = (List.length s.2.2.2 : Int) - 1 from by unfold findR; first | rw [if_pos (by assumption)] | rw [if_neg (by assumption)]])
  · try simp only [decide_eq_true_eq, decide_eq_false_iff_not] at hc1
    refine AMx.skip ?_
    refine AMx.seq ?_
    refine AMx.region (ces := [(3, CE.call [] [] (vc (i6 (Lib.idxS (fun x : RowV => decide (x.1 = n)) s.2.2.2))) [])]) (ks := [4]) (hs := []) (cs := [Spec Try.prog 141 [tc (slR s.2.2.2), TV.c (.fn 142 [.s (SC.ref 1 (rl [i6 n]))])] (ofH []) (vc (i6 (Lib.idxS (fun x : RowV => decide (x.1 = n)) s.2.2.2))) (ofH [])]) (s' := AS.lst 15 [(4, vc (i6 (Lib.idxS (fun x : RowV => decide (x.1 = n)) s.2.2.2)))] []) (by kernel_rfl) ?_ ?_
    · exact (IndexR_c 142 [.s (SC.ref 1 (rl [i6 n]))] (fun x : RowV => decide (x.1 = n)) (fun x => findC_c x n) s.2.2.2)
    refine AMx.ret ?_
    exact RetP.mk (r := vc (i6 (Lib.idxS (fun x : RowV => decide (x.1 = n)) s.2.2.2))) (by kernel_rfl) (by rw [show findR s n = Lib.idxS (fun x : RowV => decide (x.1 = n)) s.2.2.2 from by unfold findR; first | rw [if_pos (by assumption)] | rw [if_neg (by assumption)]])

theorem f111_body : Try.f111.body = some (.seq (.region 0 (rg Try.f111 0) false) (.seq (.region 1 (rg Try.f111 1) false) (.ret))) := by kernel_rfl

set_option maxRecDepth 100000 in
set_option maxHeartbeats 8000000 in
theorem loose_c  : Pure Try.prog 111 [] (AV.t (TV.agg [.s (i6 loose.1), .s (bo loose.2)])) := by
  refine Pure.of_body Try.func111 f111_body (by kernel_rfl) Try.ntmps111 (by kernel_rfl) (by kernel_rfl) ?_
  refine AMx.seq ?_
  refine AMx.region (ces := []) (ks := [0]) (hs := [0]) (cs := []) (s' := AS.lst 2 [(0, vp 0 0)] [(0, AObj.row [.s (i6 0), .s (bo false)])]) (by kernel_rfl) ?_ ?_
  · exact trivial
  refine AMx.seq ?_
  refine AMx.region (ces := []) (ks := [0]) (hs := [0]) (cs := []) (s' := AS.lst 2 [(0, vp 0 0)] [(0, AObj.row [.s (i6 6), .s (bo false)])]) (by kernel_rfl) ?_ ?_
  · exact trivial
  refine AMx.ret ?_
  exact RetP.mk (r := AV.t (TV.agg [.s (i6 6), .s (bo false)])) (by kernel_rfl) rfl

theorem f113_body : Try.f113.body = some (.seq (.region 0 (rg Try.f113 0) false) (.seq (.region 1 (rg Try.f113 1) false) (.ret))) := by kernel_rfl

set_option maxRecDepth 100000 in
set_option maxHeartbeats 8000000 in
theorem RLoose_c  : Pure Try.prog 113 [] (AV.t (TV.agg [.s (i6 loose.1), .s (bo loose.2)])) := by
  refine Pure.of_body Try.func113 f113_body (by kernel_rfl) Try.ntmps113 (by kernel_rfl) (by kernel_rfl) ?_
  refine AMx.seq ?_
  refine AMx.region (ces := []) (ks := [0]) (hs := [0]) (cs := []) (s' := AS.lst 2 [(0, vp 0 0)] [(0, AObj.row [.s (i6 0), .s (bo false)])]) (by kernel_rfl) ?_ ?_
  · exact trivial
  refine AMx.seq ?_
  refine AMx.region (ces := []) (ks := [0]) (hs := [0]) (cs := []) (s' := AS.lst 2 [(0, vp 0 0)] [(0, AObj.row [.s (i6 6), .s (bo false)])]) (by kernel_rfl) ?_ ?_
  · exact trivial
  refine AMx.ret ?_
  exact RetP.mk (r := AV.t (TV.agg [.s (i6 6), .s (bo false)])) (by kernel_rfl) rfl

theorem f62_body : Try.f62.body = some (.seq (.region 0 (rg Try.f62 0) false) (.seq (.seq (.region 1 (rg Try.f62 1) true) (.cond (.tmp 11) (.seq (.region 2 (rg Try.f62 2) false) (.ret)) (.skip))) (.seq (.region 3 (rg Try.f62 3) false) (.seq (.seq (.region 4 (rg Try.f62 4) false) (.cond (.tmp 17) (.seq (.region 5 (rg Try.f62 5) false) (.ret)) (.skip))) (.seq (.region 6 (rg Try.f62 6) false) (.seq (.seq (.region 7 (rg Try.f62 7) false) (.cond (.tmp 29) (.seq (.region 8 (rg Try.f62 8) false) (.ret)) (.skip))) (.seq (.region 9 (rg Try.f62 9) false) (.ret)))))))) := by kernel_rfl

set_option maxRecDepth 100000 in
set_option maxHeartbeats 8000000 in
theorem Read_c (s : Sec) (n : Int) : Pure Try.prog 62 [TV.agg [.s (i6 s.1), .s (bo s.2.1), .s (i6 s.2.2.1), .s (slR s.2.2.2)], tc (i6 n)] (AV.tup [TV.agg [.s (i6 (((readS s n).1).1)), .s (bo (((readS s n).1).2.1)), .s (bo (((readS s n).1).2.2))], tc (i6 ((readS s n).2))]) := by
  refine Pure.of_body Try.func62 f62_body (by kernel_rfl) Try.ntmps62 (by kernel_rfl) (by kernel_rfl) ?_
  refine AMx.seq ?_
  refine AMx.region (ces := []) (ks := [1, 2, 4]) (hs := [2, 4]) (cs := []) (s' := AS.lst 32 [(1, vc (i6 n)), (2, vp 2 0), (4, vp 4 0)] [(2, AObj.row [.s (i6 s.1), .s (bo s.2.1), .s (i6 s.2.2.1), .s (slR s.2.2.2)]), (4, AObj.row [.s (i6 0), .s (bo false), .s (bo false)])]) (by kernel_rfl) ?_ ?_
  · exact trivial
  refine AMx.seq ?_
  refine AMx.seq ?_
  refine AMx.region_draw (ces := [(1, CE.call [] [] (AV.t (TV.agg [.s (i6 loose.1), .s (bo loose.2)])) []), (2, CE.call [] [] (vc (i6 (checkS s loose))) [])]) (ros := [(0, [2])]) (ks := [1, 2, 4, 11]) (hs := [2, 4]) (cs := [Spec Try.prog 111 [] (ofH []) (AV.t (TV.agg [.s (i6 loose.1), .s (bo loose.2)])) (ofH []), Spec Try.prog 53 [TV.agg [.s (i6 s.1), .s (bo s.2.1), .s (i6 s.2.2.1), .s (slR s.2.2.2)], TV.agg [.s (i6 loose.1), .s (bo loose.2)]] (ofH []) (vc (i6 (checkS s loose))) (ofH [])]) (s' := AS.lst 32 [(1, vc (i6 n)), (2, vp 2 0), (4, vp 4 0), (11, vc (bo (!decide (checkS s loose = 0))))] [(2, AObj.row [.s (i6 s.1), .s (bo s.2.1), .s (i6 s.2.2.1), .s (slR s.2.2.2)]), (4, AObj.row [.s (i6 0), .s (bo false), .s (bo false)])]) mixed (by kernel_rfl) ?_ ?_
  · exact ⟨(loose_c), (Check_c s loose)⟩
  refine AMx.cond (b := !decide (checkS s loose = 0)) (by kernel_rfl) (fun hc1 => ?_) (fun hc1 => ?_)
  · try simp only [decide_eq_true_eq, decide_eq_false_iff_not, Bool.not_eq_true', Bool.not_eq_false'] at hc1
    refine AMx.seq ?_
    refine AMx.region (ces := []) (ks := [4, 5]) (hs := [4]) (cs := []) (s' := AS.lst 32 [(4, vp 4 0), (5, vc (i6 2))] [(4, AObj.row [.s (i6 0), .s (bo false), .s (bo false)])]) (by kernel_rfl) ?_ ?_
    · exact trivial
    refine AMx.ret ?_
    exact RetP.mk (r := AV.tup [TV.agg [.s (i6 0), .s (bo false), .s (bo false)], tc (i6 2)]) (by kernel_rfl) (by rw [show readS s n = (((0, false, false) : RowV), 2) from by unfold readS; grind])
  · try simp only [decide_eq_true_eq, decide_eq_false_iff_not, Bool.not_eq_true', Bool.not_eq_false'] at hc1
    refine AMx.skip ?_
    refine AMx.seq ?_
    refine AMx.region (ces := [(2, CE.call [] [] (vc (i6 (findR s n))) [])]) (ks := [2, 4, 6]) (hs := [2, 4]) (cs := [Spec Try.prog 112 [TV.agg [.s (i6 s.1), .s (bo s.2.1), .s (i6 s.2.2.1), .s (slR s.2.2.2)], tc (i6 n)] (ofH []) (vc (i6 (findR s n))) (ofH [])]) (s' := AS.lst 32 [(2, vp 2 0), (4, vp 4 0), (6, vc (i6 (findR s n)))] [(2, AObj.row [.s (i6 s.1), .s (bo s.2.1), .s (i6 s.2.2.1), .s (slR s.2.2.2)]), (4, AObj.row [.s (i6 0), .s (bo false), .s (bo false)])]) (by kernel_rfl) ?_ ?_
    · exact (find_c s n)
    refine AMx.seq ?_
    refine AMx.seq ?_
    refine AMx.region (ces := []) (ks := [2, 4, 6, 17]) (hs := [2, 4]) (cs := []) (s' := AS.lst 32 [(2, vp 2 0), (4, vp 4 0), (6, vc (i6 (findR s n))), (17, vc (bo (decide (findR s n < 0))))] [(2, AObj.row [.s (i6 s.1), .s (bo s.2.1), .s (i6 s.2.2.1), .s (slR s.2.2.2)]), (4, AObj.row [.s (i6 0), .s (bo false), .s (bo false)])]) (by kernel_rfl) ?_ ?_
    · exact trivial
    refine AMx.cond (b := decide (findR s n < 0)) (by kernel_rfl) (fun hc2 => ?_) (fun hc2 => ?_)
    · try simp only [decide_eq_true_eq, decide_eq_false_iff_not] at hc2
      refine AMx.seq ?_
      refine AMx.region (ces := []) (ks := [4, 5]) (hs := [4]) (cs := []) (s' := AS.lst 32 [(4, vp 4 0), (5, vc (i6 6))] [(4, AObj.row [.s (i6 0), .s (bo false), .s (bo false)])]) (by kernel_rfl) ?_ ?_
      · exact trivial
      refine AMx.ret ?_
      exact RetP.mk (r := AV.tup [TV.agg [.s (i6 0), .s (bo false), .s (bo false)], tc (i6 6)]) (by kernel_rfl) (by rw [show readS s n = (((0, false, false) : RowV), 6) from by unfold readS; grind])
    · try simp only [decide_eq_true_eq, decide_eq_false_iff_not] at hc2
      refine AMx.skip ?_
      refine AMx.seq ?_
      refine AMx.region (ces := []) (ks := [4, 7]) (hs := [4, 7]) (cs := [(0 : Int) ≤ findR s n, findR s n < List.length s.2.2.2]) (s' := AS.lst 32 [(4, vp 4 0), (7, vp 7 0)] [(4, AObj.row [.s (i6 0), .s (bo false), .s (bo false)]), (7, AObj.row [.s (i6 ((List.getD s.2.2.2 (findR s n).toNat (0, false, false)).1)), .s (bo ((List.getD s.2.2.2 (findR s n).toNat (0, false, false)).2.1)), .s (bo ((List.getD s.2.2.2 (findR s n).toNat (0, false, false)).2.2))])]) (by kernel_rfl) ?_ ?_
      · exact ⟨(show (0 : Int) ≤ findR s n from (by first | omega | (have hf := findR_lt s n; omega))), (show findR s n < List.length s.2.2.2 from (by first | omega | (have hf := findR_lt s n; omega)))⟩
      refine AMx.seq ?_
      refine AMx.seq ?_
      refine AMx.region (ces := []) (ks := [4, 7, 29]) (hs := [4, 7]) (cs := [(((List.getD s.2.2.2 (findR s n).toNat (0, false, false)).2.1) = false) → allP [], (((List.getD s.2.2.2 (findR s n).toNat (0, false, false)).2.1) = false) → allP [((List.getD s.2.2.2 (findR s n).toNat (0, false, false)).2.1) = false], ((List.getD s.2.2.2 (findR s n).toNat (0, false, false)).2.1) = false → allP [((List.getD s.2.2.2 (findR s n).toNat (0, false, false)).2.1) = false]]) (s' := AS.lst 32 [(4, vp 4 0), (7, vp 7 0), (29, vc (bo (((List.getD s.2.2.2 (findR s n).toNat (0, false, false)).2.1) || ((List.getD s.2.2.2 (findR s n).toNat (0, false, false)).2.2))))] [(4, AObj.row [.s (i6 0), .s (bo false), .s (bo false)]), (7, AObj.row [.s (i6 ((List.getD s.2.2.2 (findR s n).toNat (0, false, false)).1)), .s (bo ((List.getD s.2.2.2 (findR s n).toNat (0, false, false)).2.1)), .s (bo ((List.getD s.2.2.2 (findR s n).toNat (0, false, false)).2.2))])]) (by kernel_rfl) ?_ ?_
      · exact ⟨(fun _ => trivial), (fun hp => hp), (fun hp2 => (by first | exact hp2 | exact ⟨hp, hp2⟩))⟩
      refine AMx.cond (b := (((List.getD s.2.2.2 (findR s n).toNat (0, false, false)).2.1) || ((List.getD s.2.2.2 (findR s n).toNat (0, false, false)).2.2))) (by kernel_rfl) (fun hc3 => ?_) (fun hc3 => ?_)
      · try simp only [decide_eq_true_eq, decide_eq_false_iff_not, Bool.or_eq_true, Bool.or_eq_false_iff] at hc3
        refine AMx.seq ?_
        refine AMx.region (ces := []) (ks := [4, 5]) (hs := [4]) (cs := []) (s' := AS.lst 32 [(4, vp 4 0), (5, vc (i6 21))] [(4, AObj.row [.s (i6 ((List.getD s.2.2.2 (findR s n).toNat (0, false, false)).1)), .s (bo ((List.getD s.2.2.2 (findR s n).toNat (0, false, false)).2.1)), .s (bo ((List.getD s.2.2.2 (findR s n).toNat (0, false, false)).2.2))])]) (by kernel_rfl) ?_ ?_
        · exact trivial
        refine AMx.ret ?_
        exact RetP.mk (r := AV.tup [TV.agg [.s (i6 ((List.getD s.2.2.2 (findR s n).toNat (0, false, false)).1)), .s (bo ((List.getD s.2.2.2 (findR s n).toNat (0, false, false)).2.1)), .s (bo ((List.getD s.2.2.2 (findR s n).toNat (0, false, false)).2.2))], tc (i6 21)]) (by kernel_rfl) (by rw [show readS s n = ((List.getD s.2.2.2 (findR s n).toNat (0, false, false)), 21) from by unfold readS; grind])
      · try simp only [decide_eq_true_eq, decide_eq_false_iff_not, Bool.or_eq_true, Bool.or_eq_false_iff] at hc3
        refine AMx.skip ?_
        refine AMx.seq ?_
        refine AMx.region (ces := []) (ks := [4, 5]) (hs := [4]) (cs := []) (s' := AS.lst 32 [(4, vp 4 0), (5, vc (i6 0))] [(4, AObj.row [.s (i6 ((List.getD s.2.2.2 (findR s n).toNat (0, false, false)).1)), .s (bo ((List.getD s.2.2.2 (findR s n).toNat (0, false, false)).2.1)), .s (bo ((List.getD s.2.2.2 (findR s n).toNat (0, false, false)).2.2))])]) (by kernel_rfl) ?_ ?_
        · exact trivial
        refine AMx.ret ?_
        exact RetP.mk (r := AV.tup [TV.agg [.s (i6 ((List.getD s.2.2.2 (findR s n).toNat (0, false, false)).1)), .s (bo ((List.getD s.2.2.2 (findR s n).toNat (0, false, false)).2.1)), .s (bo ((List.getD s.2.2.2 (findR s n).toNat (0, false, false)).2.2))], tc (i6 0)]) (by kernel_rfl) (by rw [show readS s n = ((List.getD s.2.2.2 (findR s n).toNat (0, false, false)), 0) from by unfold readS; grind])

theorem f63_body : Try.f63.body = some (.seq (.region 0 (rg Try.f63 0) false) (.seq (.seq (.region 1 (rg Try.f63 1) true) (.cond (.tmp 11) (.seq (.region 2 (rg Try.f63 2) false) (.ret)) (.skip))) (.seq (.seq (.region 3 (rg Try.f63 3) false) (.block 0 (.loop (.seq (.seq (.region 4 (rg Try.f63 4) false) (.cond (.tmp 17) (.skip) (.exit 0))) (.seq (.block 1 (.seq (.region 6 (rg Try.f63 6) false) (.seq (.region 7 (rg Try.f63 7) false) (.cond (.tmp 40) (.seq (.seq (.region 8 (rg Try.f63 8) false) (.cond (.tmp 46) (.seq (.region 9 (rg Try.f63 9) false) (.ret)) (.skip))) (.seq (.region 10 (rg Try.f63 10) false) (.ret))) (.skip))))) (.region 5 (rg Try.f63 5) false)))))) (.seq (.region 11 (rg Try.f63 11) false) (.ret))))) := by kernel_rfl

set_option maxRecDepth 100000 in
set_option maxHeartbeats 8000000 in
theorem RRead_c (s : Sec) (n : Int) : Pure Try.prog 63 [TV.agg [.s (i6 s.1), .s (bo s.2.1), .s (i6 s.2.2.1), .s (slR s.2.2.2)], tc (i6 n)] (AV.tup [TV.agg [.s (i6 (((readS s n).1).1)), .s (bo (((readS s n).1).2.1)), .s (bo (((readS s n).1).2.2))], tc (i6 ((readS s n).2))]) := by
  refine Pure.of_body Try.func63 f63_body (by kernel_rfl) Try.ntmps63 (by kernel_rfl) (by kernel_rfl) ?_
  refine AMx.celln 0 3 rfl rfl (fun hl => ?_)
  simp only [maxLen] at hl
  refine AMx.seq ?_
  refine AMx.region (ces := []) (ks := [1, 2, 4]) (hs := [2, 4]) (cs := []) (s' := AS.lst 50 [(1, vc (i6 n)), (2, vp 2 0), (4, vp 4 0)] [(2, AObj.row [.s (i6 s.1), .s (bo s.2.1), .s (i6 s.2.2.1), .s (slR s.2.2.2)]), (4, AObj.row [.s (i6 0), .s (bo false), .s (bo false)])]) (by kernel_rfl) ?_ ?_
  · exact trivial
  refine AMx.seq ?_
  refine AMx.seq ?_
  refine AMx.region_draw (ces := [(1, CE.call [] [] (AV.t (TV.agg [.s (i6 loose.1), .s (bo loose.2)])) []), (2, CE.call [] [] (vc (bo (decide (checkS s loose = 0)))) [])]) (ros := [(0, [2])]) (ks := [1, 2, 4, 11]) (hs := [2, 4]) (cs := [Spec Try.prog 113 [] (ofH []) (AV.t (TV.agg [.s (i6 loose.1), .s (bo loose.2)])) (ofH []), Spec Try.prog 52 [TV.agg [.s (i6 s.1), .s (bo s.2.1), .s (i6 s.2.2.1), .s (slR s.2.2.2)], TV.agg [.s (i6 loose.1), .s (bo loose.2)]] (ofH []) (vc (bo (decide (checkS s loose = 0)))) (ofH [])]) (s' := AS.lst 50 [(1, vc (i6 n)), (2, vp 2 0), (4, vp 4 0), (11, vc (bo (!(decide (checkS s loose = 0)))))] [(2, AObj.row [.s (i6 s.1), .s (bo s.2.1), .s (i6 s.2.2.1), .s (slR s.2.2.2)]), (4, AObj.row [.s (i6 0), .s (bo false), .s (bo false)])]) mixed (by kernel_rfl) ?_ ?_
  · exact ⟨(RLoose_c), (May_c s loose)⟩
  refine AMx.cond (b := !(decide (checkS s loose = 0))) (by kernel_rfl) (fun hc1 => ?_) (fun hc1 => ?_)
  · try simp only [decide_eq_true_eq, decide_eq_false_iff_not, Bool.not_eq_true', Bool.not_eq_false'] at hc1
    refine AMx.seq ?_
    refine AMx.region (ces := []) (ks := [4, 5]) (hs := [4]) (cs := []) (s' := AS.lst 50 [(4, vp 4 0), (5, vc (i6 2))] [(4, AObj.row [.s (i6 0), .s (bo false), .s (bo false)])]) (by kernel_rfl) ?_ ?_
    · exact trivial
    refine AMx.ret ?_
    exact RetP.mk (r := AV.tup [TV.agg [.s (i6 0), .s (bo false), .s (bo false)], tc (i6 2)]) (by kernel_rfl) (by rw [show readS s n = (((0, false, false) : RowV), 2) from by first | exact if_pos hc1 | (unfold readS; rw [if_neg (by omega), if_pos (read_miss (by omega) hA h0)]) | exact read_at hc1 (read_hit hc1 (by omega) hA (by assumption)) (by grind)])
  · try simp only [decide_eq_true_eq, decide_eq_false_iff_not, Bool.not_eq_true', Bool.not_eq_false'] at hc1
    refine AMx.skip ?_
    refine AMx.seq ?_
    refine AMx.seq ?_
    refine AMx.region (ces := []) (ks := [1, 2, 4, 6]) (hs := [2, 4]) (cs := []) (s' := AS.lst 50 [(1, vc (i6 n)), (2, vp 2 0), (4, vp 4 0), (6, vc (i6 0))] [(2, AObj.row [.s (i6 s.1), .s (bo s.2.1), .s (i6 s.2.2.1), .s (slR s.2.2.2)]), (4, AObj.row [.s (i6 0), .s (bo false), .s (bo false)])]) (by kernel_rfl) ?_ ?_
    · exact trivial
    refine AMx.block ?_
    refine AMx.ent (s' := AS.lst 50 [(1, vc (i6 n)), (2, vp 2 0), (4, vp 4 0), (6, vc (i6 0))] [(2, AObj.row [.s (i6 s.1), .s (bo s.2.1), .s (i6 s.2.2.1), .s (slR s.2.2.2)]), (4, AObj.row [.s (i6 0), .s (bo false), .s (bo false)])]) (ent_proj [1, 2, 4, 6] [2, 4]) ?_
    refine AMx.loop (fun mm ss => ∃ (i : Nat), (i ≤ s.2.2.2.length ∧ (∀ x ∈ List.take i s.2.2.2, (fun y : RowV => decide (y.1 = n)) x = false) ∧ (n = 0 → i < s.2.2.2.length ∨ s.2.2.2.length = 0)) ∧ mm = s.2.2.2.length - i ∧ ss = AS.lst 50 [(1, vc (i6 n)), (2, vp 2 0), (4, vp 4 0), (6, vc (i6 (i : Int)))] [(2, AObj.row [.s (i6 s.1), .s (bo s.2.1), .s (i6 s.2.2.1), .s (slR s.2.2.2)]), (4, AObj.row [.s (i6 0), .s (bo false), .s (bo false)])]) ⟨0, ?_, rfl, ?_⟩ ?_
    · exact ⟨by omega, fun x hx => by simp at hx, fun _ => by omega⟩
    · rfl
    rintro mm ss ⟨i, ⟨hI, hA, h0⟩, rfl, rfl⟩
    refine AMx.seq ?_
    refine AMx.seq ?_
    refine AMx.region (ces := []) (ks := [1, 2, 4, 6, 17]) (hs := [2, 4]) (cs := []) (s' := AS.lst 50 [(1, vc (i6 n)), (2, vp 2 0), (4, vp 4 0), (6, vc (i6 (i : Int))), (17, vc (bo (decide ((i : Int) < (List.length s.2.2.2 : Int)))))] [(2, AObj.row [.s (i6 s.1), .s (bo s.2.1), .s (i6 s.2.2.1), .s (slR s.2.2.2)]), (4, AObj.row [.s (i6 0), .s (bo false), .s (bo false)])]) (by kernel_rfl) ?_ ?_
    · exact trivial
    refine AMx.cond (b := decide ((i : Int) < (List.length s.2.2.2 : Int))) (by kernel_rfl) (fun hc2 => ?_) (fun hc2 => ?_)
    · try simp only [decide_eq_true_eq, decide_eq_false_iff_not] at hc2
      refine AMx.skip ?_
      refine AMx.seq ?_
      refine AMx.block ?_
      refine AMx.seq ?_
      refine AMx.region (ces := []) (ks := [1, 2, 4, 6, 7]) (hs := [2, 4, 7]) (cs := [(0 : Int) ≤ (i : Int), (i : Int) < List.length s.2.2.2]) (s' := AS.lst 50 [(1, vc (i6 n)), (2, vp 2 0), (4, vp 4 0), (6, vc (i6 (i : Int))), (7, vp 7 0)] [(2, AObj.row [.s (i6 s.1), .s (bo s.2.1), .s (i6 s.2.2.1), .s (slR s.2.2.2)]), (4, AObj.row [.s (i6 0), .s (bo false), .s (bo false)]), (7, AObj.row [.s (i6 ((List.getD s.2.2.2 i (0, false, false)).1)), .s (bo ((List.getD s.2.2.2 i (0, false, false)).2.1)), .s (bo ((List.getD s.2.2.2 i (0, false, false)).2.2))])]) (by kernel_rfl) ?_ ?_
      · exact ⟨(show (0 : Int) ≤ (i : Int) from (by omega)), (show (i : Int) < List.length s.2.2.2 from (by omega))⟩
      refine AMx.seq ?_
      refine AMx.region (ces := []) (ks := [1, 2, 4, 6, 7, 40]) (hs := [2, 4, 7]) (cs := [((decide ((List.getD s.2.2.2 i (0, false, false)).1 = n)) = false) → allP [], ((decide ((List.getD s.2.2.2 i (0, false, false)).1 = n)) = false) → allP [(decide ((List.getD s.2.2.2 i (0, false, false)).1 = n)) = false], ((decide ((List.getD s.2.2.2 i (0, false, false)).1 = n)) = false) → allP [(decide ((List.getD s.2.2.2 i (0, false, false)).1 = n)) = false], (((decide ((List.getD s.2.2.2 i (0, false, false)).1 = n)) = false) ∧ (decide (n = 0)) = true) → allP [], (((decide ((List.getD s.2.2.2 i (0, false, false)).1 = n)) = false) ∧ (decide (n = 0)) = true) → allP [], (((decide ((List.getD s.2.2.2 i (0, false, false)).1 = n)) = false) ∧ (decide (n = 0)) = true) → allP [((decide ((List.getD s.2.2.2 i (0, false, false)).1 = n)) = false) ∧ (decide (n = 0)) = true], (((decide ((List.getD s.2.2.2 i (0, false, false)).1 = n)) = false) ∧ (decide (n = 0)) = true) → allP [((decide ((List.getD s.2.2.2 i (0, false, false)).1 = n)) = false) ∧ (decide (n = 0)) = true], (((decide ((List.getD s.2.2.2 i (0, false, false)).1 = n)) = false) ∧ (decide (n = 0)) = true) → allP [((decide ((List.getD s.2.2.2 i (0, false, false)).1 = n)) = false) ∧ (decide (n = 0)) = true, InR .i64 ((List.length s.2.2.2 : Int) - 1)], (((decide ((List.getD s.2.2.2 i (0, false, false)).1 = n)) = false) ∧ (decide (n = 0)) = true) → allP [((decide ((List.getD s.2.2.2 i (0, false, false)).1 = n)) = false) ∧ (decide (n = 0)) = true, ((decide ((List.getD s.2.2.2 i (0, false, false)).1 = n)) = false) ∧ (decide (n = 0)) = true], ((decide ((List.getD s.2.2.2 i (0, false, false)).1 = n)) = false) → allP [(decide ((List.getD s.2.2.2 i (0, false, false)).1 = n)) = false, (decide (n = 0)) = true → allP [((decide ((List.getD s.2.2.2 i (0, false, false)).1 = n)) = false) ∧ (decide (n = 0)) = true]], (decide ((List.getD s.2.2.2 i (0, false, false)).1 = n)) = false → allP [(decide ((List.getD s.2.2.2 i (0, false, false)).1 = n)) = false]]) (s' := AS.lst 50 [(1, vc (i6 n)), (2, vp 2 0), (4, vp 4 0), (6, vc (i6 (i : Int))), (7, vp 7 0), (40, vc (bo ((decide ((List.getD s.2.2.2 i (0, false, false)).1 = n)) || ((decide (n = 0)) && (decide ((i : Int) = (List.length s.2.2.2 : Int) - 1))))))] [(2, AObj.row [.s (i6 s.1), .s (bo s.2.1), .s (i6 s.2.2.1), .s (slR s.2.2.2)]), (4, AObj.row [.s (i6 0), .s (bo false), .s (bo false)]), (7, AObj.row [.s (i6 ((List.getD s.2.2.2 i (0, false, false)).1)), .s (bo ((List.getD s.2.2.2 i (0, false, false)).2.1)), .s (bo ((List.getD s.2.2.2 i (0, false, false)).2.2))])]) (by kernel_rfl) ?_ ?_
      · exact ⟨(fun _ => trivial), (fun hp => hp), (fun hp => hp), (fun _ => trivial), (fun _ => trivial), (fun hp => hp), (fun hp => hp), (fun hp => by have hq := hp; (try simp only [decide_eq_true_eq, decide_eq_false_iff_not, Bool.and_eq_true, Bool.or_eq_true, Bool.and_eq_false_iff, Bool.or_eq_false_iff, Bool.not_eq_true', Bool.not_eq_false', Bool.not_eq_true, Bool.not_eq_false] at hq); exact ⟨hp, (show InR .i64 ((List.length s.2.2.2 : Int) - 1) from (inR64 (by omega) (by omega)))⟩), (fun hp => ⟨hp, hp⟩), (fun hp => by have hq := hp; (try simp only [decide_eq_true_eq, decide_eq_false_iff_not, Bool.and_eq_true, Bool.or_eq_true, Bool.and_eq_false_iff, Bool.or_eq_false_iff, Bool.not_eq_true', Bool.not_eq_false', Bool.not_eq_true, Bool.not_eq_false] at hq); exact ⟨hp, (fun hp2 => (by first | exact hp2 | exact ⟨hp, hp2⟩))⟩), (fun hp2 => (by first | exact hp2 | exact ⟨hp, hp2⟩))⟩
      refine AMx.cond (b := ((decide ((List.getD s.2.2.2 i (0, false, false)).1 = n)) || ((decide (n = 0)) && (decide ((i : Int) = (List.length s.2.2.2 : Int) - 1))))) (by kernel_rfl) (fun hc3 => ?_) (fun hc3 => ?_)
      · try simp only [decide_eq_true_eq, decide_eq_false_iff_not, Bool.and_eq_true, Bool.and_eq_false_iff, Bool.or_eq_true, Bool.or_eq_false_iff] at hc3
        refine AMx.seq ?_
        refine AMx.seq ?_
        refine AMx.region (ces := []) (ks := [4, 7, 46]) (hs := [4, 7]) (cs := [(((List.getD s.2.2.2 i (0, false, false)).2.1) = false) → allP [], (((List.getD s.2.2.2 i (0, false, false)).2.1) = false) → allP [((List.getD s.2.2.2 i (0, false, false)).2.1) = false], ((List.getD s.2.2.2 i (0, false, false)).2.1) = false → allP [((List.getD s.2.2.2 i (0, false, false)).2.1) = false]]) (s' := AS.lst 50 [(4, vp 4 0), (7, vp 7 0), (46, vc (bo (((List.getD s.2.2.2 i (0, false, false)).2.1) || ((List.getD s.2.2.2 i (0, false, false)).2.2))))] [(4, AObj.row [.s (i6 0), .s (bo false), .s (bo false)]), (7, AObj.row [.s (i6 ((List.getD s.2.2.2 i (0, false, false)).1)), .s (bo ((List.getD s.2.2.2 i (0, false, false)).2.1)), .s (bo ((List.getD s.2.2.2 i (0, false, false)).2.2))])]) (by kernel_rfl) ?_ ?_
        · exact ⟨(fun _ => trivial), (fun hp => hp), (fun hp2 => (by first | exact hp2 | exact ⟨hp, hp2⟩))⟩
        refine AMx.cond (b := (((List.getD s.2.2.2 i (0, false, false)).2.1) || ((List.getD s.2.2.2 i (0, false, false)).2.2))) (by kernel_rfl) (fun hc4 => ?_) (fun hc4 => ?_)
        · try simp only [decide_eq_true_eq, decide_eq_false_iff_not, Bool.or_eq_true, Bool.or_eq_false_iff] at hc4
          refine AMx.seq ?_
          refine AMx.region (ces := []) (ks := [4, 5]) (hs := [4]) (cs := []) (s' := AS.lst 50 [(4, vp 4 0), (5, vc (i6 21))] [(4, AObj.row [.s (i6 ((List.getD s.2.2.2 i (0, false, false)).1)), .s (bo ((List.getD s.2.2.2 i (0, false, false)).2.1)), .s (bo ((List.getD s.2.2.2 i (0, false, false)).2.2))])]) (by kernel_rfl) ?_ ?_
          · exact trivial
          refine AMx.ret ?_
          exact RetP.mk (r := AV.tup [TV.agg [.s (i6 ((List.getD s.2.2.2 i (0, false, false)).1)), .s (bo ((List.getD s.2.2.2 i (0, false, false)).2.1)), .s (bo ((List.getD s.2.2.2 i (0, false, false)).2.2))], tc (i6 21)]) (by kernel_rfl) (by rw [show readS s n = ((List.getD s.2.2.2 i (0, false, false)), 21) from by first | exact if_pos hc1 | (unfold readS; rw [if_neg (by omega), if_pos (read_miss (by omega) hA h0)]) | exact read_at hc1 (read_hit hc1 (by omega) hA (by assumption)) (by grind)])
        · try simp only [decide_eq_true_eq, decide_eq_false_iff_not, Bool.or_eq_true, Bool.or_eq_false_iff] at hc4
          refine AMx.skip ?_
          refine AMx.seq ?_
          refine AMx.region (ces := []) (ks := [4, 5]) (hs := [4]) (cs := []) (s' := AS.lst 50 [(4, vp 4 0), (5, vc (i6 0))] [(4, AObj.row [.s (i6 ((List.getD s.2.2.2 i (0, false, false)).1)), .s (bo ((List.getD s.2.2.2 i (0, false, false)).2.1)), .s (bo ((List.getD s.2.2.2 i (0, false, false)).2.2))])]) (by kernel_rfl) ?_ ?_
          · exact trivial
          refine AMx.ret ?_
          exact RetP.mk (r := AV.tup [TV.agg [.s (i6 ((List.getD s.2.2.2 i (0, false, false)).1)), .s (bo ((List.getD s.2.2.2 i (0, false, false)).2.1)), .s (bo ((List.getD s.2.2.2 i (0, false, false)).2.2))], tc (i6 0)]) (by kernel_rfl) (by rw [show readS s n = ((List.getD s.2.2.2 i (0, false, false)), 0) from by first | exact if_pos hc1 | (unfold readS; rw [if_neg (by omega), if_pos (read_miss (by omega) hA h0)]) | exact read_at hc1 (read_hit hc1 (by omega) hA (by assumption)) (by grind)])
      · try simp only [decide_eq_true_eq, decide_eq_false_iff_not, Bool.and_eq_true, Bool.and_eq_false_iff, Bool.or_eq_true, Bool.or_eq_false_iff] at hc3
        refine AMx.skip ?_
        refine AMx.blk ?_
        refine AMx.region (ces := []) (ks := [1, 2, 4, 6]) (hs := [2, 4]) (cs := [InR .i64 ((i : Int) + 1)]) (s' := AS.lst 50 [(1, vc (i6 n)), (2, vp 2 0), (4, vp 4 0), (6, vc (i6 ((i : Int) + 1)))] [(2, AObj.row [.s (i6 s.1), .s (bo s.2.1), .s (i6 s.2.2.1), .s (slR s.2.2.2)]), (4, AObj.row [.s (i6 0), .s (bo false), .s (bo false)])]) (by kernel_rfl) ?_ ?_
        · exact (show InR .i64 ((i : Int) + 1) from (inR64 (by omega) (by omega)))
        refine AMx.ent_inv (s' := AS.lst 50 [(1, vc (i6 n)), (2, vp 2 0), (4, vp 4 0), (6, vc (i6 ((i : Int) + 1)))] [(2, AObj.row [.s (i6 s.1), .s (bo s.2.1), .s (i6 s.2.2.1), .s (slR s.2.2.2)]), (4, AObj.row [.s (i6 0), .s (bo false), .s (bo false)])]) (ent_proj [1, 2, 4, 6] [2, 4]) ?_
        refine AMx.inv ⟨_, ?_, i + 1, ?_, rfl, ?_⟩
        rotate_left
        · exact ⟨by omega, Lib.all_step (0, false, false) _ i (by omega) hA (decide_eq_false (by grind)), fun h => by grind⟩
        · rfl
        · omega
    · try simp only [decide_eq_true_eq, decide_eq_false_iff_not] at hc2
      refine AMx.exit ?_
      refine AMx.code_exit ?_
      refine AMx.inv_exit ?_
      refine AMx.blk_exit ?_
      refine AMx.seq ?_
      refine AMx.region (ces := []) (ks := [4, 5]) (hs := [4]) (cs := []) (s' := AS.lst 50 [(4, vp 4 0), (5, vc (i6 6))] [(4, AObj.row [.s (i6 0), .s (bo false), .s (bo false)])]) (by kernel_rfl) ?_ ?_
      · exact trivial
      refine AMx.ret ?_
      exact RetP.mk (r := AV.tup [TV.agg [.s (i6 0), .s (bo false), .s (bo false)], tc (i6 6)]) (by kernel_rfl) (by rw [show readS s n = (((0, false, false) : RowV), 6) from by first | exact if_pos hc1 | (unfold readS; rw [if_neg (by omega), if_pos (read_miss (by omega) hA h0)]) | exact read_at hc1 (read_hit hc1 (by omega) hA (by assumption)) (by grind)])

theorem f148_body : Try.f148.body = some (.seq (.region 0 (rg Try.f148 0) false) (.seq (.seq (.region 1 (rg Try.f148 1) false) (.block 0 (.loop (.seq (.region 2 (rg Try.f148 2) false) (.seq (.cond (.tmp 9) (.skip) (.exit 0)) (.seq (.block 1 (.seq (.region 3 (rg Try.f148 3) false) (.seq (.region 4 (rg Try.f148 4) false) (.cond (.tmp 16) (.seq (.region 5 (rg Try.f148 5) false) (.ret)) (.skip))))) (.region 6 (rg Try.f148 6) false))))))) (.seq (.region 7 (rg Try.f148 7) false) (.ret)))) := by kernel_rfl

set_option maxRecDepth 100000 in
set_option maxHeartbeats 8000000 in
theorem IndexI_c (l : List Int) (v : Int) : Pure Try.prog 148 [tc (slI l), tc (i6 v)] (vc (i6 (Lib.idxS (fun y => decide (v = y)) l))) := by
  refine Pure.of_body Try.func148 f148_body (by kernel_rfl) Try.ntmps148 (by kernel_rfl) (by kernel_rfl) ?_
  refine AMx.sl 0 (l := l) rfl (fun hl => ?_)
  simp only [maxLen] at hl
  refine AMx.seq ?_
  refine AMx.region (ces := []) (ks := [0, 1]) (hs := []) (cs := []) (s' := AS.lst 19 [(0, vc (slI l)), (1, vc (i6 v))] []) (by kernel_rfl) ?_ ?_
  · exact trivial
  refine AMx.seq ?_
  refine AMx.seq ?_
  refine AMx.region (ces := []) (ks := [0, 1, 7, 8]) (hs := []) (cs := []) (s' := AS.lst 19 [(0, vc (slI l)), (1, vc (i6 v)), (7, vc (i6 (List.length l : Int))), (8, vc (i6 0))] []) (by kernel_rfl) ?_ ?_
  · exact trivial
  refine AMx.block ?_
  refine AMx.ent (s' := AS.lst 19 [(0, vc (slI l)), (1, vc (i6 v)), (7, vc (i6 (List.length l : Int))), (8, vc (i6 0))] []) (ent_proj [0, 1, 7, 8] []) ?_
  refine AMx.loop (fun mm ss => ∃ (k : Nat), (k ≤ l.length ∧ ∀ x ∈ List.take k l, (fun y => decide (v = y)) x = false) ∧ mm = l.length - k ∧ ss = AS.lst 19 [(0, vc (slI l)), (1, vc (i6 v)), (7, vc (i6 (List.length l : Int))), (8, vc (i6 (k : Int)))] []) ⟨0, ?_, rfl, ?_⟩ ?_
  · exact ⟨by omega, fun x hx => by simp at hx⟩
  · rfl
  rintro mm ss ⟨k, ⟨hI, hN⟩, rfl, rfl⟩
  refine AMx.seq ?_
  refine AMx.region (ces := []) (ks := [0, 1, 7, 8, 9]) (hs := []) (cs := []) (s' := AS.lst 19 [(0, vc (slI l)), (1, vc (i6 v)), (7, vc (i6 (List.length l : Int))), (8, vc (i6 (k : Int))), (9, vc (bo (decide ((k : Int) < (List.length l : Int)))))] []) (by kernel_rfl) ?_ ?_
  · exact trivial
  refine AMx.seq ?_
  refine AMx.cond (b := decide ((k : Int) < (List.length l : Int))) (by kernel_rfl) (fun hc1 => ?_) (fun hc1 => ?_)
  · try simp only [decide_eq_true_eq, decide_eq_false_iff_not] at hc1
    refine AMx.skip ?_
    refine AMx.seq ?_
    refine AMx.block ?_
    refine AMx.seq ?_
    refine AMx.region (ces := []) (ks := [0, 1, 5, 7, 8]) (hs := []) (cs := []) (s' := AS.lst 19 [(0, vc (slI l)), (1, vc (i6 v)), (5, vc (i6 (k : Int))), (7, vc (i6 (List.length l : Int))), (8, vc (i6 (k : Int)))] []) (by kernel_rfl) ?_ ?_
    · exact trivial
    refine AMx.seq ?_
    refine AMx.region (ces := []) (ks := [0, 1, 5, 7, 8, 16]) (hs := []) (cs := [(0 : Int) ≤ (k : Int), (k : Int) < List.length l]) (s' := AS.lst 19 [(0, vc (slI l)), (1, vc (i6 v)), (5, vc (i6 (k : Int))), (7, vc (i6 (List.length l : Int))), (8, vc (i6 (k : Int))), (16, vc (bo (decide (v = (List.getD l k 0)))))] []) (by kernel_rfl) ?_ ?_
    · exact ⟨(show (0 : Int) ≤ (k : Int) from (by omega)), (show (k : Int) < List.length l from (by omega))⟩
    refine AMx.cond (b := decide (v = (List.getD l k 0))) (by kernel_rfl) (fun hc2 => ?_) (fun hc2 => ?_)
    · try simp only [decide_eq_true_eq, decide_eq_false_iff_not] at hc2
      refine AMx.seq ?_
      refine AMx.region (ces := []) (ks := [4]) (hs := []) (cs := []) (s' := AS.lst 19 [(4, vc (i6 (k : Int)))] []) (by kernel_rfl) ?_ ?_
      · exact trivial
      refine AMx.ret ?_
      exact RetP.mk (r := vc (i6 (k : Int))) (by kernel_rfl) (by rw [Lib.idx_hit 0 l k (by omega) hN (decide_eq_true (by assumption))])
    · try simp only [decide_eq_true_eq, decide_eq_false_iff_not] at hc2
      refine AMx.skip ?_
      refine AMx.blk ?_
      refine AMx.region (ces := []) (ks := [0, 1, 7, 8]) (hs := []) (cs := [InR .i64 ((k : Int) + 1)]) (s' := AS.lst 19 [(0, vc (slI l)), (1, vc (i6 v)), (7, vc (i6 (List.length l : Int))), (8, vc (i6 ((k : Int) + 1)))] []) (by kernel_rfl) ?_ ?_
      · exact (show InR .i64 ((k : Int) + 1) from (inR64 (by omega) (by omega)))
      refine AMx.ent_inv (s' := AS.lst 19 [(0, vc (slI l)), (1, vc (i6 v)), (7, vc (i6 (List.length l : Int))), (8, vc (i6 ((k : Int) + 1)))] []) (ent_proj [0, 1, 7, 8] []) ?_
      refine AMx.inv ⟨_, ?_, k + 1, ?_, rfl, ?_⟩
      rotate_left
      · exact ⟨by omega, Lib.all_step 0 l k (by omega) hN (decide_eq_false (by assumption))⟩
      · rfl
      · omega
  · try simp only [decide_eq_true_eq, decide_eq_false_iff_not] at hc1
    refine AMx.exit ?_
    refine AMx.code_exit ?_
    refine AMx.inv_exit ?_
    refine AMx.blk_exit ?_
    refine AMx.seq ?_
    refine AMx.region (ces := []) (ks := [4]) (hs := []) (cs := []) (s' := AS.lst 19 [(4, vc (i6 (-1)))] []) (by kernel_rfl) ?_ ?_
    · exact trivial
    refine AMx.ret ?_
    exact RetP.mk (r := vc (i6 (-1))) (by kernel_rfl) (by rw [Lib.idx_none (fun x hx => hN x (by rwa [List.take_of_length_le (by omega)]))])

theorem f143_body : Try.f143.body = some (.seq (.region 0 (rg Try.f143 0) false) (.seq (.region 1 (rg Try.f143 1) false) (.ret))) := by kernel_rfl

set_option maxRecDepth 100000 in
set_option maxHeartbeats 8000000 in
theorem Contains_c (l : List Int) (v : Int) : Pure Try.prog 143 [tc (slI l), tc (i6 v)] (vc (bo (decide (v ∈ l)))) := by
  refine Pure.of_body Try.func143 f143_body (by kernel_rfl) Try.ntmps143 (by kernel_rfl) (by kernel_rfl) ?_
  refine AMx.seq ?_
  refine AMx.region (ces := []) (ks := [0, 1]) (hs := []) (cs := []) (s' := AS.lst 9 [(0, vc (slI l)), (1, vc (i6 v))] []) (by kernel_rfl) ?_ ?_
  · exact trivial
  refine AMx.seq ?_
  refine AMx.region (ces := [(2, CE.call [] [] (vc (i6 (Lib.idxS (fun y => decide (v = y)) l))) [])]) (ks := [4]) (hs := []) (cs := [Spec Try.prog 148 [tc (slI l), tc (i6 v)] (ofH []) (vc (i6 (Lib.idxS (fun y => decide (v = y)) l))) (ofH [])]) (s' := AS.lst 9 [(4, vc (bo (decide (0 ≤ Lib.idxS (fun y => decide (v = y)) l))))] []) (by kernel_rfl) ?_ ?_
  · exact (IndexI_c l v)
  refine AMx.ret ?_
  exact RetP.mk (r := vc (bo (decide (0 ≤ Lib.idxS (fun y => decide (v = y)) l)))) (by kernel_rfl) (by rw [show decide (v ∈ l) = decide (0 ≤ Lib.idxS (fun y => decide (v = y)) l) from by rw [decide_eq_decide]; exact idx_mem.symm])

theorem f114_body : Try.f114.body = some (.seq (.region 0 (rg Try.f114 0) false) (.seq (.seq (.region 1 (rg Try.f114 1) true) (.cond (.tmp 17) (.seq (.region 2 (rg Try.f114 2) false) (.ret)) (.skip))) (.seq (.seq (.region 3 (rg Try.f114 3) false) (.cond (.tmp 22) (.seq (.region 4 (rg Try.f114 4) false) (.ret)) (.skip))) (.seq (.region 5 (rg Try.f114 5) false) (.seq (.region 6 (rg Try.f114 6) false) (.seq (.seq (.region 7 (rg Try.f114 7) false) (.block 0 (.loop (.seq (.region 8 (rg Try.f114 8) false) (.seq (.cond (.tmp 30) (.skip) (.exit 0)) (.seq (.block 1 (.seq (.region 9 (rg Try.f114 9) false) (.seq (.region 10 (rg Try.f114 10) false) (.seq (.region 11 (rg Try.f114 11) false) (.cond (.tmp 55) (.seq (.region 12 (rg Try.f114 12) false) (.region 13 (rg Try.f114 13) false)) (.skip)))))) (.region 14 (rg Try.f114 14) false))))))) (.seq (.region 15 (rg Try.f114 15) false) (.seq (.region 16 (rg Try.f114 16) false) (.ret))))))))) := by kernel_rfl

set_option maxRecDepth 100000 in
set_option maxHeartbeats 8000000 in
theorem turn_c (f : FuncId) (ch : RowV → RowV) (hf : ∀ x : RowV, Pure Try.prog f [TV.agg [.s (i6 x.1), .s (bo x.2.1), .s (bo x.2.2)]] (AV.t (TV.agg [.s (i6 ((ch x).1)), .s (bo ((ch x).2.1)), .s (bo ((ch x).2.2))]))) (s : Sec) (ns : List Int) (hb : s.2.2.2.length ≤ 1000) : Pure Try.prog 114 [TV.agg [.s (i6 s.1), .s (bo s.2.1), .s (i6 s.2.2.1), .s (slR s.2.2.2)], tc (slI ns), TV.c (.fn f [])] (AV.tup [TV.agg [.s (i6 (((turnSec ch s ns).1).1)), .s (bo (((turnSec ch s ns).1).2.1)), .s (i6 (((turnSec ch s ns).1).2.2.1)), .s (slR (((turnSec ch s ns).1).2.2.2))], tc (slI ((turnSec ch s ns).2.1)), tc (i6 ((turnSec ch s ns).2.2))]) := by
  refine Pure.of_body Try.func114 f114_body (by kernel_rfl) Try.ntmps114 (by kernel_rfl) (by kernel_rfl) ?_
  refine AMx.sl 1 (l := ns) rfl (fun hln => ?_)
  simp only [maxLen] at hln
  refine AMx.seq ?_
  refine AMx.region (ces := []) (ks := [1, 2, 3, 6]) (hs := [3, 6]) (cs := []) (s' := AS.lst 72 [(1, vc (slI ns)), (2, AV.t (TV.c (.fn f []))), (3, vp 3 0), (6, vp 6 0)] [(3, AObj.row [.s (i6 s.1), .s (bo s.2.1), .s (i6 s.2.2.1), .s (slR s.2.2.2)]), (6, AObj.row [.s (i6 0), .s (bo false), .s (i6 0), .s (SC.nilsl)])]) (by kernel_rfl) ?_ ?_
  · exact trivial
  refine AMx.seq ?_
  refine AMx.seq ?_
  refine AMx.region_draw (ces := [(1, CE.call [] [] (AV.t (TV.agg [.s (i6 loose.1), .s (bo loose.2)])) []), (2, CE.call [] [] (vc (i6 (checkS s loose))) [])]) (ros := [(0, [3])]) (ks := [1, 2, 3, 6, 17]) (hs := [3, 6]) (cs := [Spec Try.prog 111 [] (ofH []) (AV.t (TV.agg [.s (i6 loose.1), .s (bo loose.2)])) (ofH []), Spec Try.prog 53 [TV.agg [.s (i6 s.1), .s (bo s.2.1), .s (i6 s.2.2.1), .s (slR s.2.2.2)], TV.agg [.s (i6 loose.1), .s (bo loose.2)]] (ofH []) (vc (i6 (checkS s loose))) (ofH [])]) (s' := AS.lst 72 [(1, vc (slI ns)), (2, AV.t (TV.c (.fn f []))), (3, vp 3 0), (6, vp 6 0), (17, vc (bo (!decide (checkS s loose = 0))))] [(3, AObj.row [.s (i6 s.1), .s (bo s.2.1), .s (i6 s.2.2.1), .s (slR s.2.2.2)]), (6, AObj.row [.s (i6 0), .s (bo false), .s (i6 0), .s (SC.nilsl)])]) mixed (by kernel_rfl) ?_ ?_
  · exact ⟨(loose_c), (Check_c s loose)⟩
  refine AMx.cond (b := !decide (checkS s loose = 0)) (by kernel_rfl) (fun hc1 => ?_) (fun hc1 => ?_)
  · try simp only [decide_eq_true_eq, decide_eq_false_iff_not, Bool.not_eq_true', Bool.not_eq_false'] at hc1
    refine AMx.seq ?_
    refine AMx.region (ces := []) (ks := [6, 7, 8]) (hs := [6]) (cs := []) (s' := AS.lst 72 [(6, vp 6 0), (7, vc (SC.nilsl)), (8, vc (i6 2))] [(6, AObj.row [.s (i6 s.1), .s (bo s.2.1), .s (i6 s.2.2.1), .s (slR s.2.2.2)])]) (by kernel_rfl) ?_ ?_
    · exact trivial
    refine AMx.ent (ent_weak 7 (v' := vc (slI [])) (by kernel_rfl) (AV.le_t (TV.le_c AC.le_nil))) ?_
    refine AMx.ret ?_
    exact RetP.mk (r := AV.tup [TV.agg [.s (i6 s.1), .s (bo s.2.1), .s (i6 s.2.2.1), .s (slR s.2.2.2)], tc (slI []), tc (i6 2)]) (by kernel_rfl) (by rw [show turnSec ch s ns = (s, [], 2) from by first | exact if_pos hc1 | (unfold turnSec; rw [if_neg (by omega), if_pos (List.eq_nil_of_length_eq_zero (by omega))]) | exact turn_fin hc1 (fun e => by rw [e] at hc2; exact hc2 rfl) hT (by omega)])
  · try simp only [decide_eq_true_eq, decide_eq_false_iff_not, Bool.not_eq_true', Bool.not_eq_false'] at hc1
    refine AMx.skip ?_
    refine AMx.seq ?_
    refine AMx.seq ?_
    refine AMx.region (ces := []) (ks := [1, 2, 3, 6, 22]) (hs := [3, 6]) (cs := []) (s' := AS.lst 72 [(1, vc (slI ns)), (2, AV.t (TV.c (.fn f []))), (3, vp 3 0), (6, vp 6 0), (22, vc (bo (decide ((List.length s.2.2.2 : Int) = 0))))] [(3, AObj.row [.s (i6 s.1), .s (bo s.2.1), .s (i6 s.2.2.1), .s (slR s.2.2.2)]), (6, AObj.row [.s (i6 0), .s (bo false), .s (i6 0), .s (SC.nilsl)])]) (by kernel_rfl) ?_ ?_
    · exact trivial
    refine AMx.cond (b := decide ((List.length s.2.2.2 : Int) = 0)) (by kernel_rfl) (fun hc2 => ?_) (fun hc2 => ?_)
    · try simp only [decide_eq_true_eq, decide_eq_false_iff_not] at hc2
      refine AMx.seq ?_
      refine AMx.region (ces := []) (ks := [6, 7, 8]) (hs := [6]) (cs := []) (s' := AS.lst 72 [(6, vp 6 0), (7, vc (SC.nilsl)), (8, vc (i6 6))] [(6, AObj.row [.s (i6 s.1), .s (bo s.2.1), .s (i6 s.2.2.1), .s (slR s.2.2.2)])]) (by kernel_rfl) ?_ ?_
      · exact trivial
      refine AMx.ent (ent_weak 7 (v' := vc (slI [])) (by kernel_rfl) (AV.le_t (TV.le_c AC.le_nil))) ?_
      refine AMx.ret ?_
      exact RetP.mk (r := AV.tup [TV.agg [.s (i6 s.1), .s (bo s.2.1), .s (i6 s.2.2.1), .s (slR s.2.2.2)], tc (slI []), tc (i6 6)]) (by kernel_rfl) (by rw [show turnSec ch s ns = (s, [], 6) from by first | exact if_pos hc1 | (unfold turnSec; rw [if_neg (by omega), if_pos (List.eq_nil_of_length_eq_zero (by omega))]) | exact turn_fin hc1 (fun e => by rw [e] at hc2; exact hc2 rfl) hT (by omega)])
    · try simp only [decide_eq_true_eq, decide_eq_false_iff_not] at hc2
      refine AMx.skip ?_
      refine AMx.seq ?_
      refine AMx.region (ces := [(2, CE.call [] [] (vo 26) [(26, AObj.grow 96 3 RowV (0, false, false) rowR s.2.2.2)])]) (ks := [1, 2, 3, 6, 9]) (hs := [3, 6, 26]) (cs := [Spec Try.prog 107 [tc (slR s.2.2.2)] (ofH []) (vo 26) (ofH [(26, AObj.grow 96 3 RowV (0, false, false) rowR s.2.2.2)])]) (s' := AS.lst 72 [(1, vc (slI ns)), (2, AV.t (TV.c (.fn f []))), (3, vp 3 0), (6, vp 6 0), (9, vo 26)] [(3, AObj.row [.s (i6 s.1), .s (bo s.2.1), .s (i6 s.2.2.1), .s (slR s.2.2.2)]), (6, AObj.row [.s (i6 0), .s (bo false), .s (i6 0), .s (SC.nilsl)]), (26, AObj.grow 96 3 RowV (0, false, false) rowR s.2.2.2)]) (by kernel_rfl) ?_ ?_
      · exact (Clone_c s.2.2.2 (by first | omega | (simp only [List.length_drop, List.length_take, List.length_append, List.length_cons, List.length_nil]; omega) | (omega)) 26)
      refine AMx.seq ?_
      refine AMx.region (ces := []) (ks := [1, 2, 3, 6, 9, 10]) (hs := [3, 6, 26]) (cs := []) (s' := AS.lst 72 [(1, vc (slI ns)), (2, AV.t (TV.c (.fn f []))), (3, vp 3 0), (6, vp 6 0), (9, vo 26), (10, vc (SC.nilsl))] [(3, AObj.row [.s (i6 s.1), .s (bo s.2.1), .s (i6 s.2.2.1), .s (slR s.2.2.2)]), (6, AObj.row [.s (i6 0), .s (bo false), .s (i6 0), .s (SC.nilsl)]), (26, AObj.grow 96 3 RowV (0, false, false) rowR s.2.2.2)]) (by kernel_rfl) ?_ ?_
      · exact trivial
      refine AMx.seq ?_
      refine AMx.seq ?_
      refine AMx.region (ces := []) (ks := [1, 2, 3, 6, 9, 10, 27, 28, 29]) (hs := [3, 6, 26]) (cs := []) (s' := AS.lst 72 [(1, vc (slI ns)), (2, AV.t (TV.c (.fn f []))), (3, vp 3 0), (6, vp 6 0), (9, vo 26), (10, vc (SC.nilsl)), (27, vo 26), (28, vc (i6 (List.length s.2.2.2 : Int))), (29, vc (i6 0))] [(3, AObj.row [.s (i6 s.1), .s (bo s.2.1), .s (i6 s.2.2.1), .s (slR s.2.2.2)]), (6, AObj.row [.s (i6 0), .s (bo false), .s (i6 0), .s (SC.nilsl)]), (26, AObj.grow 96 3 RowV (0, false, false) rowR s.2.2.2)]) (by kernel_rfl) ?_ ?_
      · exact trivial
      refine AMx.block ?_
      refine AMx.ent (s' := AS.lst 72 [(1, vc (slI ns)), (2, AV.t (TV.c (.fn f []))), (3, vp 3 0), (6, vp 6 0), (9, vo 26), (10, vo 10), (27, vo 26), (28, vc (i6 (List.length s.2.2.2 : Int))), (29, vc (i6 0))] [(10, AObj.grow 3 1 Int 0 rowI []), (3, AObj.row [.s (i6 s.1), .s (bo s.2.1), .s (i6 s.2.2.1), .s (slR s.2.2.2)]), (6, AObj.row [.s (i6 0), .s (bo false), .s (i6 0), .s (SC.nilsl)]), (26, AObj.grow 96 3 RowV (0, false, false) rowR s.2.2.2)]) (ent_adopt (t := 10) (d := 10) 3 1 Int 0 rowI (by kernel_rfl) (by kernel_rfl) (by kernel_rfl) (by kernel_rfl)) ?_
      refine AMx.ent (s' := AS.lst 72 [(1, vc (slI ns)), (2, AV.t (TV.c (.fn f []))), (3, vp 3 0), (6, vp 6 0), (9, vo 26), (10, vo 10), (27, vo 26), (28, vc (i6 (List.length s.2.2.2 : Int))), (29, vc (i6 0))] [(3, AObj.row [.s (i6 s.1), .s (bo s.2.1), .s (i6 s.2.2.1), .s (slR s.2.2.2)]), (6, AObj.row [.s (i6 0), .s (bo false), .s (i6 0), .s (SC.nilsl)]), (10, AObj.grow 3 1 Int 0 rowI []), (26, AObj.grow 96 3 RowV (0, false, false) rowR s.2.2.2)]) (ent_proj [1, 2, 3, 6, 9, 10, 27, 28, 29] [3, 6, 10, 26]) ?_
      refine AMx.loop (fun mm ss => ∃ (k : Nat) (pre : List RowV) (o : List Int), (k ≤ s.2.2.2.length ∧ TurnI ch ns s.2.2.2 k pre o) ∧ mm = s.2.2.2.length - k ∧ ss = AS.lst 72 [(1, vc (slI ns)), (2, AV.t (TV.c (.fn f []))), (3, vp 3 0), (6, vp 6 0), (9, vo 26), (10, vo 10), (27, vo 26), (28, vc (i6 (List.length s.2.2.2 : Int))), (29, vc (i6 (k : Int)))] [(3, AObj.row [.s (i6 s.1), .s (bo s.2.1), .s (i6 s.2.2.1), .s (slR s.2.2.2)]), (6, AObj.row [.s (i6 0), .s (bo false), .s (i6 0), .s (SC.nilsl)]), (10, AObj.grow 3 1 Int 0 rowI o), (26, AObj.grow 96 3 RowV (0, false, false) rowR (pre ++ List.drop k s.2.2.2))]) ⟨0, [], [], ?_, rfl, ?_⟩ ?_
      · exact ⟨by omega, turn_start ch ns _⟩
      · rfl
      rintro mm ss ⟨k, pre, o, ⟨hI, hT⟩, rfl, rfl⟩
      have hx : List.getD (pre ++ List.drop k s.2.2.2) k (0, false, false) = List.getD s.2.2.2 k (0, false, false) := pre_get hT.1
      have hl : (List.length (pre ++ List.drop k s.2.2.2) : Int) = (s.2.2.2.length : Nat) := by rw [pre_len hT.1 hI]
      refine AMx.seq ?_
      refine AMx.region (ces := []) (ks := [1, 2, 3, 6, 9, 10, 27, 28, 29, 30]) (hs := [3, 6, 10, 26]) (cs := []) (s' := AS.lst 72 [(1, vc (slI ns)), (2, AV.t (TV.c (.fn f []))), (3, vp 3 0), (6, vp 6 0), (9, vo 26), (10, vo 10), (27, vo 26), (28, vc (i6 (List.length s.2.2.2 : Int))), (29, vc (i6 (k : Int))), (30, vc (bo (decide ((k : Int) < (List.length s.2.2.2 : Int)))))] [(3, AObj.row [.s (i6 s.1), .s (bo s.2.1), .s (i6 s.2.2.1), .s (slR s.2.2.2)]), (6, AObj.row [.s (i6 0), .s (bo false), .s (i6 0), .s (SC.nilsl)]), (10, AObj.grow 3 1 Int 0 rowI o), (26, AObj.grow 96 3 RowV (0, false, false) rowR (pre ++ List.drop k s.2.2.2))]) (by kernel_rfl) ?_ ?_
      · exact trivial
      refine AMx.seq ?_
      refine AMx.cond (b := decide ((k : Int) < (List.length s.2.2.2 : Int))) (by kernel_rfl) (fun hc3 => ?_) (fun hc3 => ?_)
      · try simp only [decide_eq_true_eq, decide_eq_false_iff_not] at hc3
        refine AMx.skip ?_
        refine AMx.seq ?_
        refine AMx.block ?_
        refine AMx.seq ?_
        refine AMx.region (ces := []) (ks := [1, 2, 3, 6, 9, 10, 11, 12, 27, 28, 29]) (hs := [3, 6, 10, 12, 26]) (cs := [(0 : Int) ≤ (k : Int), (k : Int) < List.length (pre ++ List.drop k s.2.2.2 : List RowV), k < List.length (pre ++ List.drop k s.2.2.2 : List RowV)]) (s' := AS.lst 72 [(1, vc (slI ns)), (2, AV.t (TV.c (.fn f []))), (3, vp 3 0), (6, vp 6 0), (9, vo 26), (10, vo 10), (11, vc (i6 (k : Int))), (12, vp 12 0), (27, vo 26), (28, vc (i6 (List.length s.2.2.2 : Int))), (29, vc (i6 (k : Int)))] [(3, AObj.row [.s (i6 s.1), .s (bo s.2.1), .s (i6 s.2.2.1), .s (slR s.2.2.2)]), (6, AObj.row [.s (i6 0), .s (bo false), .s (i6 0), .s (SC.nilsl)]), (10, AObj.grow 3 1 Int 0 rowI o), (12, AObj.row [.s (i6 ((List.getD (pre ++ List.drop k s.2.2.2) k (0, false, false)).1)), .s (bo ((List.getD (pre ++ List.drop k s.2.2.2) k (0, false, false)).2.1)), .s (bo ((List.getD (pre ++ List.drop k s.2.2.2) k (0, false, false)).2.2))]), (26, AObj.grow 96 3 RowV (0, false, false) rowR (pre ++ List.drop k s.2.2.2))]) (by kernel_rfl) ?_ ?_
        · exact ⟨(show (0 : Int) ≤ (k : Int) from (by omega)), (show (k : Int) < List.length (pre ++ List.drop k s.2.2.2 : List RowV) from (by omega)), (show k < List.length (pre ++ List.drop k s.2.2.2 : List RowV) from (by omega))⟩
        refine AMx.seq ?_
        refine AMx.region (ces := [(3, CE.call [] [] (vc (bo (decide ((List.getD (pre ++ List.drop k s.2.2.2) k (0, false, false)).1 ∈ ns)))) [])]) (ks := [1, 2, 3, 6, 9, 10, 11, 12, 13, 27, 28, 29]) (hs := [3, 6, 10, 12, 26]) (cs := [Spec Try.prog 143 [tc (slI ns), tc (i6 ((List.getD (pre ++ List.drop k s.2.2.2) k (0, false, false)).1))] (ofH []) (vc (bo (decide ((List.getD (pre ++ List.drop k s.2.2.2) k (0, false, false)).1 ∈ ns)))) (ofH []), ((decide ((List.getD (pre ++ List.drop k s.2.2.2) k (0, false, false)).1 ∈ ns)) = false) → allP [], ((decide ((List.getD (pre ++ List.drop k s.2.2.2) k (0, false, false)).1 ∈ ns)) = false) → allP [(decide ((List.getD (pre ++ List.drop k s.2.2.2) k (0, false, false)).1 ∈ ns)) = false], ((decide ((List.getD (pre ++ List.drop k s.2.2.2) k (0, false, false)).1 ∈ ns)) = false) → allP [(decide ((List.getD (pre ++ List.drop k s.2.2.2) k (0, false, false)).1 ∈ ns)) = false], ((decide ((List.getD (pre ++ List.drop k s.2.2.2) k (0, false, false)).1 ∈ ns)) = false) → allP [(decide ((List.getD (pre ++ List.drop k s.2.2.2) k (0, false, false)).1 ∈ ns)) = false], (((decide ((List.getD (pre ++ List.drop k s.2.2.2) k (0, false, false)).1 ∈ ns)) = false) ∧ (decide ((List.length ns : Int) = 0)) = true) → allP [], (((decide ((List.getD (pre ++ List.drop k s.2.2.2) k (0, false, false)).1 ∈ ns)) = false) ∧ (decide ((List.length ns : Int) = 0)) = true) → allP [], (((decide ((List.getD (pre ++ List.drop k s.2.2.2) k (0, false, false)).1 ∈ ns)) = false) ∧ (decide ((List.length ns : Int) = 0)) = true) → allP [((decide ((List.getD (pre ++ List.drop k s.2.2.2) k (0, false, false)).1 ∈ ns)) = false) ∧ (decide ((List.length ns : Int) = 0)) = true], (((decide ((List.getD (pre ++ List.drop k s.2.2.2) k (0, false, false)).1 ∈ ns)) = false) ∧ (decide ((List.length ns : Int) = 0)) = true) → allP [((decide ((List.getD (pre ++ List.drop k s.2.2.2) k (0, false, false)).1 ∈ ns)) = false) ∧ (decide ((List.length ns : Int) = 0)) = true, InR .i64 ((List.length (pre ++ List.drop k s.2.2.2 : List RowV) : Int) - 1)], (((decide ((List.getD (pre ++ List.drop k s.2.2.2) k (0, false, false)).1 ∈ ns)) = false) ∧ (decide ((List.length ns : Int) = 0)) = true) → allP [((decide ((List.getD (pre ++ List.drop k s.2.2.2) k (0, false, false)).1 ∈ ns)) = false) ∧ (decide ((List.length ns : Int) = 0)) = true, ((decide ((List.getD (pre ++ List.drop k s.2.2.2) k (0, false, false)).1 ∈ ns)) = false) ∧ (decide ((List.length ns : Int) = 0)) = true], ((decide ((List.getD (pre ++ List.drop k s.2.2.2) k (0, false, false)).1 ∈ ns)) = false) → allP [(decide ((List.getD (pre ++ List.drop k s.2.2.2) k (0, false, false)).1 ∈ ns)) = false, (decide ((List.length ns : Int) = 0)) = true → allP [((decide ((List.getD (pre ++ List.drop k s.2.2.2) k (0, false, false)).1 ∈ ns)) = false) ∧ (decide ((List.length ns : Int) = 0)) = true]], (decide ((List.getD (pre ++ List.drop k s.2.2.2) k (0, false, false)).1 ∈ ns)) = false → allP [(decide ((List.getD (pre ++ List.drop k s.2.2.2) k (0, false, false)).1 ∈ ns)) = false]]) (s' := AS.lst 72 [(1, vc (slI ns)), (2, AV.t (TV.c (.fn f []))), (3, vp 3 0), (6, vp 6 0), (9, vo 26), (10, vo 10), (11, vc (i6 (k : Int))), (12, vp 12 0), (13, vc (bo ((decide ((List.getD (pre ++ List.drop k s.2.2.2) k (0, false, false)).1 ∈ ns)) || ((decide ((List.length ns : Int) = 0)) && (decide ((k : Int) = (List.length (pre ++ List.drop k s.2.2.2 : List RowV) : Int) - 1)))))), (27, vo 26), (28, vc (i6 (List.length s.2.2.2 : Int))), (29, vc (i6 (k : Int)))] [(3, AObj.row [.s (i6 s.1), .s (bo s.2.1), .s (i6 s.2.2.1), .s (slR s.2.2.2)]), (6, AObj.row [.s (i6 0), .s (bo false), .s (i6 0), .s (SC.nilsl)]), (10, AObj.grow 3 1 Int 0 rowI o), (12, AObj.row [.s (i6 ((List.getD (pre ++ List.drop k s.2.2.2) k (0, false, false)).1)), .s (bo ((List.getD (pre ++ List.drop k s.2.2.2) k (0, false, false)).2.1)), .s (bo ((List.getD (pre ++ List.drop k s.2.2.2) k (0, false, false)).2.2))]), (26, AObj.grow 96 3 RowV (0, false, false) rowR (pre ++ List.drop k s.2.2.2))]) (by kernel_rfl) ?_ ?_
        · exact ⟨(Contains_c ns ((List.getD (pre ++ List.drop k s.2.2.2) k (0, false, false)).1)), (fun _ => trivial), (fun hp => hp), (fun hp => hp), (fun hp => hp), (fun _ => trivial), (fun _ => trivial), (fun hp => hp), (fun hp => by have hq := hp; (try simp only [decide_eq_true_eq, decide_eq_false_iff_not, Bool.and_eq_true, Bool.or_eq_true, Bool.and_eq_false_iff, Bool.or_eq_false_iff, Bool.not_eq_true', Bool.not_eq_false', Bool.not_eq_true, Bool.not_eq_false] at hq); exact ⟨hp, (show InR .i64 ((List.length (pre ++ List.drop k s.2.2.2 : List RowV) : Int) - 1) from (inR64 (by omega) (by omega)))⟩), (fun hp => ⟨hp, hp⟩), (fun hp => by have hq := hp; (try simp only [decide_eq_true_eq, decide_eq_false_iff_not, Bool.and_eq_true, Bool.or_eq_true, Bool.and_eq_false_iff, Bool.or_eq_false_iff, Bool.not_eq_true', Bool.not_eq_false', Bool.not_eq_true, Bool.not_eq_false] at hq); exact ⟨hp, (fun hp2 => (by first | exact hp2 | exact ⟨hp, hp2⟩))⟩), (fun hp2 => (by first | exact hp2 | exact ⟨hp, hp2⟩))⟩
        refine AMx.seq ?_
        refine AMx.region (ces := []) (ks := [1, 2, 3, 6, 9, 10, 11, 12, 27, 28, 29, 55]) (hs := [3, 6, 10, 12, 26]) (cs := [(((decide ((List.getD (pre ++ List.drop k s.2.2.2) k (0, false, false)).1 ∈ ns)) || ((decide ((List.length ns : Int) = 0)) && (decide ((k : Int) = (List.length (pre ++ List.drop k s.2.2.2 : List RowV) : Int) - 1)))) = true) → allP [], (((decide ((List.getD (pre ++ List.drop k s.2.2.2) k (0, false, false)).1 ∈ ns)) || ((decide ((List.length ns : Int) = 0)) && (decide ((k : Int) = (List.length (pre ++ List.drop k s.2.2.2 : List RowV) : Int) - 1)))) = true) → allP [((decide ((List.getD (pre ++ List.drop k s.2.2.2) k (0, false, false)).1 ∈ ns)) || ((decide ((List.length ns : Int) = 0)) && (decide ((k : Int) = (List.length (pre ++ List.drop k s.2.2.2 : List RowV) : Int) - 1)))) = true], (((decide ((List.getD (pre ++ List.drop k s.2.2.2) k (0, false, false)).1 ∈ ns)) || ((decide ((List.length ns : Int) = 0)) && (decide ((k : Int) = (List.length (pre ++ List.drop k s.2.2.2 : List RowV) : Int) - 1)))) = true) → allP [((decide ((List.getD (pre ++ List.drop k s.2.2.2) k (0, false, false)).1 ∈ ns)) || ((decide ((List.length ns : Int) = 0)) && (decide ((k : Int) = (List.length (pre ++ List.drop k s.2.2.2 : List RowV) : Int) - 1)))) = true], ((decide ((List.getD (pre ++ List.drop k s.2.2.2) k (0, false, false)).1 ∈ ns)) || ((decide ((List.length ns : Int) = 0)) && (decide ((k : Int) = (List.length (pre ++ List.drop k s.2.2.2 : List RowV) : Int) - 1)))) = true → allP [((decide ((List.getD (pre ++ List.drop k s.2.2.2) k (0, false, false)).1 ∈ ns)) || ((decide ((List.length ns : Int) = 0)) && (decide ((k : Int) = (List.length (pre ++ List.drop k s.2.2.2 : List RowV) : Int) - 1)))) = true]]) (s' := AS.lst 72 [(1, vc (slI ns)), (2, AV.t (TV.c (.fn f []))), (3, vp 3 0), (6, vp 6 0), (9, vo 26), (10, vo 10), (11, vc (i6 (k : Int))), (12, vp 12 0), (27, vo 26), (28, vc (i6 (List.length s.2.2.2 : Int))), (29, vc (i6 (k : Int))), (55, vc (bo (((decide ((List.getD (pre ++ List.drop k s.2.2.2) k (0, false, false)).1 ∈ ns)) || ((decide ((List.length ns : Int) = 0)) && (decide ((k : Int) = (List.length (pre ++ List.drop k s.2.2.2 : List RowV) : Int) - 1)))) && (!((List.getD (pre ++ List.drop k s.2.2.2) k (0, false, false)).2.2)))))] [(3, AObj.row [.s (i6 s.1), .s (bo s.2.1), .s (i6 s.2.2.1), .s (slR s.2.2.2)]), (6, AObj.row [.s (i6 0), .s (bo false), .s (i6 0), .s (SC.nilsl)]), (10, AObj.grow 3 1 Int 0 rowI o), (12, AObj.row [.s (i6 ((List.getD (pre ++ List.drop k s.2.2.2) k (0, false, false)).1)), .s (bo ((List.getD (pre ++ List.drop k s.2.2.2) k (0, false, false)).2.1)), .s (bo ((List.getD (pre ++ List.drop k s.2.2.2) k (0, false, false)).2.2))]), (26, AObj.grow 96 3 RowV (0, false, false) rowR (pre ++ List.drop k s.2.2.2))]) (by kernel_rfl) ?_ ?_
        · exact ⟨(fun _ => trivial), (fun hp => hp), (fun hp => hp), (fun hp2 => (by first | exact hp2 | exact ⟨hp, hp2⟩))⟩
        refine AMx.cond (b := (((decide ((List.getD (pre ++ List.drop k s.2.2.2) k (0, false, false)).1 ∈ ns)) || ((decide ((List.length ns : Int) = 0)) && (decide ((k : Int) = (List.length (pre ++ List.drop k s.2.2.2 : List RowV) : Int) - 1)))) && (!((List.getD (pre ++ List.drop k s.2.2.2) k (0, false, false)).2.2)))) (by kernel_rfl) (fun hc4 => ?_) (fun hc4 => ?_)
        · try simp only [decide_eq_true_eq, decide_eq_false_iff_not, Bool.and_eq_true, Bool.and_eq_false_iff, Bool.or_eq_true, Bool.or_eq_false_iff, Bool.not_eq_true', Bool.not_eq_false'] at hc4
          refine AMx.seq ?_
          refine AMx.region (ces := [(4, CE.call [] [] (AV.t (TV.agg [.s (i6 ((ch (List.getD (pre ++ List.drop k s.2.2.2) k (0, false, false))).1)), .s (bo ((ch (List.getD (pre ++ List.drop k s.2.2.2) k (0, false, false))).2.1)), .s (bo ((ch (List.getD (pre ++ List.drop k s.2.2.2) k (0, false, false))).2.2))])) []), (6, CE.obj (AObj.grow 96 3 RowV (0, false, false) rowR (List.set (pre ++ List.drop k s.2.2.2) k (ch (List.getD (pre ++ List.drop k s.2.2.2) k (0, false, false))))))]) (ks := [1, 2, 3, 6, 9, 10, 12, 27, 28, 29]) (hs := [3, 6, 10, 12, 26]) (cs := [Spec Try.prog f [TV.agg [.s (i6 ((List.getD (pre ++ List.drop k s.2.2.2) k (0, false, false)).1)), .s (bo ((List.getD (pre ++ List.drop k s.2.2.2) k (0, false, false)).2.1)), .s (bo ((List.getD (pre ++ List.drop k s.2.2.2) k (0, false, false)).2.2))]] (ofH []) (AV.t (TV.agg [.s (i6 ((ch (List.getD (pre ++ List.drop k s.2.2.2) k (0, false, false))).1)), .s (bo ((ch (List.getD (pre ++ List.drop k s.2.2.2) k (0, false, false))).2.1)), .s (bo ((ch (List.getD (pre ++ List.drop k s.2.2.2) k (0, false, false))).2.2))])) (ofH []), (0 : Int) ≤ (k : Int), (k : Int) < List.length (pre ++ List.drop k s.2.2.2 : List RowV), StoreC k 0 [.s (i6 ((ch (List.getD (pre ++ List.drop k s.2.2.2) k (0, false, false))).1)), .s (bo ((ch (List.getD (pre ++ List.drop k s.2.2.2) k (0, false, false))).2.1)), .s (bo ((ch (List.getD (pre ++ List.drop k s.2.2.2) k (0, false, false))).2.2))] (AObj.grow 96 3 RowV (0, false, false) rowR (pre ++ List.drop k s.2.2.2)) (AObj.grow 96 3 RowV (0, false, false) rowR (List.set (pre ++ List.drop k s.2.2.2) k (ch (List.getD (pre ++ List.drop k s.2.2.2) k (0, false, false)))))]) (s' := AS.lst 72 [(1, vc (slI ns)), (2, AV.t (TV.c (.fn f []))), (3, vp 3 0), (6, vp 6 0), (9, vo 26), (10, vo 10), (12, vp 12 0), (27, vo 26), (28, vc (i6 (List.length s.2.2.2 : Int))), (29, vc (i6 (k : Int)))] [(3, AObj.row [.s (i6 s.1), .s (bo s.2.1), .s (i6 s.2.2.1), .s (slR s.2.2.2)]), (6, AObj.row [.s (i6 0), .s (bo false), .s (i6 0), .s (SC.nilsl)]), (10, AObj.grow 3 1 Int 0 rowI o), (12, AObj.row [.s (i6 ((List.getD (pre ++ List.drop k s.2.2.2) k (0, false, false)).1)), .s (bo ((List.getD (pre ++ List.drop k s.2.2.2) k (0, false, false)).2.1)), .s (bo ((List.getD (pre ++ List.drop k s.2.2.2) k (0, false, false)).2.2))]), (26, AObj.grow 96 3 RowV (0, false, false) rowR (List.set (pre ++ List.drop k s.2.2.2) k (ch (List.getD (pre ++ List.drop k s.2.2.2) k (0, false, false)))))]) (by kernel_rfl) ?_ ?_
          · exact ⟨(hf (List.getD (pre ++ List.drop k s.2.2.2) k (0, false, false))), (show (0 : Int) ≤ (k : Int) from (by omega)), (show (k : Int) < List.length (pre ++ List.drop k s.2.2.2 : List RowV) from (by omega)), (⟨(ch (List.getD (pre ++ List.drop k s.2.2.2) k (0, false, false))), rfl, by omega, rfl⟩)⟩
          refine AMx.region (ces := [(3, CE.obj (AObj.grow 3 1 Int 0 rowI [(List.getD (pre ++ List.drop k s.2.2.2) k (0, false, false)).1])), (4, CE.obj (AObj.grow 3 1 Int 0 rowI (o ++ [(List.getD (pre ++ List.drop k s.2.2.2) k (0, false, false)).1])))]) (ks := [1, 2, 3, 6, 9, 10, 27, 28, 29]) (hs := [3, 6, 26, 66]) (cs := [flat 1 rowI [(List.getD (pre ++ List.drop k s.2.2.2) k (0, false, false)).1] = [.s (i6 ((List.getD (pre ++ List.drop k s.2.2.2) k (0, false, false)).1))], List.length ([(List.getD (pre ++ List.drop k s.2.2.2) k (0, false, false)).1] : List Int) = 1, AppC (flat 1 rowI [(List.getD (pre ++ List.drop k s.2.2.2) k (0, false, false)).1]) (List.length ([(List.getD (pre ++ List.drop k s.2.2.2) k (0, false, false)).1] : List Int)) 8 (AObj.grow 3 1 Int 0 rowI o) (AObj.grow 3 1 Int 0 rowI (o ++ [(List.getD (pre ++ List.drop k s.2.2.2) k (0, false, false)).1]))]) (s' := AS.lst 72 [(1, vc (slI ns)), (2, AV.t (TV.c (.fn f []))), (3, vp 3 0), (6, vp 6 0), (9, vo 26), (10, vo 66), (27, vo 26), (28, vc (i6 (List.length s.2.2.2 : Int))), (29, vc (i6 (k : Int)))] [(3, AObj.row [.s (i6 s.1), .s (bo s.2.1), .s (i6 s.2.2.1), .s (slR s.2.2.2)]), (6, AObj.row [.s (i6 0), .s (bo false), .s (i6 0), .s (SC.nilsl)]), (26, AObj.grow 96 3 RowV (0, false, false) rowR (List.set (pre ++ List.drop k s.2.2.2) k (ch (List.getD (pre ++ List.drop k s.2.2.2) k (0, false, false))))), (66, AObj.grow 3 1 Int 0 rowI (o ++ [(List.getD (pre ++ List.drop k s.2.2.2) k (0, false, false)).1]))]) (by kernel_rfl) ?_ ?_
          · exact ⟨rfl, rfl, (⟨_, rfl, rfl, rfl, by have := hT.2.1; simp only [List.length_cons, List.length_nil]; omega, by have := hT.2.1; simp only [maxLen, List.length_cons, List.length_nil]; omega⟩)⟩
          refine AMx.blk ?_
          refine AMx.region (ces := []) (ks := [1, 2, 3, 6, 9, 10, 27, 28, 29]) (hs := [3, 6, 26, 66]) (cs := [InR .i64 ((k : Int) + 1)]) (s' := AS.lst 72 [(1, vc (slI ns)), (2, AV.t (TV.c (.fn f []))), (3, vp 3 0), (6, vp 6 0), (9, vo 26), (10, vo 66), (27, vo 26), (28, vc (i6 (List.length s.2.2.2 : Int))), (29, vc (i6 ((k : Int) + 1)))] [(3, AObj.row [.s (i6 s.1), .s (bo s.2.1), .s (i6 s.2.2.1), .s (slR s.2.2.2)]), (6, AObj.row [.s (i6 0), .s (bo false), .s (i6 0), .s (SC.nilsl)]), (26, AObj.grow 96 3 RowV (0, false, false) rowR (List.set (pre ++ List.drop k s.2.2.2) k (ch (List.getD (pre ++ List.drop k s.2.2.2) k (0, false, false))))), (66, AObj.grow 3 1 Int 0 rowI (o ++ [(List.getD (pre ++ List.drop k s.2.2.2) k (0, false, false)).1]))]) (by kernel_rfl) ?_ ?_
          · exact (show InR .i64 ((k : Int) + 1) from (inR64 (by omega) (by omega)))
          refine AMx.ent_inv (s' := AS.lst 72 [(1, vc (slI ns)), (2, AV.t (TV.c (.fn f []))), (3, vp 3 0), (6, vp 6 0), (9, vo 26), (10, vo 10), (27, vo 26), (28, vc (i6 (List.length s.2.2.2 : Int))), (29, vc (i6 ((k : Int) + 1)))] [(3, AObj.row [.s (i6 s.1), .s (bo s.2.1), .s (i6 s.2.2.1), .s (slR s.2.2.2)]), (6, AObj.row [.s (i6 0), .s (bo false), .s (i6 0), .s (SC.nilsl)]), (26, AObj.grow 96 3 RowV (0, false, false) rowR (List.set (pre ++ List.drop k s.2.2.2) k (ch (List.getD (pre ++ List.drop k s.2.2.2) k (0, false, false))))), (10, AObj.grow 3 1 Int 0 rowI (o ++ [(List.getD (pre ++ List.drop k s.2.2.2) k (0, false, false)).1]))]) (ent_swap 66 10 (by kernel_rfl) (by kernel_rfl)) ?_
          refine AMx.ent_inv (s' := AS.lst 72 [(1, vc (slI ns)), (2, AV.t (TV.c (.fn f []))), (3, vp 3 0), (6, vp 6 0), (9, vo 26), (10, vo 10), (27, vo 26), (28, vc (i6 (List.length s.2.2.2 : Int))), (29, vc (i6 ((k : Int) + 1)))] [(3, AObj.row [.s (i6 s.1), .s (bo s.2.1), .s (i6 s.2.2.1), .s (slR s.2.2.2)]), (6, AObj.row [.s (i6 0), .s (bo false), .s (i6 0), .s (SC.nilsl)]), (10, AObj.grow 3 1 Int 0 rowI (o ++ [(List.getD (pre ++ List.drop k s.2.2.2) k (0, false, false)).1])), (26, AObj.grow 96 3 RowV (0, false, false) rowR (List.set (pre ++ List.drop k s.2.2.2) k (ch (List.getD (pre ++ List.drop k s.2.2.2) k (0, false, false)))))]) (ent_proj [1, 2, 3, 6, 9, 10, 27, 28, 29] [3, 6, 10, 26]) ?_
          refine AMx.inv ⟨_, ?_, k + 1, pre ++ [ch (List.getD s.2.2.2 k (0, false, false))], o ++ [(List.getD s.2.2.2 k (0, false, false)).1], ?_, rfl, ?_⟩
          rotate_left
          · exact ⟨by omega, by rw [hx] at hc4; have q := meant_of hl hc4; exact turn_yes hT (by omega) q.1 q.2⟩
          · rw [hx, pre_set hT.1 (by omega)]; rfl
          · omega
        · try simp only [decide_eq_true_eq, decide_eq_false_iff_not, Bool.and_eq_true, Bool.and_eq_false_iff, Bool.or_eq_true, Bool.or_eq_false_iff, Bool.not_eq_true', Bool.not_eq_false'] at hc4
          refine AMx.skip ?_
          refine AMx.blk ?_
          refine AMx.region (ces := []) (ks := [1, 2, 3, 6, 9, 10, 27, 28, 29]) (hs := [3, 6, 10, 26]) (cs := [InR .i64 ((k : Int) + 1)]) (s' := AS.lst 72 [(1, vc (slI ns)), (2, AV.t (TV.c (.fn f []))), (3, vp 3 0), (6, vp 6 0), (9, vo 26), (10, vo 10), (27, vo 26), (28, vc (i6 (List.length s.2.2.2 : Int))), (29, vc (i6 ((k : Int) + 1)))] [(3, AObj.row [.s (i6 s.1), .s (bo s.2.1), .s (i6 s.2.2.1), .s (slR s.2.2.2)]), (6, AObj.row [.s (i6 0), .s (bo false), .s (i6 0), .s (SC.nilsl)]), (10, AObj.grow 3 1 Int 0 rowI o), (26, AObj.grow 96 3 RowV (0, false, false) rowR (pre ++ List.drop k s.2.2.2))]) (by kernel_rfl) ?_ ?_
          · exact (show InR .i64 ((k : Int) + 1) from (inR64 (by omega) (by omega)))
          refine AMx.ent_inv (s' := AS.lst 72 [(1, vc (slI ns)), (2, AV.t (TV.c (.fn f []))), (3, vp 3 0), (6, vp 6 0), (9, vo 26), (10, vo 10), (27, vo 26), (28, vc (i6 (List.length s.2.2.2 : Int))), (29, vc (i6 ((k : Int) + 1)))] [(3, AObj.row [.s (i6 s.1), .s (bo s.2.1), .s (i6 s.2.2.1), .s (slR s.2.2.2)]), (6, AObj.row [.s (i6 0), .s (bo false), .s (i6 0), .s (SC.nilsl)]), (10, AObj.grow 3 1 Int 0 rowI o), (26, AObj.grow 96 3 RowV (0, false, false) rowR (pre ++ List.drop k s.2.2.2))]) (ent_proj [1, 2, 3, 6, 9, 10, 27, 28, 29] [3, 6, 10, 26]) ?_
          refine AMx.inv ⟨_, ?_, k + 1, pre ++ [List.getD s.2.2.2 k (0, false, false)], o, ?_, rfl, ?_⟩
          rotate_left
          · exact ⟨by omega, by rw [hx] at hc4; exact turn_no hT (by omega) (not_meant hl hc4)⟩
          · rw [pre_keep (by omega)]; rfl
          · omega
      · try simp only [decide_eq_true_eq, decide_eq_false_iff_not] at hc3
        refine AMx.exit ?_
        refine AMx.code_exit ?_
        refine AMx.inv_exit ?_
        refine AMx.blk_exit ?_
        refine AMx.seq ?_
        refine AMx.region (ces := []) (ks := [3, 6, 10]) (hs := [3, 6, 10, 26]) (cs := []) (s' := AS.lst 72 [(3, vp 3 0), (6, vp 6 0), (10, vo 10)] [(3, AObj.row [.s (i6 s.1), .s (bo s.2.1), .s (i6 s.2.2.1), .own 26]), (6, AObj.row [.s (i6 0), .s (bo false), .s (i6 0), .s (SC.nilsl)]), (10, AObj.grow 3 1 Int 0 rowI o), (26, AObj.grow 96 3 RowV (0, false, false) rowR (pre ++ List.drop k s.2.2.2))]) (by kernel_rfl) ?_ ?_
        · exact trivial
        refine AMx.seq ?_
        refine AMx.region (ces := []) (ks := [6, 7, 8]) (hs := [6, 10, 26]) (cs := []) (s' := AS.lst 72 [(6, vp 6 0), (7, vo 10), (8, vc (i6 0))] [(6, AObj.row [.s (i6 s.1), .s (bo s.2.1), .s (i6 s.2.2.1), .own 26]), (10, AObj.grow 3 1 Int 0 rowI o), (26, AObj.grow 96 3 RowV (0, false, false) rowR (pre ++ List.drop k s.2.2.2))]) (by kernel_rfl) ?_ ?_
        · exact trivial
        refine AMx.ent (s' := AS.lst 72 [(6, vp 6 0), (7, vo 10), (8, vc (i6 0))] [(6, AObj.row [.s (i6 s.1), .s (bo s.2.1), .s (i6 s.2.2.1), .s (slR (pre ++ List.drop k s.2.2.2))]), (10, AObj.grow 3 1 Int 0 rowI o)]) (ent_freeze (id := 26) (T := 96) (by kernel_rfl)) ?_
        refine AMx.ent (s' := AS.lst 72 [(6, vp 6 0), (7, vc (slI o)), (8, vc (i6 0))] [(6, AObj.row [.s (i6 s.1), .s (bo s.2.1), .s (i6 s.2.2.1), .s (slR (pre ++ List.drop k s.2.2.2))])]) (ent_freeze (id := 10) (T := 3) (by kernel_rfl)) ?_
        refine AMx.ret ?_
        exact RetP.mk (r := AV.tup [TV.agg [.s (i6 s.1), .s (bo s.2.1), .s (i6 s.2.2.1), .s (slR (pre ++ List.drop k s.2.2.2))], tc (slI o), tc (i6 0)]) (by kernel_rfl) (by rw [show turnSec ch s ns = (((s.1, s.2.1, s.2.2.1, pre ++ List.drop k s.2.2.2) : Sec), o, 0) from by first | exact if_pos hc1 | (unfold turnSec; rw [if_neg (by omega), if_pos (List.eq_nil_of_length_eq_zero (by omega))]) | exact turn_fin hc1 (fun e => by rw [e] at hc2; exact hc2 rfl) hT (by omega)])

theorem f115_body : Try.f115.body = some (.seq (.region 0 (rg Try.f115 0) false) (.seq (.region 1 (rg Try.f115 1) false) (.ret))) := by kernel_rfl

set_option maxRecDepth 100000 in
set_option maxHeartbeats 8000000 in
theorem delC_c (x : RowV) : Pure Try.prog 115 [TV.agg [.s (i6 x.1), .s (bo x.2.1), .s (bo x.2.2)]] (AV.t (TV.agg [.s (i6 ((delC x).1)), .s (bo ((delC x).2.1)), .s (bo ((delC x).2.2))])) := by
  refine Pure.of_body Try.func115 f115_body (by kernel_rfl) Try.ntmps115 (by kernel_rfl) (by kernel_rfl) ?_
  refine AMx.seq ?_
  refine AMx.region (ces := []) (ks := [1, 2]) (hs := [1, 2]) (cs := []) (s' := AS.lst 6 [(1, vp 1 0), (2, vp 2 0)] [(1, AObj.row [.s (i6 x.1), .s (bo x.2.1), .s (bo x.2.2)]), (2, AObj.row [.s (i6 0), .s (bo false), .s (bo false)])]) (by kernel_rfl) ?_ ?_
  · exact trivial
  refine AMx.seq ?_
  refine AMx.region (ces := []) (ks := [2]) (hs := [2]) (cs := []) (s' := AS.lst 6 [(2, vp 2 0)] [(2, AObj.row [.s (i6 x.1), .s (bo true), .s (bo false)])]) (by kernel_rfl) ?_ ?_
  · exact trivial
  refine AMx.ret ?_
  exact RetP.mk (r := AV.t (TV.agg [.s (i6 x.1), .s (bo true), .s (bo false)])) (by kernel_rfl) rfl

theorem f117_body : Try.f117.body = some (.seq (.region 0 (rg Try.f117 0) false) (.seq (.region 1 (rg Try.f117 1) false) (.ret))) := by kernel_rfl

set_option maxRecDepth 100000 in
set_option maxHeartbeats 8000000 in
theorem undC_c (x : RowV) : Pure Try.prog 117 [TV.agg [.s (i6 x.1), .s (bo x.2.1), .s (bo x.2.2)]] (AV.t (TV.agg [.s (i6 ((undC x).1)), .s (bo ((undC x).2.1)), .s (bo ((undC x).2.2))])) := by
  refine Pure.of_body Try.func117 f117_body (by kernel_rfl) Try.ntmps117 (by kernel_rfl) (by kernel_rfl) ?_
  refine AMx.seq ?_
  refine AMx.region (ces := []) (ks := [1, 2]) (hs := [1, 2]) (cs := []) (s' := AS.lst 6 [(1, vp 1 0), (2, vp 2 0)] [(1, AObj.row [.s (i6 x.1), .s (bo x.2.1), .s (bo x.2.2)]), (2, AObj.row [.s (i6 0), .s (bo false), .s (bo false)])]) (by kernel_rfl) ?_ ?_
  · exact trivial
  refine AMx.seq ?_
  refine AMx.region (ces := []) (ks := [2]) (hs := [2]) (cs := []) (s' := AS.lst 6 [(2, vp 2 0)] [(2, AObj.row [.s (i6 x.1), .s (bo false), .s (bo false)])]) (by kernel_rfl) ?_ ?_
  · exact trivial
  refine AMx.ret ?_
  exact RetP.mk (r := AV.t (TV.agg [.s (i6 x.1), .s (bo false), .s (bo false)])) (by kernel_rfl) rfl

theorem f118_body : Try.f118.body = some (.seq (.region 0 (rg Try.f118 0) false) (.seq (.region 1 (rg Try.f118 1) false) (.ret))) := by kernel_rfl

set_option maxRecDepth 100000 in
set_option maxHeartbeats 8000000 in
theorem desC_c (x : RowV) : Pure Try.prog 118 [TV.agg [.s (i6 x.1), .s (bo x.2.1), .s (bo x.2.2)]] (AV.t (TV.agg [.s (i6 ((desC x).1)), .s (bo ((desC x).2.1)), .s (bo ((desC x).2.2))])) := by
  refine Pure.of_body Try.func118 f118_body (by kernel_rfl) Try.ntmps118 (by kernel_rfl) (by kernel_rfl) ?_
  refine AMx.seq ?_
  refine AMx.region (ces := []) (ks := [1, 2]) (hs := [1, 2]) (cs := []) (s' := AS.lst 6 [(1, vp 1 0), (2, vp 2 0)] [(1, AObj.row [.s (i6 x.1), .s (bo x.2.1), .s (bo x.2.2)]), (2, AObj.row [.s (i6 0), .s (bo false), .s (bo false)])]) (by kernel_rfl) ?_ ?_
  · exact trivial
  refine AMx.seq ?_
  refine AMx.region (ces := []) (ks := [2]) (hs := [2]) (cs := []) (s' := AS.lst 6 [(2, vp 2 0)] [(2, AObj.row [.s (i6 x.1), .s (bo false), .s (bo true)])]) (by kernel_rfl) ?_ ?_
  · exact trivial
  refine AMx.ret ?_
  exact RetP.mk (r := AV.t (TV.agg [.s (i6 x.1), .s (bo false), .s (bo true)])) (by kernel_rfl) rfl

theorem f64_body : Try.f64.body = some (.seq (.region 0 (rg Try.f64 0) false) (.seq (.region 1 (rg Try.f64 1) false) (.seq (.region 2 (rg Try.f64 2) false) (.ret)))) := by kernel_rfl

set_option maxRecDepth 100000 in
set_option maxHeartbeats 8000000 in
theorem Delete_c (s : Sec) (ns : List Int) (hb : s.2.2.2.length ≤ 1000) : Pure Try.prog 64 [TV.agg [.s (i6 s.1), .s (bo s.2.1), .s (i6 s.2.2.1), .s (slR s.2.2.2)], tc (slI ns)] (AV.tup [TV.agg [.s (i6 (((turnSec delC s ns).1).1)), .s (bo (((turnSec delC s ns).1).2.1)), .s (i6 (((turnSec delC s ns).1).2.2.1)), .s (slR (((turnSec delC s ns).1).2.2.2))], tc (i6 ((turnSec delC s ns).2.2))]) := by
  refine Pure.of_body Try.func64 f64_body (by kernel_rfl) Try.ntmps64 (by kernel_rfl) (by kernel_rfl) ?_
  refine AMx.seq ?_
  refine AMx.region (ces := []) (ks := [1, 2, 4]) (hs := [2, 4]) (cs := []) (s' := AS.lst 18 [(1, vc (slI ns)), (2, vp 2 0), (4, vp 4 0)] [(2, AObj.row [.s (i6 s.1), .s (bo s.2.1), .s (i6 s.2.2.1), .s (slR s.2.2.2)]), (4, AObj.row [.s (i6 0), .s (bo false), .s (i6 0), .s (SC.nilsl)])]) (by kernel_rfl) ?_ ?_
  · exact trivial
  refine AMx.seq ?_
  refine AMx.region (ces := [(2, CE.call [] [] (AV.tup [TV.agg [.s (i6 (((turnSec delC s ns).1).1)), .s (bo (((turnSec delC s ns).1).2.1)), .s (i6 (((turnSec delC s ns).1).2.2.1)), .s (slR (((turnSec delC s ns).1).2.2.2))], tc (slI ((turnSec delC s ns).2.1)), tc (i6 ((turnSec delC s ns).2.2))]) [])]) (ks := [4, 6, 8]) (hs := [4, 6]) (cs := [Spec Try.prog 114 [TV.agg [.s (i6 s.1), .s (bo s.2.1), .s (i6 s.2.2.1), .s (slR s.2.2.2)], tc (slI ns), TV.c (.fn 115 [])] (ofH []) (AV.tup [TV.agg [.s (i6 (((turnSec delC s ns).1).1)), .s (bo (((turnSec delC s ns).1).2.1)), .s (i6 (((turnSec delC s ns).1).2.2.1)), .s (slR (((turnSec delC s ns).1).2.2.2))], tc (slI ((turnSec delC s ns).2.1)), tc (i6 ((turnSec delC s ns).2.2))]) (ofH [])]) (s' := AS.lst 18 [(4, vp 4 0), (6, vp 6 0), (8, vc (i6 ((turnSec delC s ns).2.2)))] [(4, AObj.row [.s (i6 0), .s (bo false), .s (i6 0), .s (SC.nilsl)]), (6, AObj.row [.s (i6 (((turnSec delC s ns).1).1)), .s (bo (((turnSec delC s ns).1).2.1)), .s (i6 (((turnSec delC s ns).1).2.2.1)), .s (slR (((turnSec delC s ns).1).2.2.2))])]) (by kernel_rfl) ?_ ?_
  · exact (turn_c 115 delC delC_c s ns (by omega))
  refine AMx.seq ?_
  refine AMx.region (ces := []) (ks := [4, 5]) (hs := [4]) (cs := []) (s' := AS.lst 18 [(4, vp 4 0), (5, vc (i6 ((turnSec delC s ns).2.2)))] [(4, AObj.row [.s (i6 (((turnSec delC s ns).1).1)), .s (bo (((turnSec delC s ns).1).2.1)), .s (i6 (((turnSec delC s ns).1).2.2.1)), .s (slR (((turnSec delC s ns).1).2.2.2))])]) (by kernel_rfl) ?_ ?_
  · exact trivial
  refine AMx.ret ?_
  exact RetP.mk (r := AV.tup [TV.agg [.s (i6 (((turnSec delC s ns).1).1)), .s (bo (((turnSec delC s ns).1).2.1)), .s (i6 (((turnSec delC s ns).1).2.2.1)), .s (slR (((turnSec delC s ns).1).2.2.2))], tc (i6 ((turnSec delC s ns).2.2))]) (by kernel_rfl) rfl

theorem f66_body : Try.f66.body = some (.seq (.region 0 (rg Try.f66 0) false) (.seq (.region 1 (rg Try.f66 1) false) (.seq (.region 2 (rg Try.f66 2) false) (.ret)))) := by kernel_rfl

set_option maxRecDepth 100000 in
set_option maxHeartbeats 8000000 in
theorem Undelete_c (s : Sec) (ns : List Int) (hb : s.2.2.2.length ≤ 1000) : Pure Try.prog 66 [TV.agg [.s (i6 s.1), .s (bo s.2.1), .s (i6 s.2.2.1), .s (slR s.2.2.2)], tc (slI ns)] (AV.tup [TV.agg [.s (i6 (((turnSec undC s ns).1).1)), .s (bo (((turnSec undC s ns).1).2.1)), .s (i6 (((turnSec undC s ns).1).2.2.1)), .s (slR (((turnSec undC s ns).1).2.2.2))], tc (i6 ((turnSec undC s ns).2.2))]) := by
  refine Pure.of_body Try.func66 f66_body (by kernel_rfl) Try.ntmps66 (by kernel_rfl) (by kernel_rfl) ?_
  refine AMx.seq ?_
  refine AMx.region (ces := []) (ks := [1, 2, 4]) (hs := [2, 4]) (cs := []) (s' := AS.lst 18 [(1, vc (slI ns)), (2, vp 2 0), (4, vp 4 0)] [(2, AObj.row [.s (i6 s.1), .s (bo s.2.1), .s (i6 s.2.2.1), .s (slR s.2.2.2)]), (4, AObj.row [.s (i6 0), .s (bo false), .s (i6 0), .s (SC.nilsl)])]) (by kernel_rfl) ?_ ?_
  · exact trivial
  refine AMx.seq ?_
  refine AMx.region (ces := [(2, CE.call [] [] (AV.tup [TV.agg [.s (i6 (((turnSec undC s ns).1).1)), .s (bo (((turnSec undC s ns).1).2.1)), .s (i6 (((turnSec undC s ns).1).2.2.1)), .s (slR (((turnSec undC s ns).1).2.2.2))], tc (slI ((turnSec undC s ns).2.1)), tc (i6 ((turnSec undC s ns).2.2))]) [])]) (ks := [4, 6, 8]) (hs := [4, 6]) (cs := [Spec Try.prog 114 [TV.agg [.s (i6 s.1), .s (bo s.2.1), .s (i6 s.2.2.1), .s (slR s.2.2.2)], tc (slI ns), TV.c (.fn 117 [])] (ofH []) (AV.tup [TV.agg [.s (i6 (((turnSec undC s ns).1).1)), .s (bo (((turnSec undC s ns).1).2.1)), .s (i6 (((turnSec undC s ns).1).2.2.1)), .s (slR (((turnSec undC s ns).1).2.2.2))], tc (slI ((turnSec undC s ns).2.1)), tc (i6 ((turnSec undC s ns).2.2))]) (ofH [])]) (s' := AS.lst 18 [(4, vp 4 0), (6, vp 6 0), (8, vc (i6 ((turnSec undC s ns).2.2)))] [(4, AObj.row [.s (i6 0), .s (bo false), .s (i6 0), .s (SC.nilsl)]), (6, AObj.row [.s (i6 (((turnSec undC s ns).1).1)), .s (bo (((turnSec undC s ns).1).2.1)), .s (i6 (((turnSec undC s ns).1).2.2.1)), .s (slR (((turnSec undC s ns).1).2.2.2))])]) (by kernel_rfl) ?_ ?_
  · exact (turn_c 117 undC undC_c s ns (by omega))
  refine AMx.seq ?_
  refine AMx.region (ces := []) (ks := [4, 5]) (hs := [4]) (cs := []) (s' := AS.lst 18 [(4, vp 4 0), (5, vc (i6 ((turnSec undC s ns).2.2)))] [(4, AObj.row [.s (i6 (((turnSec undC s ns).1).1)), .s (bo (((turnSec undC s ns).1).2.1)), .s (i6 (((turnSec undC s ns).1).2.2.1)), .s (slR (((turnSec undC s ns).1).2.2.2))])]) (by kernel_rfl) ?_ ?_
  · exact trivial
  refine AMx.ret ?_
  exact RetP.mk (r := AV.tup [TV.agg [.s (i6 (((turnSec undC s ns).1).1)), .s (bo (((turnSec undC s ns).1).2.1)), .s (i6 (((turnSec undC s ns).1).2.2.1)), .s (slR (((turnSec undC s ns).1).2.2.2))], tc (i6 ((turnSec undC s ns).2.2))]) (by kernel_rfl) rfl

theorem f67_body : Try.f67.body = some (.seq (.region 0 (rg Try.f67 0) false) (.seq (.region 1 (rg Try.f67 1) false) (.ret))) := by kernel_rfl

set_option maxRecDepth 100000 in
set_option maxHeartbeats 8000000 in
theorem Destroy_c (s : Sec) (ns : List Int) (hb : s.2.2.2.length ≤ 1000) : Pure Try.prog 67 [TV.agg [.s (i6 s.1), .s (bo s.2.1), .s (i6 s.2.2.1), .s (slR s.2.2.2)], tc (slI ns)] (AV.tup [TV.agg [.s (i6 (((turnSec desC s ns).1).1)), .s (bo (((turnSec desC s ns).1).2.1)), .s (i6 (((turnSec desC s ns).1).2.2.1)), .s (slR (((turnSec desC s ns).1).2.2.2))], tc (slI ((turnSec desC s ns).2.1)), tc (i6 ((turnSec desC s ns).2.2))]) := by
  refine Pure.of_body Try.func67 f67_body (by kernel_rfl) Try.ntmps67 (by kernel_rfl) (by kernel_rfl) ?_
  refine AMx.seq ?_
  refine AMx.region (ces := []) (ks := [1, 2, 4]) (hs := [2, 4]) (cs := []) (s' := AS.lst 13 [(1, vc (slI ns)), (2, vp 2 0), (4, vp 4 0)] [(2, AObj.row [.s (i6 s.1), .s (bo s.2.1), .s (i6 s.2.2.1), .s (slR s.2.2.2)]), (4, AObj.row [.s (i6 0), .s (bo false), .s (i6 0), .s (SC.nilsl)])]) (by kernel_rfl) ?_ ?_
  · exact trivial
  refine AMx.seq ?_
  refine AMx.region (ces := [(2, CE.call [] [] (AV.tup [TV.agg [.s (i6 (((turnSec desC s ns).1).1)), .s (bo (((turnSec desC s ns).1).2.1)), .s (i6 (((turnSec desC s ns).1).2.2.1)), .s (slR (((turnSec desC s ns).1).2.2.2))], tc (slI ((turnSec desC s ns).2.1)), tc (i6 ((turnSec desC s ns).2.2))]) [])]) (ks := [4, 5, 6]) (hs := [4]) (cs := [Spec Try.prog 114 [TV.agg [.s (i6 s.1), .s (bo s.2.1), .s (i6 s.2.2.1), .s (slR s.2.2.2)], tc (slI ns), TV.c (.fn 118 [])] (ofH []) (AV.tup [TV.agg [.s (i6 (((turnSec desC s ns).1).1)), .s (bo (((turnSec desC s ns).1).2.1)), .s (i6 (((turnSec desC s ns).1).2.2.1)), .s (slR (((turnSec desC s ns).1).2.2.2))], tc (slI ((turnSec desC s ns).2.1)), tc (i6 ((turnSec desC s ns).2.2))]) (ofH [])]) (s' := AS.lst 13 [(4, vp 4 0), (5, vc (slI ((turnSec desC s ns).2.1))), (6, vc (i6 ((turnSec desC s ns).2.2)))] [(4, AObj.row [.s (i6 (((turnSec desC s ns).1).1)), .s (bo (((turnSec desC s ns).1).2.1)), .s (i6 (((turnSec desC s ns).1).2.2.1)), .s (slR (((turnSec desC s ns).1).2.2.2))])]) (by kernel_rfl) ?_ ?_
  · exact (turn_c 118 desC desC_c s ns (by omega))
  refine AMx.ret ?_
  exact RetP.mk (r := AV.tup [TV.agg [.s (i6 (((turnSec desC s ns).1).1)), .s (bo (((turnSec desC s ns).1).2.1)), .s (i6 (((turnSec desC s ns).1).2.2.1)), .s (slR (((turnSec desC s ns).1).2.2.2))], tc (slI ((turnSec desC s ns).2.1)), tc (i6 ((turnSec desC s ns).2.2))]) (by kernel_rfl) rfl

theorem f116_body : Try.f116.body = some (.seq (.region 0 (rg Try.f116 0) false) (.seq (.seq (.region 1 (rg Try.f116 1) false) (.block 0 (.loop (.seq (.seq (.region 2 (rg Try.f116 2) false) (.cond (.tmp 11) (.skip) (.exit 0))) (.seq (.block 1 (.seq (.region 4 (rg Try.f116 4) true) (.cond (.tmp 24) (.seq (.region 5 (rg Try.f116 5) false) (.ret)) (.skip)))) (.region 3 (rg Try.f116 3) false)))))) (.seq (.region 6 (rg Try.f116 6) false) (.ret)))) := by kernel_rfl

set_option maxRecDepth 100000 in
set_option maxHeartbeats 8000000 in
theorem meant_c (s : Sec) (i : Nat) (ns : List Int) (hi : i < s.2.2.2.length) : Pure Try.prog 116 [TV.agg [.s (i6 s.1), .s (bo s.2.1), .s (i6 s.2.2.1), .s (slR s.2.2.2)], tc (i6 (i : Int)), tc (slI ns)] (vc (bo (decide (Meant ns i s.2.2.2.length (List.getD s.2.2.2 i (0, false, false)))))) := by
  refine Pure.of_body Try.func116 f116_body (by kernel_rfl) Try.ntmps116 (by kernel_rfl) (by kernel_rfl) ?_
  refine AMx.celln 0 3 rfl rfl (fun hl => ?_)
  simp only [maxLen] at hl
  refine AMx.sl 2 (l := ns) rfl (fun hln => ?_)
  simp only [maxLen] at hln
  refine AMx.seq ?_
  refine AMx.region (ces := []) (ks := [1, 2, 3]) (hs := [3]) (cs := []) (s' := AS.lst 36 [(1, vc (i6 (i : Int))), (2, vc (slI ns)), (3, vp 3 0)] [(3, AObj.row [.s (i6 s.1), .s (bo s.2.1), .s (i6 s.2.2.1), .s (slR s.2.2.2)])]) (by kernel_rfl) ?_ ?_
  · exact trivial
  refine AMx.seq ?_
  refine AMx.seq ?_
  refine AMx.region (ces := []) (ks := [1, 2, 3, 7]) (hs := [3]) (cs := []) (s' := AS.lst 36 [(1, vc (i6 (i : Int))), (2, vc (slI ns)), (3, vp 3 0), (7, vc (i6 0))] [(3, AObj.row [.s (i6 s.1), .s (bo s.2.1), .s (i6 s.2.2.1), .s (slR s.2.2.2)])]) (by kernel_rfl) ?_ ?_
  · exact trivial
  refine AMx.block ?_
  refine AMx.ent (s' := AS.lst 36 [(1, vc (i6 (i : Int))), (2, vc (slI ns)), (3, vp 3 0), (7, vc (i6 0))] [(3, AObj.row [.s (i6 s.1), .s (bo s.2.1), .s (i6 s.2.2.1), .s (slR s.2.2.2)])]) (ent_proj [1, 2, 3, 7] [3]) ?_
  refine AMx.loop (fun mm ss => ∃ (k : Nat), (k ≤ ns.length ∧ (List.getD s.2.2.2 i (0, false, false)).1 ∉ List.take k ns) ∧ mm = ns.length - k ∧ ss = AS.lst 36 [(1, vc (i6 (i : Int))), (2, vc (slI ns)), (3, vp 3 0), (7, vc (i6 (k : Int)))] [(3, AObj.row [.s (i6 s.1), .s (bo s.2.1), .s (i6 s.2.2.1), .s (slR s.2.2.2)])]) ⟨0, ?_, rfl, ?_⟩ ?_
  · exact ⟨by omega, by simp⟩
  · rfl
  rintro mm ss ⟨k, ⟨hI, hN⟩, rfl, rfl⟩
  refine AMx.seq ?_
  refine AMx.seq ?_
  refine AMx.region (ces := []) (ks := [1, 2, 3, 7, 11]) (hs := [3]) (cs := []) (s' := AS.lst 36 [(1, vc (i6 (i : Int))), (2, vc (slI ns)), (3, vp 3 0), (7, vc (i6 (k : Int))), (11, vc (bo (decide ((k : Int) < (List.length ns : Int)))))] [(3, AObj.row [.s (i6 s.1), .s (bo s.2.1), .s (i6 s.2.2.1), .s (slR s.2.2.2)])]) (by kernel_rfl) ?_ ?_
  · exact trivial
  refine AMx.cond (b := decide ((k : Int) < (List.length ns : Int))) (by kernel_rfl) (fun hc1 => ?_) (fun hc1 => ?_)
  · try simp only [decide_eq_true_eq, decide_eq_false_iff_not] at hc1
    refine AMx.skip ?_
    refine AMx.seq ?_
    refine AMx.block ?_
    refine AMx.seq ?_
    refine AMx.region_draw (ces := []) (ros := [(5, [3])]) (ks := [1, 2, 3, 7, 24]) (hs := [3]) (cs := [(0 : Int) ≤ (k : Int), (k : Int) < List.length ns, (0 : Int) ≤ (i : Int), (i : Int) < List.length s.2.2.2]) (s' := AS.lst 36 [(1, vc (i6 (i : Int))), (2, vc (slI ns)), (3, vp 3 0), (7, vc (i6 (k : Int))), (24, vc (bo (decide ((List.getD ns k 0) = (List.getD s.2.2.2 i (0, false, false)).1))))] [(3, AObj.row [.s (i6 s.1), .s (bo s.2.1), .s (i6 s.2.2.1), .s (slR s.2.2.2)])]) mixed (by kernel_rfl) ?_ ?_
    · exact ⟨(show (0 : Int) ≤ (k : Int) from (by omega)), (show (k : Int) < List.length ns from (by omega)), (show (0 : Int) ≤ (i : Int) from (by omega)), (show (i : Int) < List.length s.2.2.2 from (by omega))⟩
    refine AMx.cond (b := decide ((List.getD ns k 0) = (List.getD s.2.2.2 i (0, false, false)).1)) (by kernel_rfl) (fun hc2 => ?_) (fun hc2 => ?_)
    · try simp only [decide_eq_true_eq, decide_eq_false_iff_not] at hc2
      refine AMx.seq ?_
      refine AMx.region (ces := []) (ks := [6]) (hs := []) (cs := []) (s' := AS.lst 36 [(6, vc (bo true))] []) (by kernel_rfl) ?_ ?_
      · exact trivial
      refine AMx.ret ?_
      exact RetP.mk (r := vc (bo true)) (by kernel_rfl) (by rw [show decide (Meant ns i s.2.2.2.length (List.getD s.2.2.2 i (0, false, false))) = true from decide_eq_true (.inl (by have h0 := Lib.getD_mem 0 ns k (by omega); rwa [hc2] at h0))])
    · try simp only [decide_eq_true_eq, decide_eq_false_iff_not] at hc2
      refine AMx.skip ?_
      refine AMx.blk ?_
      refine AMx.region (ces := []) (ks := [1, 2, 3, 7]) (hs := [3]) (cs := [InR .i64 ((k : Int) + 1)]) (s' := AS.lst 36 [(1, vc (i6 (i : Int))), (2, vc (slI ns)), (3, vp 3 0), (7, vc (i6 ((k : Int) + 1)))] [(3, AObj.row [.s (i6 s.1), .s (bo s.2.1), .s (i6 s.2.2.1), .s (slR s.2.2.2)])]) (by kernel_rfl) ?_ ?_
      · exact (show InR .i64 ((k : Int) + 1) from (inR64 (by omega) (by omega)))
      refine AMx.ent_inv (s' := AS.lst 36 [(1, vc (i6 (i : Int))), (2, vc (slI ns)), (3, vp 3 0), (7, vc (i6 ((k : Int) + 1)))] [(3, AObj.row [.s (i6 s.1), .s (bo s.2.1), .s (i6 s.2.2.1), .s (slR s.2.2.2)])]) (ent_proj [1, 2, 3, 7] [3]) ?_
      refine AMx.inv ⟨_, ?_, k + 1, ?_, rfl, ?_⟩
      rotate_left
      · exact ⟨by omega, by rw [Lib.take_succ 0 ns k (by omega), List.mem_append, not_or]; exact ⟨hN, fun h => by rw [List.mem_singleton] at h; omega⟩⟩
      · rfl
      · omega
  · try simp only [decide_eq_true_eq, decide_eq_false_iff_not] at hc1
    refine AMx.exit ?_
    refine AMx.code_exit ?_
    refine AMx.inv_exit ?_
    refine AMx.blk_exit ?_
    refine AMx.seq ?_
    refine AMx.region (ces := []) (ks := [6]) (hs := []) (cs := [((decide ((List.length ns : Int) = 0)) = true) → allP [], ((decide ((List.length ns : Int) = 0)) = true) → allP [], ((decide ((List.length ns : Int) = 0)) = true) → allP [(decide ((List.length ns : Int) = 0)) = true], ((decide ((List.length ns : Int) = 0)) = true) → allP [(decide ((List.length ns : Int) = 0)) = true], ((decide ((List.length ns : Int) = 0)) = true) → allP [(decide ((List.length ns : Int) = 0)) = true, InR .i64 ((List.length s.2.2.2 : Int) - 1)], ((decide ((List.length ns : Int) = 0)) = true) → allP [(decide ((List.length ns : Int) = 0)) = true, (decide ((List.length ns : Int) = 0)) = true], (decide ((List.length ns : Int) = 0)) = true → allP [(decide ((List.length ns : Int) = 0)) = true]]) (s' := AS.lst 36 [(6, vc (bo ((decide ((List.length ns : Int) = 0)) && (decide ((i : Int) = (List.length s.2.2.2 : Int) - 1)))))] []) (by kernel_rfl) ?_ ?_
    · exact ⟨(fun _ => trivial), (fun _ => trivial), (fun hp => hp), (fun hp => hp), (fun hp => by have hq := hp; (try simp only [decide_eq_true_eq, decide_eq_false_iff_not, Bool.and_eq_true, Bool.or_eq_true, Bool.and_eq_false_iff, Bool.or_eq_false_iff, Bool.not_eq_true', Bool.not_eq_false', Bool.not_eq_true, Bool.not_eq_false] at hq); exact ⟨hp, (show InR .i64 ((List.length s.2.2.2 : Int) - 1) from (inR64 (by omega) (by omega)))⟩), (fun hp => ⟨hp, hp⟩), (fun hp2 => (by first | exact hp2 | exact ⟨hp, hp2⟩))⟩
    refine AMx.ret ?_
    exact RetP.mk (r := vc (bo ((decide ((List.length ns : Int) = 0)) && (decide ((i : Int) = (List.length s.2.2.2 : Int) - 1))))) (by kernel_rfl) (by rw [show decide (Meant ns i s.2.2.2.length (List.getD s.2.2.2 i (0, false, false))) = ((decide ((List.length ns : Int) = 0)) && (decide ((i : Int) = (List.length s.2.2.2 : Int) - 1))) from by rw [List.take_of_length_le (by omega)] at hN; exact meant_end hN])

theorem f65_body : Try.f65.body = some (.seq (.region 0 (rg Try.f65 0) false) (.seq (.seq (.region 1 (rg Try.f65 1) true) (.cond (.tmp 16) (.seq (.region 2 (rg Try.f65 2) false) (.ret)) (.skip))) (.seq (.seq (.region 3 (rg Try.f65 3) false) (.cond (.tmp 21) (.seq (.region 4 (rg Try.f65 4) false) (.ret)) (.skip))) (.seq (.region 5 (rg Try.f65 5) true) (.seq (.region 6 (rg Try.f65 6) false) (.seq (.seq (.region 7 (rg Try.f65 7) false) (.block 0 (.loop (.seq (.seq (.region 8 (rg Try.f65 8) false) (.cond (.tmp 38) (.skip) (.exit 0))) (.seq (.block 1 (.seq (.region 10 (rg Try.f65 10) false) (.seq (.seq (.region 11 (rg Try.f65 11) false) (.cond (.tmp 54) (.exit 1) (.skip))) (.seq (.seq (.region 12 (rg Try.f65 12) false) (.cond (.tmp 56) (.seq (.region 13 (rg Try.f65 13) false) (.region 14 (rg Try.f65 14) false)) (.region 15 (rg Try.f65 15) false))) (.region 16 (rg Try.f65 16) false))))) (.region 9 (rg Try.f65 9) false)))))) (.seq (.region 17 (rg Try.f65 17) false) (.ret)))))))) := by kernel_rfl

set_option maxRecDepth 100000 in
set_option maxHeartbeats 8000000 in
theorem RTurn_c (s : Sec) (w : Int) (ns : List Int) (hb : s.2.2.2.length ≤ 1000) : Pure Try.prog 65 [TV.agg [.s (i6 s.1), .s (bo s.2.1), .s (i6 s.2.2.1), .s (slR s.2.2.2)], tc (i6 w), tc (slI ns)] (AV.tup [TV.agg [.s (i6 (((refTurn w s ns).1).1)), .s (bo (((refTurn w s ns).1).2.1)), .s (i6 (((refTurn w s ns).1).2.2.1)), .s (slR (((refTurn w s ns).1).2.2.2))], tc (slI ((refTurn w s ns).2.1)), tc (i6 ((refTurn w s ns).2.2))]) := by
  refine Pure.of_body Try.func65 f65_body (by kernel_rfl) Try.ntmps65 (by kernel_rfl) (by kernel_rfl) ?_
  refine AMx.seq ?_
  refine AMx.region (ces := []) (ks := [1, 2, 3, 6]) (hs := [3, 6]) (cs := []) (s' := AS.lst 74 [(1, vc (i6 w)), (2, vc (slI ns)), (3, vp 3 0), (6, vp 6 0)] [(3, AObj.row [.s (i6 s.1), .s (bo s.2.1), .s (i6 s.2.2.1), .s (slR s.2.2.2)]), (6, AObj.row [.s (i6 0), .s (bo false), .s (i6 0), .s (SC.nilsl)])]) (by kernel_rfl) ?_ ?_
  · exact trivial
  refine AMx.seq ?_
  refine AMx.seq ?_
  refine AMx.region_draw (ces := [(1, CE.call [] [] (AV.t (TV.agg [.s (i6 loose.1), .s (bo loose.2)])) []), (2, CE.call [] [] (vc (bo (decide (checkS s loose = 0)))) [])]) (ros := [(0, [3])]) (ks := [1, 2, 3, 6, 16]) (hs := [3, 6]) (cs := [Spec Try.prog 113 [] (ofH []) (AV.t (TV.agg [.s (i6 loose.1), .s (bo loose.2)])) (ofH []), Spec Try.prog 52 [TV.agg [.s (i6 s.1), .s (bo s.2.1), .s (i6 s.2.2.1), .s (slR s.2.2.2)], TV.agg [.s (i6 loose.1), .s (bo loose.2)]] (ofH []) (vc (bo (decide (checkS s loose = 0)))) (ofH [])]) (s' := AS.lst 74 [(1, vc (i6 w)), (2, vc (slI ns)), (3, vp 3 0), (6, vp 6 0), (16, vc (bo (!(decide (checkS s loose = 0)))))] [(3, AObj.row [.s (i6 s.1), .s (bo s.2.1), .s (i6 s.2.2.1), .s (slR s.2.2.2)]), (6, AObj.row [.s (i6 0), .s (bo false), .s (i6 0), .s (SC.nilsl)])]) mixed (by kernel_rfl) ?_ ?_
  · exact ⟨(RLoose_c), (May_c s loose)⟩
  refine AMx.cond (b := !(decide (checkS s loose = 0))) (by kernel_rfl) (fun hc1 => ?_) (fun hc1 => ?_)
  · try simp only [decide_eq_true_eq, decide_eq_false_iff_not, Bool.not_eq_true', Bool.not_eq_false'] at hc1
    refine AMx.seq ?_
    refine AMx.region (ces := []) (ks := [6, 7, 8]) (hs := [6]) (cs := []) (s' := AS.lst 74 [(6, vp 6 0), (7, vc (SC.nilsl)), (8, vc (i6 2))] [(6, AObj.row [.s (i6 s.1), .s (bo s.2.1), .s (i6 s.2.2.1), .s (slR s.2.2.2)])]) (by kernel_rfl) ?_ ?_
    · exact trivial
    refine AMx.ent (ent_weak 7 (v' := vc (slI [])) (by kernel_rfl) (AV.le_t (TV.le_c AC.le_nil))) ?_
    refine AMx.ret ?_
    exact RetP.mk (r := AV.tup [TV.agg [.s (i6 s.1), .s (bo s.2.1), .s (i6 s.2.2.1), .s (slR s.2.2.2)], tc (slI []), tc (i6 2)]) (by kernel_rfl) (by rw [show refTurn w s ns = (s, [], 2) from by first | exact refT_arg hc1 | exact refT_none hc1 (List.eq_nil_of_length_eq_zero (by omega)) | exact refT_fin hc1 (fun e => by rw [e] at hc2; exact hc2 rfl) hT (by omega) h3 h4])
  · try simp only [decide_eq_true_eq, decide_eq_false_iff_not, Bool.not_eq_true', Bool.not_eq_false'] at hc1
    refine AMx.skip ?_
    refine AMx.seq ?_
    refine AMx.seq ?_
    refine AMx.region (ces := []) (ks := [1, 2, 3, 6, 21]) (hs := [3, 6]) (cs := []) (s' := AS.lst 74 [(1, vc (i6 w)), (2, vc (slI ns)), (3, vp 3 0), (6, vp 6 0), (21, vc (bo (decide ((List.length s.2.2.2 : Int) = 0))))] [(3, AObj.row [.s (i6 s.1), .s (bo s.2.1), .s (i6 s.2.2.1), .s (slR s.2.2.2)]), (6, AObj.row [.s (i6 0), .s (bo false), .s (i6 0), .s (SC.nilsl)])]) (by kernel_rfl) ?_ ?_
    · exact trivial
    refine AMx.cond (b := decide ((List.length s.2.2.2 : Int) = 0)) (by kernel_rfl) (fun hc2 => ?_) (fun hc2 => ?_)
    · try simp only [decide_eq_true_eq, decide_eq_false_iff_not] at hc2
      refine AMx.seq ?_
      refine AMx.region (ces := []) (ks := [6, 7, 8]) (hs := [6]) (cs := []) (s' := AS.lst 74 [(6, vp 6 0), (7, vc (SC.nilsl)), (8, vc (i6 6))] [(6, AObj.row [.s (i6 s.1), .s (bo s.2.1), .s (i6 s.2.2.1), .s (slR s.2.2.2)])]) (by kernel_rfl) ?_ ?_
      · exact trivial
      refine AMx.ent (ent_weak 7 (v' := vc (slI [])) (by kernel_rfl) (AV.le_t (TV.le_c AC.le_nil))) ?_
      refine AMx.ret ?_
      exact RetP.mk (r := AV.tup [TV.agg [.s (i6 s.1), .s (bo s.2.1), .s (i6 s.2.2.1), .s (slR s.2.2.2)], tc (slI []), tc (i6 6)]) (by kernel_rfl) (by rw [show refTurn w s ns = (s, [], 6) from by first | exact refT_arg hc1 | exact refT_none hc1 (List.eq_nil_of_length_eq_zero (by omega)) | exact refT_fin hc1 (fun e => by rw [e] at hc2; exact hc2 rfl) hT (by omega) h3 h4])
    · try simp only [decide_eq_true_eq, decide_eq_false_iff_not] at hc2
      refine AMx.skip ?_
      refine AMx.seq ?_
      refine AMx.region_draw (ces := [(6, CE.obj (AObj.grow 99 3 RowV (0, false, false) rowR [])), (9, CE.obj (AObj.grow 99 3 RowV (0, false, false) rowR ([] ++ s.2.2.2)))]) (ros := [(1, [3]), (3, [3]), (5, [3]), (8, [3]), (9, [29]), (12, [9])]) (ks := [1, 2, 3, 6, 9]) (hs := [3, 6, 9, 32]) (cs := [flat 3 rowR [] = [], List.length ([] : List RowV) = 0, AppC (flat 3 rowR s.2.2.2) (List.length s.2.2.2) 16 (AObj.grow 99 3 RowV (0, false, false) rowR []) (AObj.grow 99 3 RowV (0, false, false) rowR ([] ++ s.2.2.2))]) (s' := AS.lst 74 [(1, vc (i6 w)), (2, vc (slI ns)), (3, vp 3 0), (6, vp 6 0), (9, vp 9 0)] [(3, AObj.row [.s (i6 s.1), .s (bo s.2.1), .s (i6 s.2.2.1), .s (slR s.2.2.2)]), (6, AObj.row [.s (i6 0), .s (bo false), .s (i6 0), .s (SC.nilsl)]), (9, AObj.row [.s (i6 s.1), .s (bo s.2.1), .s (i6 s.2.2.1), .own 32]), (32, AObj.grow 99 3 RowV (0, false, false) rowR ([] ++ s.2.2.2))]) mixed (by kernel_rfl) ?_ ?_
      · exact ⟨rfl, rfl, (⟨_, rfl, rfl, rfl, by simp only [List.length_nil]; omega, by simp only [maxLen, List.length_nil]; omega⟩)⟩
      refine AMx.seq ?_
      refine AMx.region (ces := []) (ks := [1, 2, 3, 6, 9, 10]) (hs := [3, 6, 9, 32]) (cs := []) (s' := AS.lst 74 [(1, vc (i6 w)), (2, vc (slI ns)), (3, vp 3 0), (6, vp 6 0), (9, vp 9 0), (10, vc (SC.nilsl))] [(3, AObj.row [.s (i6 s.1), .s (bo s.2.1), .s (i6 s.2.2.1), .s (slR s.2.2.2)]), (6, AObj.row [.s (i6 0), .s (bo false), .s (i6 0), .s (SC.nilsl)]), (9, AObj.row [.s (i6 s.1), .s (bo s.2.1), .s (i6 s.2.2.1), .own 32]), (32, AObj.grow 99 3 RowV (0, false, false) rowR ([] ++ s.2.2.2))]) (by kernel_rfl) ?_ ?_
      · exact trivial
      refine AMx.seq ?_
      refine AMx.seq ?_
      refine AMx.region (ces := []) (ks := [1, 2, 3, 6, 9, 10, 11]) (hs := [3, 6, 9, 32]) (cs := []) (s' := AS.lst 74 [(1, vc (i6 w)), (2, vc (slI ns)), (3, vp 3 0), (6, vp 6 0), (9, vp 9 0), (10, vc (SC.nilsl)), (11, vc (i6 0))] [(3, AObj.row [.s (i6 s.1), .s (bo s.2.1), .s (i6 s.2.2.1), .s (slR s.2.2.2)]), (6, AObj.row [.s (i6 0), .s (bo false), .s (i6 0), .s (SC.nilsl)]), (9, AObj.row [.s (i6 s.1), .s (bo s.2.1), .s (i6 s.2.2.1), .own 32]), (32, AObj.grow 99 3 RowV (0, false, false) rowR ([] ++ s.2.2.2))]) (by kernel_rfl) ?_ ?_
      · exact trivial
      refine AMx.block ?_
      refine AMx.ent (s' := AS.lst 74 [(1, vc (i6 w)), (2, vc (slI ns)), (3, vp 3 0), (6, vp 6 0), (9, vp 9 0), (10, vo 10), (11, vc (i6 0))] [(10, AObj.grow 3 1 Int 0 rowI []), (3, AObj.row [.s (i6 s.1), .s (bo s.2.1), .s (i6 s.2.2.1), .s (slR s.2.2.2)]), (6, AObj.row [.s (i6 0), .s (bo false), .s (i6 0), .s (SC.nilsl)]), (9, AObj.row [.s (i6 s.1), .s (bo s.2.1), .s (i6 s.2.2.1), .own 32]), (32, AObj.grow 99 3 RowV (0, false, false) rowR ([] ++ s.2.2.2))]) (ent_adopt (t := 10) (d := 10) 3 1 Int 0 rowI (by kernel_rfl) (by kernel_rfl) (by kernel_rfl) (by kernel_rfl)) ?_
      refine AMx.ent (s' := AS.lst 74 [(1, vc (i6 w)), (2, vc (slI ns)), (3, vp 3 0), (6, vp 6 0), (9, vp 9 0), (10, vo 10), (11, vc (i6 0))] [(3, AObj.row [.s (i6 s.1), .s (bo s.2.1), .s (i6 s.2.2.1), .s (slR s.2.2.2)]), (6, AObj.row [.s (i6 0), .s (bo false), .s (i6 0), .s (SC.nilsl)]), (9, AObj.row [.s (i6 s.1), .s (bo s.2.1), .s (i6 s.2.2.1), .own 32]), (10, AObj.grow 3 1 Int 0 rowI []), (32, AObj.grow 99 3 RowV (0, false, false) rowR ([] ++ s.2.2.2))]) (ent_proj [1, 2, 3, 6, 9, 10, 11] [3, 6, 9, 10, 32]) ?_
      refine AMx.loop (fun mm ss => ∃ (k : Nat) (pre : List RowV) (o2 : List Int) (o : List Int), (k ≤ s.2.2.2.length ∧ TurnI (whatC w) ns s.2.2.2 k pre o2 ∧ (w = 2 → o = o2) ∧ (¬ w = 2 → o = []) ∧ o.length ≤ k) ∧ mm = s.2.2.2.length - k ∧ ss = AS.lst 74 [(1, vc (i6 w)), (2, vc (slI ns)), (3, vp 3 0), (6, vp 6 0), (9, vp 9 0), (10, vo 10), (11, vc (i6 (k : Int)))] [(3, AObj.row [.s (i6 s.1), .s (bo s.2.1), .s (i6 s.2.2.1), .s (slR s.2.2.2)]), (6, AObj.row [.s (i6 0), .s (bo false), .s (i6 0), .s (SC.nilsl)]), (9, AObj.row [.s (i6 s.1), .s (bo s.2.1), .s (i6 s.2.2.1), .own 32]), (10, AObj.grow 3 1 Int 0 rowI o), (32, AObj.grow 99 3 RowV (0, false, false) rowR (pre ++ List.drop k s.2.2.2))]) ⟨0, [], [], [], ?_, rfl, ?_⟩ ?_
      · exact ⟨by omega, turn_start _ ns _, fun _ => rfl, fun _ => rfl, Nat.le_refl _⟩
      · rfl
      rintro mm ss ⟨k, pre, o2, o, ⟨hI, hT, h3, h4, hO⟩, rfl, rfl⟩
      have hl : (List.length (pre ++ List.drop k s.2.2.2) : Int) = (s.2.2.2.length : Nat) := by rw [pre_len hT.1 hI]
      refine AMx.seq ?_
      refine AMx.seq ?_
      refine AMx.region (ces := []) (ks := [1, 2, 3, 6, 9, 10, 11, 38]) (hs := [3, 6, 9, 10, 32]) (cs := []) (s' := AS.lst 74 [(1, vc (i6 w)), (2, vc (slI ns)), (3, vp 3 0), (6, vp 6 0), (9, vp 9 0), (10, vo 10), (11, vc (i6 (k : Int))), (38, vc (bo (decide ((k : Int) < (List.length s.2.2.2 : Int)))))] [(3, AObj.row [.s (i6 s.1), .s (bo s.2.1), .s (i6 s.2.2.1), .s (slR s.2.2.2)]), (6, AObj.row [.s (i6 0), .s (bo false), .s (i6 0), .s (SC.nilsl)]), (9, AObj.row [.s (i6 s.1), .s (bo s.2.1), .s (i6 s.2.2.1), .own 32]), (10, AObj.grow 3 1 Int 0 rowI o), (32, AObj.grow 99 3 RowV (0, false, false) rowR (pre ++ List.drop k s.2.2.2))]) (by kernel_rfl) ?_ ?_
      · exact trivial
      refine AMx.cond (b := decide ((k : Int) < (List.length s.2.2.2 : Int))) (by kernel_rfl) (fun hc3 => ?_) (fun hc3 => ?_)
      · try simp only [decide_eq_true_eq, decide_eq_false_iff_not] at hc3
        refine AMx.skip ?_
        refine AMx.seq ?_
        refine AMx.block ?_
        refine AMx.seq ?_
        refine AMx.region (ces := []) (ks := [1, 2, 3, 6, 9, 10, 11, 12]) (hs := [3, 6, 9, 10, 12, 32]) (cs := [(0 : Int) ≤ (k : Int), (k : Int) < List.length s.2.2.2]) (s' := AS.lst 74 [(1, vc (i6 w)), (2, vc (slI ns)), (3, vp 3 0), (6, vp 6 0), (9, vp 9 0), (10, vo 10), (11, vc (i6 (k : Int))), (12, vp 12 0)] [(3, AObj.row [.s (i6 s.1), .s (bo s.2.1), .s (i6 s.2.2.1), .s (slR s.2.2.2)]), (6, AObj.row [.s (i6 0), .s (bo false), .s (i6 0), .s (SC.nilsl)]), (9, AObj.row [.s (i6 s.1), .s (bo s.2.1), .s (i6 s.2.2.1), .own 32]), (10, AObj.grow 3 1 Int 0 rowI o), (12, AObj.row [.s (i6 ((List.getD s.2.2.2 k (0, false, false)).1)), .s (bo ((List.getD s.2.2.2 k (0, false, false)).2.1)), .s (bo ((List.getD s.2.2.2 k (0, false, false)).2.2))]), (32, AObj.grow 99 3 RowV (0, false, false) rowR (pre ++ List.drop k s.2.2.2))]) (by kernel_rfl) ?_ ?_
        · exact ⟨(show (0 : Int) ≤ (k : Int) from (by omega)), (show (k : Int) < List.length s.2.2.2 from (by omega))⟩
        refine AMx.seq ?_
        refine AMx.seq ?_
        refine AMx.region (ces := [(3, CE.call [] [] (vc (bo (decide (Meant ns k s.2.2.2.length (List.getD s.2.2.2 k (0, false, false)))))) [])]) (ks := [1, 2, 3, 6, 9, 10, 11, 12, 54]) (hs := [3, 6, 9, 10, 12, 32]) (cs := [Spec Try.prog 116 [TV.agg [.s (i6 s.1), .s (bo s.2.1), .s (i6 s.2.2.1), .s (slR s.2.2.2)], tc (i6 (k : Int)), tc (slI ns)] (ofH []) (vc (bo (decide (Meant ns k s.2.2.2.length (List.getD s.2.2.2 k (0, false, false)))))) (ofH []), ((!(decide (Meant ns k s.2.2.2.length (List.getD s.2.2.2 k (0, false, false))))) = false) → allP [], ((!(decide (Meant ns k s.2.2.2.length (List.getD s.2.2.2 k (0, false, false))))) = false) → allP [(!(decide (Meant ns k s.2.2.2.length (List.getD s.2.2.2 k (0, false, false))))) = false], (!(decide (Meant ns k s.2.2.2.length (List.getD s.2.2.2 k (0, false, false))))) = false → allP [(!(decide (Meant ns k s.2.2.2.length (List.getD s.2.2.2 k (0, false, false))))) = false]]) (s' := AS.lst 74 [(1, vc (i6 w)), (2, vc (slI ns)), (3, vp 3 0), (6, vp 6 0), (9, vp 9 0), (10, vo 10), (11, vc (i6 (k : Int))), (12, vp 12 0), (54, vc (bo ((!(decide (Meant ns k s.2.2.2.length (List.getD s.2.2.2 k (0, false, false))))) || ((List.getD s.2.2.2 k (0, false, false)).2.2))))] [(3, AObj.row [.s (i6 s.1), .s (bo s.2.1), .s (i6 s.2.2.1), .s (slR s.2.2.2)]), (6, AObj.row [.s (i6 0), .s (bo false), .s (i6 0), .s (SC.nilsl)]), (9, AObj.row [.s (i6 s.1), .s (bo s.2.1), .s (i6 s.2.2.1), .own 32]), (10, AObj.grow 3 1 Int 0 rowI o), (12, AObj.row [.s (i6 ((List.getD s.2.2.2 k (0, false, false)).1)), .s (bo ((List.getD s.2.2.2 k (0, false, false)).2.1)), .s (bo ((List.getD s.2.2.2 k (0, false, false)).2.2))]), (32, AObj.grow 99 3 RowV (0, false, false) rowR (pre ++ List.drop k s.2.2.2))]) (by kernel_rfl) ?_ ?_
        · exact ⟨(meant_c s k ns (by omega)), (fun _ => trivial), (fun hp => hp), (fun hp2 => (by first | exact hp2 | exact ⟨hp, hp2⟩))⟩
        refine AMx.cond (b := ((!(decide (Meant ns k s.2.2.2.length (List.getD s.2.2.2 k (0, false, false))))) || ((List.getD s.2.2.2 k (0, false, false)).2.2))) (by kernel_rfl) (fun hc4 => ?_) (fun hc4 => ?_)
        · try simp only [decide_eq_true_eq, decide_eq_false_iff_not, Bool.or_eq_true, Bool.or_eq_false_iff, Bool.not_eq_true', Bool.not_eq_false'] at hc4
          refine AMx.exit ?_
          refine AMx.code_exit ?_
          refine AMx.blk_exit ?_
          refine AMx.region (ces := []) (ks := [1, 2, 3, 6, 9, 10, 11]) (hs := [3, 6, 9, 10, 32]) (cs := [InR .i64 ((k : Int) + 1)]) (s' := AS.lst 74 [(1, vc (i6 w)), (2, vc (slI ns)), (3, vp 3 0), (6, vp 6 0), (9, vp 9 0), (10, vo 10), (11, vc (i6 ((k : Int) + 1)))] [(3, AObj.row [.s (i6 s.1), .s (bo s.2.1), .s (i6 s.2.2.1), .s (slR s.2.2.2)]), (6, AObj.row [.s (i6 0), .s (bo false), .s (i6 0), .s (SC.nilsl)]), (9, AObj.row [.s (i6 s.1), .s (bo s.2.1), .s (i6 s.2.2.1), .own 32]), (10, AObj.grow 3 1 Int 0 rowI o), (32, AObj.grow 99 3 RowV (0, false, false) rowR (pre ++ List.drop k s.2.2.2))]) (by kernel_rfl) ?_ ?_
          · exact (show InR .i64 ((k : Int) + 1) from (inR64 (by omega) (by omega)))
          refine AMx.ent_inv (s' := AS.lst 74 [(1, vc (i6 w)), (2, vc (slI ns)), (3, vp 3 0), (6, vp 6 0), (9, vp 9 0), (10, vo 10), (11, vc (i6 ((k : Int) + 1)))] [(3, AObj.row [.s (i6 s.1), .s (bo s.2.1), .s (i6 s.2.2.1), .s (slR s.2.2.2)]), (6, AObj.row [.s (i6 0), .s (bo false), .s (i6 0), .s (SC.nilsl)]), (9, AObj.row [.s (i6 s.1), .s (bo s.2.1), .s (i6 s.2.2.1), .own 32]), (10, AObj.grow 3 1 Int 0 rowI o), (32, AObj.grow 99 3 RowV (0, false, false) rowR (pre ++ List.drop k s.2.2.2))]) (ent_proj [1, 2, 3, 6, 9, 10, 11] [3, 6, 9, 10, 32]) ?_
          refine AMx.inv ⟨_, ?_, k + 1, pre ++ [(List.getD s.2.2.2 k (0, false, false))], o2, o, ?_, rfl, ?_⟩
          rotate_left
          · exact ⟨by omega, turn_no hT (by omega) (fun h => by rcases hc4 with q | q; exact q h.1; rw [h.2] at q; cases q), h3, h4, by omega⟩
          · rw [pre_keep (by omega)]; rfl
          · omega
        · try simp only [decide_eq_true_eq, decide_eq_false_iff_not, Bool.or_eq_true, Bool.or_eq_false_iff, Bool.not_eq_true', Bool.not_eq_false'] at hc4
          refine AMx.skip ?_
          refine AMx.seq ?_
          refine AMx.seq ?_
          refine AMx.region (ces := []) (ks := [1, 2, 3, 6, 9, 10, 11, 12, 56]) (hs := [3, 6, 9, 10, 12, 32]) (cs := []) (s' := AS.lst 74 [(1, vc (i6 w)), (2, vc (slI ns)), (3, vp 3 0), (6, vp 6 0), (9, vp 9 0), (10, vo 10), (11, vc (i6 (k : Int))), (12, vp 12 0), (56, vc (bo (decide (w = 2))))] [(3, AObj.row [.s (i6 s.1), .s (bo s.2.1), .s (i6 s.2.2.1), .s (slR s.2.2.2)]), (6, AObj.row [.s (i6 0), .s (bo false), .s (i6 0), .s (SC.nilsl)]), (9, AObj.row [.s (i6 s.1), .s (bo s.2.1), .s (i6 s.2.2.1), .own 32]), (10, AObj.grow 3 1 Int 0 rowI o), (12, AObj.row [.s (i6 ((List.getD s.2.2.2 k (0, false, false)).1)), .s (bo ((List.getD s.2.2.2 k (0, false, false)).2.1)), .s (bo ((List.getD s.2.2.2 k (0, false, false)).2.2))]), (32, AObj.grow 99 3 RowV (0, false, false) rowR (pre ++ List.drop k s.2.2.2))]) (by kernel_rfl) ?_ ?_
          · exact trivial
          refine AMx.cond (b := decide (w = 2)) (by kernel_rfl) (fun hc5 => ?_) (fun hc5 => ?_)
          · try simp only [decide_eq_true_eq, decide_eq_false_iff_not] at hc5
            refine AMx.seq ?_
            refine AMx.region (ces := []) (ks := [1, 2, 3, 6, 9, 10, 11, 12]) (hs := [3, 6, 9, 10, 12, 32]) (cs := []) (s' := AS.lst 74 [(1, vc (i6 w)), (2, vc (slI ns)), (3, vp 3 0), (6, vp 6 0), (9, vp 9 0), (10, vo 10), (11, vc (i6 (k : Int))), (12, vp 12 0)] [(3, AObj.row [.s (i6 s.1), .s (bo s.2.1), .s (i6 s.2.2.1), .s (slR s.2.2.2)]), (6, AObj.row [.s (i6 0), .s (bo false), .s (i6 0), .s (SC.nilsl)]), (9, AObj.row [.s (i6 s.1), .s (bo s.2.1), .s (i6 s.2.2.1), .own 32]), (10, AObj.grow 3 1 Int 0 rowI o), (12, AObj.row [.s (i6 ((List.getD s.2.2.2 k (0, false, false)).1)), .s (bo false), .s (bo true)]), (32, AObj.grow 99 3 RowV (0, false, false) rowR (pre ++ List.drop k s.2.2.2))]) (by kernel_rfl) ?_ ?_
            · exact trivial
            refine AMx.region (ces := [(3, CE.obj (AObj.grow 3 1 Int 0 rowI [(List.getD s.2.2.2 k (0, false, false)).1])), (4, CE.obj (AObj.grow 3 1 Int 0 rowI (o ++ [(List.getD s.2.2.2 k (0, false, false)).1])))]) (ks := [1, 2, 3, 6, 9, 10, 11, 12]) (hs := [3, 6, 9, 12, 32, 63]) (cs := [flat 1 rowI [(List.getD s.2.2.2 k (0, false, false)).1] = [.s (i6 ((List.getD s.2.2.2 k (0, false, false)).1))], List.length ([(List.getD s.2.2.2 k (0, false, false)).1] : List Int) = 1, AppC (flat 1 rowI [(List.getD s.2.2.2 k (0, false, false)).1]) (List.length ([(List.getD s.2.2.2 k (0, false, false)).1] : List Int)) 8 (AObj.grow 3 1 Int 0 rowI o) (AObj.grow 3 1 Int 0 rowI (o ++ [(List.getD s.2.2.2 k (0, false, false)).1]))]) (s' := AS.lst 74 [(1, vc (i6 w)), (2, vc (slI ns)), (3, vp 3 0), (6, vp 6 0), (9, vp 9 0), (10, vo 63), (11, vc (i6 (k : Int))), (12, vp 12 0)] [(3, AObj.row [.s (i6 s.1), .s (bo s.2.1), .s (i6 s.2.2.1), .s (slR s.2.2.2)]), (6, AObj.row [.s (i6 0), .s (bo false), .s (i6 0), .s (SC.nilsl)]), (9, AObj.row [.s (i6 s.1), .s (bo s.2.1), .s (i6 s.2.2.1), .own 32]), (12, AObj.row [.s (i6 ((List.getD s.2.2.2 k (0, false, false)).1)), .s (bo false), .s (bo true)]), (32, AObj.grow 99 3 RowV (0, false, false) rowR (pre ++ List.drop k s.2.2.2)), (63, AObj.grow 3 1 Int 0 rowI (o ++ [(List.getD s.2.2.2 k (0, false, false)).1]))]) (by kernel_rfl) ?_ ?_
            · exact ⟨rfl, rfl, (⟨_, rfl, rfl, rfl, by have := hO; simp only [List.length_cons, List.length_nil]; omega, by have := hO; simp only [maxLen, List.length_cons, List.length_nil]; omega⟩)⟩
            refine AMx.region (ces := [(5, CE.obj (AObj.grow 99 3 RowV (0, false, false) rowR (List.set (pre ++ List.drop k s.2.2.2) k (((List.getD s.2.2.2 k (0, false, false)).1, false, true) : RowV))))]) (ks := [1, 2, 3, 6, 9, 10, 11]) (hs := [3, 6, 9, 32, 63]) (cs := [(0 : Int) ≤ (k : Int), (k : Int) < List.length (pre ++ List.drop k s.2.2.2 : List RowV), StoreC k 0 [.s (i6 ((List.getD s.2.2.2 k (0, false, false)).1)), .s (bo false), .s (bo true)] (AObj.grow 99 3 RowV (0, false, false) rowR (pre ++ List.drop k s.2.2.2)) (AObj.grow 99 3 RowV (0, false, false) rowR (List.set (pre ++ List.drop k s.2.2.2) k (((List.getD s.2.2.2 k (0, false, false)).1, false, true) : RowV)))]) (s' := AS.lst 74 [(1, vc (i6 w)), (2, vc (slI ns)), (3, vp 3 0), (6, vp 6 0), (9, vp 9 0), (10, vo 63), (11, vc (i6 (k : Int)))] [(3, AObj.row [.s (i6 s.1), .s (bo s.2.1), .s (i6 s.2.2.1), .s (slR s.2.2.2)]), (6, AObj.row [.s (i6 0), .s (bo false), .s (i6 0), .s (SC.nilsl)]), (9, AObj.row [.s (i6 s.1), .s (bo s.2.1), .s (i6 s.2.2.1), .own 32]), (32, AObj.grow 99 3 RowV (0, false, false) rowR (List.set (pre ++ List.drop k s.2.2.2) k (((List.getD s.2.2.2 k (0, false, false)).1, false, true) : RowV))), (63, AObj.grow 3 1 Int 0 rowI (o ++ [(List.getD s.2.2.2 k (0, false, false)).1]))]) (by kernel_rfl) ?_ ?_
            · exact ⟨(show (0 : Int) ≤ (k : Int) from (by omega)), (show (k : Int) < List.length (pre ++ List.drop k s.2.2.2 : List RowV) from (by omega)), (⟨(((List.getD s.2.2.2 k (0, false, false)).1, false, true) : RowV), rfl, by omega, rfl⟩)⟩
            refine AMx.blk ?_
            refine AMx.region (ces := []) (ks := [1, 2, 3, 6, 9, 10, 11]) (hs := [3, 6, 9, 32, 63]) (cs := [InR .i64 ((k : Int) + 1)]) (s' := AS.lst 74 [(1, vc (i6 w)), (2, vc (slI ns)), (3, vp 3 0), (6, vp 6 0), (9, vp 9 0), (10, vo 63), (11, vc (i6 ((k : Int) + 1)))] [(3, AObj.row [.s (i6 s.1), .s (bo s.2.1), .s (i6 s.2.2.1), .s (slR s.2.2.2)]), (6, AObj.row [.s (i6 0), .s (bo false), .s (i6 0), .s (SC.nilsl)]), (9, AObj.row [.s (i6 s.1), .s (bo s.2.1), .s (i6 s.2.2.1), .own 32]), (32, AObj.grow 99 3 RowV (0, false, false) rowR (List.set (pre ++ List.drop k s.2.2.2) k (((List.getD s.2.2.2 k (0, false, false)).1, false, true) : RowV))), (63, AObj.grow 3 1 Int 0 rowI (o ++ [(List.getD s.2.2.2 k (0, false, false)).1]))]) (by kernel_rfl) ?_ ?_
            · exact (show InR .i64 ((k : Int) + 1) from (inR64 (by omega) (by omega)))
            refine AMx.ent_inv (s' := AS.lst 74 [(1, vc (i6 w)), (2, vc (slI ns)), (3, vp 3 0), (6, vp 6 0), (9, vp 9 0), (10, vo 10), (11, vc (i6 ((k : Int) + 1)))] [(3, AObj.row [.s (i6 s.1), .s (bo s.2.1), .s (i6 s.2.2.1), .s (slR s.2.2.2)]), (6, AObj.row [.s (i6 0), .s (bo false), .s (i6 0), .s (SC.nilsl)]), (9, AObj.row [.s (i6 s.1), .s (bo s.2.1), .s (i6 s.2.2.1), .own 32]), (32, AObj.grow 99 3 RowV (0, false, false) rowR (List.set (pre ++ List.drop k s.2.2.2) k (((List.getD s.2.2.2 k (0, false, false)).1, false, true) : RowV))), (10, AObj.grow 3 1 Int 0 rowI (o ++ [(List.getD s.2.2.2 k (0, false, false)).1]))]) (ent_swap 63 10 (by kernel_rfl) (by kernel_rfl)) ?_
            refine AMx.ent_inv (s' := AS.lst 74 [(1, vc (i6 w)), (2, vc (slI ns)), (3, vp 3 0), (6, vp 6 0), (9, vp 9 0), (10, vo 10), (11, vc (i6 ((k : Int) + 1)))] [(3, AObj.row [.s (i6 s.1), .s (bo s.2.1), .s (i6 s.2.2.1), .s (slR s.2.2.2)]), (6, AObj.row [.s (i6 0), .s (bo false), .s (i6 0), .s (SC.nilsl)]), (9, AObj.row [.s (i6 s.1), .s (bo s.2.1), .s (i6 s.2.2.1), .own 32]), (10, AObj.grow 3 1 Int 0 rowI (o ++ [(List.getD s.2.2.2 k (0, false, false)).1])), (32, AObj.grow 99 3 RowV (0, false, false) rowR (List.set (pre ++ List.drop k s.2.2.2) k (((List.getD s.2.2.2 k (0, false, false)).1, false, true) : RowV)))]) (ent_proj [1, 2, 3, 6, 9, 10, 11] [3, 6, 9, 10, 32]) ?_
            refine AMx.inv ⟨_, ?_, k + 1, pre ++ [whatC w (List.getD s.2.2.2 k (0, false, false))], o2 ++ [(List.getD s.2.2.2 k (0, false, false)).1], o ++ [(List.getD s.2.2.2 k (0, false, false)).1], ?_, rfl, ?_⟩
            rotate_left
            · exact ⟨by omega, turn_yes hT (by omega) hc4.1 hc4.2, fun h => by rw [h3 h], fun h => absurd hc5 h, by simp; omega⟩
            · rw [pre_set hT.1 (by omega), show whatC w (List.getD s.2.2.2 k (0, false, false)) = ((List.getD s.2.2.2 k (0, false, false)).1, false, true) from if_pos hc5]; rfl
            · omega
          · try simp only [decide_eq_true_eq, decide_eq_false_iff_not] at hc5
            refine AMx.region (ces := []) (ks := [1, 2, 3, 6, 9, 10, 11, 12]) (hs := [3, 6, 9, 10, 12, 32]) (cs := []) (s' := AS.lst 74 [(1, vc (i6 w)), (2, vc (slI ns)), (3, vp 3 0), (6, vp 6 0), (9, vp 9 0), (10, vo 10), (11, vc (i6 (k : Int))), (12, vp 12 0)] [(3, AObj.row [.s (i6 s.1), .s (bo s.2.1), .s (i6 s.2.2.1), .s (slR s.2.2.2)]), (6, AObj.row [.s (i6 0), .s (bo false), .s (i6 0), .s (SC.nilsl)]), (9, AObj.row [.s (i6 s.1), .s (bo s.2.1), .s (i6 s.2.2.1), .own 32]), (10, AObj.grow 3 1 Int 0 rowI o), (12, AObj.row [.s (i6 ((List.getD s.2.2.2 k (0, false, false)).1)), .s (bo (decide (w = 0))), .s (bo ((List.getD s.2.2.2 k (0, false, false)).2.2))]), (32, AObj.grow 99 3 RowV (0, false, false) rowR (pre ++ List.drop k s.2.2.2))]) (by kernel_rfl) ?_ ?_
            · exact trivial
            refine AMx.region (ces := [(5, CE.obj (AObj.grow 99 3 RowV (0, false, false) rowR (List.set (pre ++ List.drop k s.2.2.2) k (((List.getD s.2.2.2 k (0, false, false)).1, decide (w = 0), (List.getD s.2.2.2 k (0, false, false)).2.2) : RowV))))]) (ks := [1, 2, 3, 6, 9, 10, 11]) (hs := [3, 6, 9, 10, 32]) (cs := [(0 : Int) ≤ (k : Int), (k : Int) < List.length (pre ++ List.drop k s.2.2.2 : List RowV), StoreC k 0 [.s (i6 ((List.getD s.2.2.2 k (0, false, false)).1)), .s (bo (decide (w = 0))), .s (bo ((List.getD s.2.2.2 k (0, false, false)).2.2))] (AObj.grow 99 3 RowV (0, false, false) rowR (pre ++ List.drop k s.2.2.2)) (AObj.grow 99 3 RowV (0, false, false) rowR (List.set (pre ++ List.drop k s.2.2.2) k (((List.getD s.2.2.2 k (0, false, false)).1, decide (w = 0), (List.getD s.2.2.2 k (0, false, false)).2.2) : RowV)))]) (s' := AS.lst 74 [(1, vc (i6 w)), (2, vc (slI ns)), (3, vp 3 0), (6, vp 6 0), (9, vp 9 0), (10, vo 10), (11, vc (i6 (k : Int)))] [(3, AObj.row [.s (i6 s.1), .s (bo s.2.1), .s (i6 s.2.2.1), .s (slR s.2.2.2)]), (6, AObj.row [.s (i6 0), .s (bo false), .s (i6 0), .s (SC.nilsl)]), (9, AObj.row [.s (i6 s.1), .s (bo s.2.1), .s (i6 s.2.2.1), .own 32]), (10, AObj.grow 3 1 Int 0 rowI o), (32, AObj.grow 99 3 RowV (0, false, false) rowR (List.set (pre ++ List.drop k s.2.2.2) k (((List.getD s.2.2.2 k (0, false, false)).1, decide (w = 0), (List.getD s.2.2.2 k (0, false, false)).2.2) : RowV)))]) (by kernel_rfl) ?_ ?_
            · exact ⟨(show (0 : Int) ≤ (k : Int) from (by omega)), (show (k : Int) < List.length (pre ++ List.drop k s.2.2.2 : List RowV) from (by omega)), (⟨(((List.getD s.2.2.2 k (0, false, false)).1, decide (w = 0), (List.getD s.2.2.2 k (0, false, false)).2.2) : RowV), rfl, by omega, rfl⟩)⟩
            refine AMx.blk ?_
            refine AMx.region (ces := []) (ks := [1, 2, 3, 6, 9, 10, 11]) (hs := [3, 6, 9, 10, 32]) (cs := [InR .i64 ((k : Int) + 1)]) (s' := AS.lst 74 [(1, vc (i6 w)), (2, vc (slI ns)), (3, vp 3 0), (6, vp 6 0), (9, vp 9 0), (10, vo 10), (11, vc (i6 ((k : Int) + 1)))] [(3, AObj.row [.s (i6 s.1), .s (bo s.2.1), .s (i6 s.2.2.1), .s (slR s.2.2.2)]), (6, AObj.row [.s (i6 0), .s (bo false), .s (i6 0), .s (SC.nilsl)]), (9, AObj.row [.s (i6 s.1), .s (bo s.2.1), .s (i6 s.2.2.1), .own 32]), (10, AObj.grow 3 1 Int 0 rowI o), (32, AObj.grow 99 3 RowV (0, false, false) rowR (List.set (pre ++ List.drop k s.2.2.2) k (((List.getD s.2.2.2 k (0, false, false)).1, decide (w = 0), (List.getD s.2.2.2 k (0, false, false)).2.2) : RowV)))]) (by kernel_rfl) ?_ ?_
            · exact (show InR .i64 ((k : Int) + 1) from (inR64 (by omega) (by omega)))
            refine AMx.ent_inv (s' := AS.lst 74 [(1, vc (i6 w)), (2, vc (slI ns)), (3, vp 3 0), (6, vp 6 0), (9, vp 9 0), (10, vo 10), (11, vc (i6 ((k : Int) + 1)))] [(3, AObj.row [.s (i6 s.1), .s (bo s.2.1), .s (i6 s.2.2.1), .s (slR s.2.2.2)]), (6, AObj.row [.s (i6 0), .s (bo false), .s (i6 0), .s (SC.nilsl)]), (9, AObj.row [.s (i6 s.1), .s (bo s.2.1), .s (i6 s.2.2.1), .own 32]), (10, AObj.grow 3 1 Int 0 rowI o), (32, AObj.grow 99 3 RowV (0, false, false) rowR (List.set (pre ++ List.drop k s.2.2.2) k (((List.getD s.2.2.2 k (0, false, false)).1, decide (w = 0), (List.getD s.2.2.2 k (0, false, false)).2.2) : RowV)))]) (ent_proj [1, 2, 3, 6, 9, 10, 11] [3, 6, 9, 10, 32]) ?_
            refine AMx.inv ⟨_, ?_, k + 1, pre ++ [whatC w (List.getD s.2.2.2 k (0, false, false))], o2 ++ [(List.getD s.2.2.2 k (0, false, false)).1], o, ?_, rfl, ?_⟩
            rotate_left
            · exact ⟨by omega, turn_yes hT (by omega) hc4.1 hc4.2, fun h => absurd h hc5, h4, by omega⟩
            · rw [pre_set hT.1 (by omega), show whatC w (List.getD s.2.2.2 k (0, false, false)) = ((List.getD s.2.2.2 k (0, false, false)).1, decide (w = 0), (List.getD s.2.2.2 k (0, false, false)).2.2) from if_neg hc5]; rfl
            · omega
      · try simp only [decide_eq_true_eq, decide_eq_false_iff_not] at hc3
        refine AMx.exit ?_
        refine AMx.code_exit ?_
        refine AMx.inv_exit ?_
        refine AMx.blk_exit ?_
        refine AMx.seq ?_
        refine AMx.region (ces := []) (ks := [6, 7, 8]) (hs := [6, 10, 32]) (cs := []) (s' := AS.lst 74 [(6, vp 6 0), (7, vo 10), (8, vc (i6 0))] [(6, AObj.row [.s (i6 s.1), .s (bo s.2.1), .s (i6 s.2.2.1), .own 32]), (10, AObj.grow 3 1 Int 0 rowI o), (32, AObj.grow 99 3 RowV (0, false, false) rowR (pre ++ List.drop k s.2.2.2))]) (by kernel_rfl) ?_ ?_
        · exact trivial
        refine AMx.ent (s' := AS.lst 74 [(6, vp 6 0), (7, vo 10), (8, vc (i6 0))] [(6, AObj.row [.s (i6 s.1), .s (bo s.2.1), .s (i6 s.2.2.1), .s (slR (pre ++ List.drop k s.2.2.2))]), (10, AObj.grow 3 1 Int 0 rowI o)]) (ent_freeze (id := 32) (T := 99) (by kernel_rfl)) ?_
        refine AMx.ent (s' := AS.lst 74 [(6, vp 6 0), (7, vc (slI o)), (8, vc (i6 0))] [(6, AObj.row [.s (i6 s.1), .s (bo s.2.1), .s (i6 s.2.2.1), .s (slR (pre ++ List.drop k s.2.2.2))])]) (ent_freeze (id := 10) (T := 3) (by kernel_rfl)) ?_
        refine AMx.ret ?_
        exact RetP.mk (r := AV.tup [TV.agg [.s (i6 s.1), .s (bo s.2.1), .s (i6 s.2.2.1), .s (slR (pre ++ List.drop k s.2.2.2))], tc (slI o), tc (i6 0)]) (by kernel_rfl) (by rw [show refTurn w s ns = (((s.1, s.2.1, s.2.2.1, pre ++ List.drop k s.2.2.2) : Sec), o, 0) from by first | exact refT_arg hc1 | exact refT_none hc1 (List.eq_nil_of_length_eq_zero (by omega)) | exact refT_fin hc1 (fun e => by rw [e] at hc2; exact hc2 rfl) hT (by omega) h3 h4])

end AL.Secret
