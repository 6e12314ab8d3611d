/- route: the contracts of its functions, by their walks. No condition. -/
import Derived.Test.YtnhbmbpdcoookaaDoorRouteF
namespace AL.Route
open Go Go.Proofs AL AL.Rune
set_option linter.unusedVariables false
set_option linter.unusedSimpArgs false

theorem f24_body : Tryd.f24.body = some (.seq (.region 0 (rg Tryd.f24 0) false) (.seq (.seq (.region 1 (rg Tryd.f24 1) false) (.cond (.tmp 10) (.seq (.region 2 (rg Tryd.f24 2) false) (.ret)) (.skip))) (.seq (.region 3 (rg Tryd.f24 3) false) (.seq (.region 4 (rg Tryd.f24 4) false) (.ret))))) := by kernel_rfl

set_option maxRecDepth 100000 in
set_option maxHeartbeats 8000000 in
theorem whole_c (s : Bytes) (i : Nat) (hi : i < s.length) (hb : s.length ≤ 100000) : Pure Tryd.prog 24 [tc (st s), tc (i6 (i : Int)), tc (i3 ((decS s i).1 : Int))] (vc (bo (!badR ((decS s i).1, List.take (decS s i).2 (List.drop i s))))) := by
  refine Pure.of_body Tryd.func24 f24_body (by kernel_rfl) Tryd.ntmps24 (by kernel_rfl) (by kernel_rfl) ?_
  refine AMx.seq ?_
  refine AMx.region (ces := []) (ks := [0, 1, 2]) (hs := []) (cs := []) (s' := AS.lst 20 [(0, vc (st s)), (1, vc (i6 (i : Int))), (2, vc (i3 ((decS s i).1 : Int)))] []) (by kernel_rfl) ?_ ?_
  · exact trivial
  refine AMx.seq ?_
  refine AMx.seq ?_
  refine AMx.region (ces := []) (ks := [0, 1, 10]) (hs := []) (cs := []) (s' := AS.lst 20 [(0, vc (st s)), (1, vc (i6 (i : Int))), (10, vc (bo (!decide (((decS s i).1 : Int) = 65533))))] []) (by kernel_rfl) ?_ ?_
  · exact trivial
  refine AMx.cond (b := !decide (((decS s i).1 : Int) = 65533)) (by kernel_rfl) (fun hc1 => ?_) (fun hc1 => ?_)
  · try simp only [decide_eq_true_eq, decide_eq_false_iff_not, Bool.not_eq_true', Bool.not_eq_false'] at hc1
    refine AMx.seq ?_
    refine AMx.region (ces := []) (ks := [6]) (hs := []) (cs := []) (s' := AS.lst 20 [(6, vc (bo true))] []) (by kernel_rfl) ?_ ?_
    · exact trivial
    refine AMx.ret ?_
    exact RetP.mk (r := vc (bo true)) (by kernel_rfl) (by rw [whole_t (by omega)])
  · try simp only [decide_eq_true_eq, decide_eq_false_iff_not, Bool.not_eq_true', Bool.not_eq_false'] at hc1
    refine AMx.skip ?_
    refine AMx.seq ?_
    refine AMx.region (ces := [(3, CE.call [] [] (AV.tup [tc (i3 ((decS (List.drop i s) 0).1 : Int)), tc (i6 ((decS (List.drop i s) 0).2 : Int))]) [])]) (ks := [8]) (hs := []) (cs := [0 ≤ (i : Int), (i : Int) ≤ List.length s, Spec Tryd.prog 32 [tc (st (List.drop i s))] (ofH []) (AV.tup [tc (i3 ((decS (List.drop i s) 0).1 : Int)), tc (i6 ((decS (List.drop i s) 0).2 : Int))]) (ofH [])]) (s' := AS.lst 20 [(8, vc (i6 ((decS (List.drop i s) 0).2 : Int)))] []) (by kernel_rfl) ?_ ?_
    · exact ⟨(show 0 ≤ (i : Int) from (by omega)), (show (i : Int) ≤ List.length s from (by omega)), (DecodeRune_c (List.drop i s) (by intro e; have := congrArg List.length e; rw [List.length_drop] at this; simp only [List.length_nil] at this; omega))⟩
    refine AMx.seq ?_
    refine AMx.region (ces := []) (ks := [6]) (hs := []) (cs := []) (s' := AS.lst 20 [(6, vc (bo (decide (1 < ((decS (List.drop i s) 0).2 : Int)))))] []) (by kernel_rfl) ?_ ?_
    · exact trivial
    refine AMx.ret ?_
    exact RetP.mk (r := vc (bo (decide (1 < ((decS (List.drop i s) 0).2 : Int))))) (by kernel_rfl) (by rw [whole_f hi (by omega)])

theorem f14_body : Tryd.f14.body = some (.seq (.region 0 (rg Tryd.f14 0) false) (.seq (.region 1 (rg Tryd.f14 1) false) (.seq (.seq (.region 2 (rg Tryd.f14 2) false) (.block 0 (.loop (.seq (.region 3 (rg Tryd.f14 3) false) (.seq (.cond (.tmp 11) (.skip) (.exit 0)) (.block 1 (.seq (.region 4 (rg Tryd.f14 4) false) (.seq (.seq (.region 5 (rg Tryd.f14 5) false) (.cond (.tmp 18) (.region 6 (rg Tryd.f14 6) false) (.skip))) (.region 7 (rg Tryd.f14 7) false))))))))) (.seq (.region 8 (rg Tryd.f14 8) false) (.ret))))) := by kernel_rfl

set_option maxRecDepth 100000 in
set_option maxHeartbeats 8000000 in
theorem RtCount_c (s : Bytes) (hb : s.length ≤ 100000) : Pure Tryd.prog 14 [tc (st s)] (AV.tup [tc (i6 ((countS s).1)), tc (i6 ((countS s).2))]) := by
  refine Pure.of_body Tryd.func14 f14_body (by kernel_rfl) Tryd.ntmps14 (by kernel_rfl) (by kernel_rfl) ?_
  refine AMx.seq ?_
  refine AMx.region (ces := []) (ks := [0]) (hs := []) (cs := []) (s' := AS.lst 23 [(0, vc (st s))] []) (by kernel_rfl) ?_ ?_
  · exact trivial
  refine AMx.seq ?_
  refine AMx.region (ces := []) (ks := [0, 4, 5]) (hs := []) (cs := []) (s' := AS.lst 23 [(0, vc (st s)), (4, vc (i6 0)), (5, vc (i6 0))] []) (by kernel_rfl) ?_ ?_
  · exact trivial
  refine AMx.seq ?_
  refine AMx.seq ?_
  refine AMx.region (ces := []) (ks := [0, 4, 5, 9]) (hs := [9]) (cs := []) (s' := AS.lst 23 [(0, vc (st s)), (4, vc (i6 0)), (5, vc (i6 0)), (9, vp 9 0)] [(9, AObj.iter s 0)]) (by kernel_rfl) ?_ ?_
  · exact trivial
  refine AMx.block ?_
  refine AMx.ent (s' := AS.lst 23 [(0, vc (st s)), (4, vc (i6 0)), (5, vc (i6 0)), (9, vp 9 0)] [(9, AObj.iter s 0)]) (ent_proj [0, 4, 5, 9] [9]) ?_
  refine AMx.loop (fun mm ss => ∃ (pos : Nat) (n : Nat) (e : Int), (pos ≤ s.length ∧ LeftBad s pos e ∧ LeftN s pos n) ∧ mm = s.length - pos ∧ ss = AS.lst 23 [(0, vc (st s)), (4, vc (i6 (n : Int))), (5, vc (i6 e)), (9, vp 9 0)] [(9, AObj.iter s pos)]) ⟨0, 0, 0, ?_, rfl, ?_⟩ ?_
  · exact ⟨Nat.zero_le _, bad_0 s, leftN_0 s⟩
  · rfl
  rintro mm ss ⟨pos, n, e, ⟨hI, hA, hN⟩, rfl, rfl⟩
  refine AMx.seq ?_
  rcases Nat.lt_or_ge pos (List.length s) with hn1 | hn1
  · have hd1 := AL.Rune.dec_ok hn1
    refine AMx.region (ces := [(0, CE.str [])]) (ks := [0, 4, 5, 9, 10, 11]) (hs := [9]) (cs := [pos < List.length s, ((pos : Nat) : Int) ≤ 9223372036854775807]) (s' := AS.lst 23 [(0, vc (st s)), (4, vc (i6 (n : Int))), (5, vc (i6 e)), (9, vp 9 0), (10, AV.tup [tc (bo true), tc (i6 (pos : Int)), tc (i3 ((decS s pos).1 : Int))]), (11, vc (bo true))] [(9, AObj.iter s (pos + (decS s pos).2))]) (by kernel_rfl) ?_ ?_
    · exact ⟨(show pos < List.length s from (by first | omega | (have hz := leftN_le hN; omega))), (show ((pos : Nat) : Int) ≤ 9223372036854775807 from (by first | omega | (have hz := leftN_le hN; omega)))⟩
    refine AMx.seq ?_
    refine AMx.cond (b := true) (by kernel_rfl) (fun hc1 => ?_) (fun hc1 => ?_)
    · skip
      refine AMx.skip ?_
      refine AMx.block ?_
      refine AMx.seq ?_
      refine AMx.region (ces := []) (ks := [0, 4, 5, 6, 7, 9]) (hs := [9]) (cs := []) (s' := AS.lst 23 [(0, vc (st s)), (4, vc (i6 (n : Int))), (5, vc (i6 e)), (6, vc (i6 (pos : Int))), (7, vc (i3 ((decS s pos).1 : Int))), (9, vp 9 0)] [(9, AObj.iter s (pos + (decS s pos).2))]) (by kernel_rfl) ?_ ?_
      · exact trivial
      refine AMx.seq ?_
      refine AMx.seq ?_
      refine AMx.region (ces := [(3, CE.call [] [] (vc (bo (!badR ((decS s pos).1, List.take (decS s pos).2 (List.drop pos s))))) [])]) (ks := [0, 4, 5, 9, 18]) (hs := [9]) (cs := [Spec Tryd.prog 24 [tc (st s), tc (i6 (pos : Int)), tc (i3 ((decS s pos).1 : Int))] (ofH []) (vc (bo (!badR ((decS s pos).1, List.take (decS s pos).2 (List.drop pos s))))) (ofH [])]) (s' := AS.lst 23 [(0, vc (st s)), (4, vc (i6 (n : Int))), (5, vc (i6 e)), (9, vp 9 0), (18, vc (bo (!(!badR ((decS s pos).1, List.take (decS s pos).2 (List.drop pos s))))))] [(9, AObj.iter s (pos + (decS s pos).2))]) (by kernel_rfl) ?_ ?_
      · exact (whole_c s pos (by omega) hb)
      refine AMx.cond (b := !(!badR ((decS s pos).1, List.take (decS s pos).2 (List.drop pos s)))) (by kernel_rfl) (fun hc2 => ?_) (fun hc2 => ?_)
      · try simp only [decide_eq_true_eq, decide_eq_false_iff_not, Bool.not_eq_true', Bool.not_eq_false'] at hc2
        refine AMx.region (ces := []) (ks := [0, 4, 5, 9]) (hs := [9]) (cs := []) (s' := AS.lst 23 [(0, vc (st s)), (4, vc (i6 (n : Int))), (5, vc (i6 4)), (9, vp 9 0)] [(9, AObj.iter s (pos + (decS s pos).2))]) (by kernel_rfl) ?_ ?_
        · exact trivial
        refine AMx.region (ces := []) (ks := [0, 4, 5, 9]) (hs := [9]) (cs := [InR .i64 ((n : Int) + 1)]) (s' := AS.lst 23 [(0, vc (st s)), (4, vc (i6 ((n : Int) + 1))), (5, vc (i6 4)), (9, vp 9 0)] [(9, AObj.iter s (pos + (decS s pos).2))]) (by kernel_rfl) ?_ ?_
        · exact (show InR .i64 ((n : Int) + 1) from (inR64 (by first | omega | (have hz := leftN_le hN; omega)) (by first | omega | (have hz := leftN_le hN; omega))))
        refine AMx.blk ?_
        refine AMx.ent_inv (s' := AS.lst 23 [(0, vc (st s)), (4, vc (i6 ((n : Int) + 1))), (5, vc (i6 4)), (9, vp 9 0)] [(9, AObj.iter s (pos + (decS s pos).2))]) (ent_proj [0, 4, 5, 9] [9]) ?_
        refine AMx.inv ⟨_, ?_, pos + (decS s pos).2, n + 1, 4, ?_, rfl, ?_⟩
        rotate_left
        · exact ⟨by omega, bad_hit (by omega) hA (by simpa using hc2), leftN_step (by omega) hN⟩
        · rfl
        · omega
      · try simp only [decide_eq_true_eq, decide_eq_false_iff_not, Bool.not_eq_true', Bool.not_eq_false'] at hc2
        refine AMx.skip ?_
        refine AMx.region (ces := []) (ks := [0, 4, 5, 9]) (hs := [9]) (cs := [InR .i64 ((n : Int) + 1)]) (s' := AS.lst 23 [(0, vc (st s)), (4, vc (i6 ((n : Int) + 1))), (5, vc (i6 e)), (9, vp 9 0)] [(9, AObj.iter s (pos + (decS s pos).2))]) (by kernel_rfl) ?_ ?_
        · exact (show InR .i64 ((n : Int) + 1) from (inR64 (by first | omega | (have hz := leftN_le hN; omega)) (by first | omega | (have hz := leftN_le hN; omega))))
        refine AMx.blk ?_
        refine AMx.ent_inv (s' := AS.lst 23 [(0, vc (st s)), (4, vc (i6 ((n : Int) + 1))), (5, vc (i6 e)), (9, vp 9 0)] [(9, AObj.iter s (pos + (decS s pos).2))]) (ent_proj [0, 4, 5, 9] [9]) ?_
        refine AMx.inv ⟨_, ?_, pos + (decS s pos).2, n + 1, e, ?_, rfl, ?_⟩
        rotate_left
        · exact ⟨by omega, bad_not (by omega) hA (by simpa using hc2), leftN_step (by omega) hN⟩
        · rfl
        · omega
    · skip
      cases hc1
  · skip
    refine AMx.region (ces := []) (ks := [0, 4, 5, 9, 10, 11]) (hs := [9]) (cs := [List.length s ≤ pos]) (s' := AS.lst 23 [(0, vc (st s)), (4, vc (i6 (n : Int))), (5, vc (i6 e)), (9, vp 9 0), (10, AV.tup [tc (bo false)]), (11, vc (bo false))] [(9, AObj.iter s pos)]) (by kernel_rfl) ?_ ?_
    · exact (show List.length s ≤ pos from (by first | omega | (have hz := leftN_le hN; omega)))
    refine AMx.seq ?_
    refine AMx.cond (b := false) (by kernel_rfl) (fun hc3 => ?_) (fun hc3 => ?_)
    · skip
      cases hc3
    · skip
      refine AMx.exit ?_
      refine AMx.code_exit ?_
      refine AMx.inv_exit ?_
      refine AMx.blk_exit ?_
      refine AMx.seq ?_
      refine AMx.region (ces := []) (ks := [2, 3]) (hs := []) (cs := []) (s' := AS.lst 23 [(2, vc (i6 (n : Int))), (3, vc (i6 e))] []) (by kernel_rfl) ?_ ?_
      · exact trivial
      refine AMx.ret ?_
      exact RetP.mk (r := AV.tup [tc (i6 (n : Int)), tc (i6 e)]) (by kernel_rfl) (by rw [show countS s = ((n : Int), e) from by unfold countS; rw [leftN_end (by omega) hN, bad_end (by omega) hA]])

theorem f15_body : Tryd.f15.body = some (.seq (.region 0 (rg Tryd.f15 0) false) (.seq (.region 1 (rg Tryd.f15 1) false) (.seq (.seq (.region 2 (rg Tryd.f15 2) false) (.block 0 (.loop (.seq (.seq (.region 3 (rg Tryd.f15 3) false) (.cond (.tmp 12) (.skip) (.exit 0))) (.block 1 (.seq (.region 4 (rg Tryd.f15 4) false) (.seq (.seq (.region 5 (rg Tryd.f15 5) false) (.cond (.tmp 20) (.region 6 (rg Tryd.f15 6) false) (.skip))) (.seq (.region 7 (rg Tryd.f15 7) false) (.region 8 (rg Tryd.f15 8) false))))))))) (.seq (.region 9 (rg Tryd.f15 9) false) (.ret))))) := by kernel_rfl

set_option maxRecDepth 100000 in
set_option maxHeartbeats 8000000 in
theorem RCount_c (s : Bytes) (hb : s.length ≤ 100000) : Pure Tryd.prog 15 [tc (st s)] (AV.tup [tc (i6 ((countS s).1)), tc (i6 ((countS s).2))]) := by
  refine Pure.of_body Tryd.func15 f15_body (by kernel_rfl) Tryd.ntmps15 (by kernel_rfl) (by kernel_rfl) ?_
  refine AMx.seq ?_
  refine AMx.region (ces := []) (ks := [0]) (hs := []) (cs := []) (s' := AS.lst 28 [(0, vc (st s))] []) (by kernel_rfl) ?_ ?_
  · exact trivial
  refine AMx.seq ?_
  refine AMx.region (ces := []) (ks := [0, 4, 5]) (hs := []) (cs := []) (s' := AS.lst 28 [(0, vc (st s)), (4, vc (i6 0)), (5, vc (i6 0))] []) (by kernel_rfl) ?_ ?_
  · exact trivial
  refine AMx.seq ?_
  refine AMx.seq ?_
  refine AMx.region (ces := []) (ks := [0, 4, 5, 6]) (hs := []) (cs := []) (s' := AS.lst 28 [(0, vc (st s)), (4, vc (i6 0)), (5, vc (i6 0)), (6, vc (i6 0))] []) (by kernel_rfl) ?_ ?_
  · exact trivial
  refine AMx.block ?_
  refine AMx.ent (s' := AS.lst 28 [(0, vc (st s)), (4, vc (i6 0)), (5, vc (i6 0)), (6, vc (i6 0))] []) (ent_proj [0, 4, 5, 6] []) ?_
  refine AMx.loop (fun mm ss => ∃ (pos : Nat) (n : Nat) (e : Int), (pos ≤ s.length ∧ LeftBad s pos e ∧ LeftN s pos n) ∧ mm = s.length - pos ∧ ss = AS.lst 28 [(0, vc (st s)), (4, vc (i6 (n : Int))), (5, vc (i6 e)), (6, vc (i6 (pos : Int)))] []) ⟨0, 0, 0, ?_, rfl, ?_⟩ ?_
  · exact ⟨Nat.zero_le _, bad_0 s, leftN_0 s⟩
  · rfl
  rintro mm ss ⟨pos, n, e, ⟨hI, hA, hN⟩, rfl, rfl⟩
  refine AMx.seq ?_
  refine AMx.seq ?_
  refine AMx.region (ces := []) (ks := [0, 4, 5, 6, 12]) (hs := []) (cs := []) (s' := AS.lst 28 [(0, vc (st s)), (4, vc (i6 (n : Int))), (5, vc (i6 e)), (6, vc (i6 (pos : Int))), (12, vc (bo (decide ((pos : Int) < (List.length s : Int)))))] []) (by kernel_rfl) ?_ ?_
  · exact trivial
  refine AMx.cond (b := decide ((pos : Int) < (List.length s : Int))) (by kernel_rfl) (fun hc1 => ?_) (fun hc1 => ?_)
  · try simp only [decide_eq_true_eq, decide_eq_false_iff_not] at hc1
    refine AMx.skip ?_
    refine AMx.block ?_
    refine AMx.seq ?_
    refine AMx.region (ces := [(2, CE.call [] [] (AV.tup [tc (i6 ((nextS s pos).1)), tc (i6 ((nextS s pos).2))]) [])]) (ks := [0, 4, 5, 6, 7, 8]) (hs := []) (cs := [Spec Tryd.prog 22 [tc (st s), tc (i6 (pos : Int))] (ofH []) (AV.tup [tc (i6 ((nextS s pos).1)), tc (i6 ((nextS s pos).2))]) (ofH [])]) (s' := AS.lst 28 [(0, vc (st s)), (4, vc (i6 (n : Int))), (5, vc (i6 e)), (6, vc (i6 (pos : Int))), (7, vc (i6 ((nextS s pos).1))), (8, vc (i6 ((nextS s pos).2)))] []) (by kernel_rfl) ?_ ?_
    · exact (Next_c s pos (by omega) (by omega))
    refine AMx.seq ?_
    refine AMx.seq ?_
    refine AMx.region (ces := []) (ks := [0, 4, 5, 6, 8, 20]) (hs := []) (cs := []) (s' := AS.lst 28 [(0, vc (st s)), (4, vc (i6 (n : Int))), (5, vc (i6 e)), (6, vc (i6 (pos : Int))), (8, vc (i6 ((nextS s pos).2))), (20, vc (bo (decide ((nextS s pos).1 < 0))))] []) (by kernel_rfl) ?_ ?_
    · exact trivial
    refine AMx.cond (b := decide ((nextS s pos).1 < 0)) (by kernel_rfl) (fun hc2 => ?_) (fun hc2 => ?_)
    · try simp only [decide_eq_true_eq, decide_eq_false_iff_not] at hc2
      refine AMx.region (ces := []) (ks := [0, 4, 5, 6, 8]) (hs := []) (cs := []) (s' := AS.lst 28 [(0, vc (st s)), (4, vc (i6 (n : Int))), (5, vc (i6 4)), (6, vc (i6 (pos : Int))), (8, vc (i6 ((nextS s pos).2)))] []) (by kernel_rfl) ?_ ?_
      · exact trivial
      refine AMx.seq ?_
      refine AMx.region (ces := []) (ks := [0, 4, 5, 6, 8]) (hs := []) (cs := [InR .i64 ((n : Int) + 1)]) (s' := AS.lst 28 [(0, vc (st s)), (4, vc (i6 ((n : Int) + 1))), (5, vc (i6 4)), (6, vc (i6 (pos : Int))), (8, vc (i6 ((nextS s pos).2)))] []) (by kernel_rfl) ?_ ?_
      · exact (show InR .i64 ((n : Int) + 1) from (inR64 (by first | omega | (have hz := leftN_le hN; omega) | (have hs := next_size (s := s) (i := pos) (by omega); have hd := dec_ok (s := s) (pos := pos) (by omega); omega)) (by first | omega | (have hz := leftN_le hN; omega) | (have hs := next_size (s := s) (i := pos) (by omega); have hd := dec_ok (s := s) (pos := pos) (by omega); omega))))
      refine AMx.region (ces := []) (ks := [0, 4, 5, 6]) (hs := []) (cs := [InR .i64 ((pos : Int) + ((nextS s pos).2))]) (s' := AS.lst 28 [(0, vc (st s)), (4, vc (i6 ((n : Int) + 1))), (5, vc (i6 4)), (6, vc (i6 ((pos : Int) + ((nextS s pos).2))))] []) (by kernel_rfl) ?_ ?_
      · exact (show InR .i64 ((pos : Int) + ((nextS s pos).2)) from (inR64 (by first | omega | (have hz := leftN_le hN; omega) | (have hs := next_size (s := s) (i := pos) (by omega); have hd := dec_ok (s := s) (pos := pos) (by omega); omega)) (by first | omega | (have hz := leftN_le hN; omega) | (have hs := next_size (s := s) (i := pos) (by omega); have hd := dec_ok (s := s) (pos := pos) (by omega); omega))))
      refine AMx.blk ?_
      refine AMx.ent_inv (s' := AS.lst 28 [(0, vc (st s)), (4, vc (i6 ((n : Int) + 1))), (5, vc (i6 4)), (6, vc (i6 ((pos : Int) + ((nextS s pos).2))))] []) (ent_proj [0, 4, 5, 6] []) ?_
      refine AMx.inv ⟨_, ?_, pos + (decS s pos).2, n + 1, 4, ?_, rfl, ?_⟩
      rotate_left
      · have hd := dec_ok (s := s) (pos := pos) (by omega); exact ⟨by omega, bad_hit (by omega) hA (by rw [bad_dec (by omega)]; exact decide_eq_true (by assumption)), leftN_step (by omega) hN⟩
      · rw [next_size (by omega)]; rfl
      · have hd := dec_ok (s := s) (pos := pos) (by omega); omega
    · try simp only [decide_eq_true_eq, decide_eq_false_iff_not] at hc2
      refine AMx.skip ?_
      refine AMx.seq ?_
      refine AMx.region (ces := []) (ks := [0, 4, 5, 6, 8]) (hs := []) (cs := [InR .i64 ((n : Int) + 1)]) (s' := AS.lst 28 [(0, vc (st s)), (4, vc (i6 ((n : Int) + 1))), (5, vc (i6 e)), (6, vc (i6 (pos : Int))), (8, vc (i6 ((nextS s pos).2)))] []) (by kernel_rfl) ?_ ?_
      · exact (show InR .i64 ((n : Int) + 1) from (inR64 (by first | omega | (have hz := leftN_le hN; omega) | (have hs := next_size (s := s) (i := pos) (by omega); have hd := dec_ok (s := s) (pos := pos) (by omega); omega)) (by first | omega | (have hz := leftN_le hN; omega) | (have hs := next_size (s := s) (i := pos) (by omega); have hd := dec_ok (s := s) (pos := pos) (by omega); omega))))
      refine AMx.region (ces := []) (ks := [0, 4, 5, 6]) (hs := []) (cs := [InR .i64 ((pos : Int) + ((nextS s pos).2))]) (s' := AS.lst 28 [(0, vc (st s)), (4, vc (i6 ((n : Int) + 1))), (5, vc (i6 e)), (6, vc (i6 ((pos : Int) + ((nextS s pos).2))))] []) (by kernel_rfl) ?_ ?_
      · exact (show InR .i64 ((pos : Int) + ((nextS s pos).2)) from (inR64 (by first | omega | (have hz := leftN_le hN; omega) | (have hs := next_size (s := s) (i := pos) (by omega); have hd := dec_ok (s := s) (pos := pos) (by omega); omega)) (by first | omega | (have hz := leftN_le hN; omega) | (have hs := next_size (s := s) (i := pos) (by omega); have hd := dec_ok (s := s) (pos := pos) (by omega); omega))))
      refine AMx.blk ?_
      refine AMx.ent_inv (s' := AS.lst 28 [(0, vc (st s)), (4, vc (i6 ((n : Int) + 1))), (5, vc (i6 e)), (6, vc (i6 ((pos : Int) + ((nextS s pos).2))))] []) (ent_proj [0, 4, 5, 6] []) ?_
      refine AMx.inv ⟨_, ?_, pos + (decS s pos).2, n + 1, e, ?_, rfl, ?_⟩
      rotate_left
      · have hd := dec_ok (s := s) (pos := pos) (by omega); exact ⟨by omega, bad_not (by omega) hA (by rw [bad_dec (by omega)]; exact decide_eq_false (by assumption)), leftN_step (by omega) hN⟩
      · rw [next_size (by omega)]; rfl
      · have hd := dec_ok (s := s) (pos := pos) (by omega); omega
  · try simp only [decide_eq_true_eq, decide_eq_false_iff_not] at hc1
    refine AMx.exit ?_
    refine AMx.code_exit ?_
    refine AMx.inv_exit ?_
    refine AMx.blk_exit ?_
    refine AMx.seq ?_
    refine AMx.region (ces := []) (ks := [2, 3]) (hs := []) (cs := []) (s' := AS.lst 28 [(2, vc (i6 (n : Int))), (3, vc (i6 e))] []) (by kernel_rfl) ?_ ?_
    · exact trivial
    refine AMx.ret ?_
    exact RetP.mk (r := AV.tup [tc (i6 (n : Int)), tc (i6 e)]) (by kernel_rfl) (by rw [show countS s = ((n : Int), e) from by unfold countS; rw [leftN_end (by omega) hN, bad_end (by omega) hA]])

theorem f17_body : Tryd.f17.body = some (.seq (.region 0 (rg Tryd.f17 0) false) (.seq (.region 1 (rg Tryd.f17 1) false) (.seq (.seq (.region 2 (rg Tryd.f17 2) false) (.block 0 (.loop (.seq (.seq (.region 3 (rg Tryd.f17 3) false) (.cond (.tmp 10) (.skip) (.exit 0))) (.block 1 (.seq (.region 4 (rg Tryd.f17 4) false) (.seq (.seq (.region 5 (rg Tryd.f17 5) false) (.cond (.tmp 18) (.region 6 (rg Tryd.f17 6) false) (.skip))) (.region 7 (rg Tryd.f17 7) false)))))))) (.seq (.region 8 (rg Tryd.f17 8) false) (.ret))))) := by kernel_rfl

set_option maxRecDepth 100000 in
set_option maxHeartbeats 8000000 in
theorem RClean_c (s : Bytes) (hb : s.length ≤ 100000) : Pure Tryd.prog 17 [tc (st s)] (vc (st (cleanS s))) := by
  refine Pure.of_body Tryd.func17 f17_body (by kernel_rfl) Tryd.ntmps17 (by kernel_rfl) (by kernel_rfl) ?_
  refine AMx.seq ?_
  refine AMx.region (ces := []) (ks := [0]) (hs := []) (cs := []) (s' := AS.lst 31 [(0, vc (st s))] []) (by kernel_rfl) ?_ ?_
  · exact trivial
  refine AMx.seq ?_
  refine AMx.region (ces := []) (ks := [0, 3]) (hs := []) (cs := []) (s' := AS.lst 31 [(0, vc (st s)), (3, vc (st []))] []) (by kernel_rfl) ?_ ?_
  · exact trivial
  refine AMx.seq ?_
  refine AMx.seq ?_
  refine AMx.region (ces := []) (ks := [0, 3, 4]) (hs := []) (cs := []) (s' := AS.lst 31 [(0, vc (st s)), (3, vc (st [])), (4, vc (i6 0))] []) (by kernel_rfl) ?_ ?_
  · exact trivial
  refine AMx.block ?_
  refine AMx.ent (s' := AS.lst 31 [(0, vc (st s)), (3, vc (st [])), (4, vc (i6 0))] []) (ent_proj [0, 3, 4] []) ?_
  refine AMx.loop (fun mm ss => ∃ (pos : Nat) (o : Bytes), (pos ≤ s.length ∧ LeftClean s pos o) ∧ mm = s.length - pos ∧ ss = AS.lst 31 [(0, vc (st s)), (3, vc (st o)), (4, vc (i6 (pos : Int)))] []) ⟨0, [], ?_, rfl, ?_⟩ ?_
  · exact ⟨Nat.zero_le _, lc_0 s⟩
  · rfl
  rintro mm ss ⟨pos, o, ⟨hI, hC⟩, rfl, rfl⟩
  refine AMx.seq ?_
  refine AMx.seq ?_
  refine AMx.region (ces := []) (ks := [0, 3, 4, 10]) (hs := []) (cs := []) (s' := AS.lst 31 [(0, vc (st s)), (3, vc (st o)), (4, vc (i6 (pos : Int))), (10, vc (bo (decide ((pos : Int) < (List.length s : Int)))))] []) (by kernel_rfl) ?_ ?_
  · exact trivial
  refine AMx.cond (b := decide ((pos : Int) < (List.length s : Int))) (by kernel_rfl) (fun hc1 => ?_) (fun hc1 => ?_)
  · try simp only [decide_eq_true_eq, decide_eq_false_iff_not] at hc1
    refine AMx.skip ?_
    refine AMx.block ?_
    refine AMx.seq ?_
    refine AMx.region (ces := [(2, CE.call [] [] (AV.tup [tc (i6 ((nextS s pos).1)), tc (i6 ((nextS s pos).2))]) [])]) (ks := [0, 3, 4, 5, 6]) (hs := []) (cs := [Spec Tryd.prog 22 [tc (st s), tc (i6 (pos : Int))] (ofH []) (AV.tup [tc (i6 ((nextS s pos).1)), tc (i6 ((nextS s pos).2))]) (ofH [])]) (s' := AS.lst 31 [(0, vc (st s)), (3, vc (st o)), (4, vc (i6 (pos : Int))), (5, vc (i6 ((nextS s pos).1))), (6, vc (i6 ((nextS s pos).2)))] []) (by kernel_rfl) ?_ ?_
    · exact (Next_c s pos (by omega) (by omega))
    refine AMx.seq ?_
    refine AMx.seq ?_
    refine AMx.region (ces := [(1, CE.call [] [] (vc (bo (runeOk ((nextS s pos).1)))) [])]) (ks := [0, 3, 4, 6, 18]) (hs := []) (cs := [Spec Tryd.prog 9 [tc (i6 ((nextS s pos).1))] (ofH []) (vc (bo (runeOk ((nextS s pos).1)))) (ofH [])]) (s' := AS.lst 31 [(0, vc (st s)), (3, vc (st o)), (4, vc (i6 (pos : Int))), (6, vc (i6 ((nextS s pos).2))), (18, vc (bo (runeOk ((nextS s pos).1))))] []) (by kernel_rfl) ?_ ?_
    · exact (RRune_c ((nextS s pos).1))
    refine AMx.cond (b := runeOk ((nextS s pos).1)) (by kernel_rfl) (fun hc2 => ?_) (fun hc2 => ?_)
    · try simp only [decide_eq_true_eq, decide_eq_false_iff_not] at hc2
      refine AMx.region (ces := []) (ks := [0, 3, 4, 6]) (hs := []) (cs := [InR .i64 ((pos : Int) + ((nextS s pos).2)), 0 ≤ (pos : Int) + ((nextS s pos).2), (pos : Int) + ((nextS s pos).2) ≤ List.length s, 0 ≤ (pos : Int), (pos : Int) ≤ (pos : Int) + ((nextS s pos).2), List.length o + List.length (List.drop pos (List.take ((pos : Int) + ((nextS s pos).2)).toNat s) : List UInt8) ≤ maxLen]) (s' := AS.lst 31 [(0, vc (st s)), (3, vc (st (o ++ (List.drop pos (List.take ((pos : Int) + ((nextS s pos).2)).toNat s))))), (4, vc (i6 (pos : Int))), (6, vc (i6 ((nextS s pos).2)))] []) (by kernel_rfl) ?_ ?_
      · exact ⟨(show InR .i64 ((pos : Int) + ((nextS s pos).2)) from (inR64 (by first | omega | (have hs := next_size (s := s) (i := pos) (by omega); have hd := dec_ok (s := s) (pos := pos) (by omega); first | omega | (have hz := lc_le hC; simp only [List.length_drop, List.length_take, maxLen]; omega))) (by first | omega | (have hs := next_size (s := s) (i := pos) (by omega); have hd := dec_ok (s := s) (pos := pos) (by omega); first | omega | (have hz := lc_le hC; simp only [List.length_drop, List.length_take, maxLen]; omega))))), (show 0 ≤ (pos : Int) + ((nextS s pos).2) from (by first | omega | (have hs := next_size (s := s) (i := pos) (by omega); have hd := dec_ok (s := s) (pos := pos) (by omega); first | omega | (have hz := lc_le hC; simp only [List.length_drop, List.length_take, maxLen]; omega)))), (show (pos : Int) + ((nextS s pos).2) ≤ List.length s from (by first | omega | (have hs := next_size (s := s) (i := pos) (by omega); have hd := dec_ok (s := s) (pos := pos) (by omega); first | omega | (have hz := lc_le hC; simp only [List.length_drop, List.length_take, maxLen]; omega)))), (show 0 ≤ (pos : Int) from (by first | omega | (have hs := next_size (s := s) (i := pos) (by omega); have hd := dec_ok (s := s) (pos := pos) (by omega); first | omega | (have hz := lc_le hC; simp only [List.length_drop, List.length_take, maxLen]; omega)))), (show (pos : Int) ≤ (pos : Int) + ((nextS s pos).2) from (by first | omega | (have hs := next_size (s := s) (i := pos) (by omega); have hd := dec_ok (s := s) (pos := pos) (by omega); first | omega | (have hz := lc_le hC; simp only [List.length_drop, List.length_take, maxLen]; omega)))), (show List.length o + List.length (List.drop pos (List.take ((pos : Int) + ((nextS s pos).2)).toNat s) : List UInt8) ≤ maxLen from (by simp only [List.length_append, List.length_cons, List.length_nil, maxLen]; first | omega | (first | omega | (have hs := next_size (s := s) (i := pos) (by omega); have hd := dec_ok (s := s) (pos := pos) (by omega); first | omega | (have hz := lc_le hC; simp only [List.length_drop, List.length_take, maxLen]; omega)))))⟩
      refine AMx.region (ces := []) (ks := [0, 3, 4]) (hs := []) (cs := [InR .i64 ((pos : Int) + ((nextS s pos).2))]) (s' := AS.lst 31 [(0, vc (st s)), (3, vc (st (o ++ (List.drop pos (List.take ((pos : Int) + ((nextS s pos).2)).toNat s))))), (4, vc (i6 ((pos : Int) + ((nextS s pos).2))))] []) (by kernel_rfl) ?_ ?_
      · exact (show InR .i64 ((pos : Int) + ((nextS s pos).2)) from (inR64 (by first | omega | (have hs := next_size (s := s) (i := pos) (by omega); have hd := dec_ok (s := s) (pos := pos) (by omega); first | omega | (have hz := lc_le hC; simp only [List.length_drop, List.length_take, maxLen]; omega))) (by first | omega | (have hs := next_size (s := s) (i := pos) (by omega); have hd := dec_ok (s := s) (pos := pos) (by omega); first | omega | (have hz := lc_le hC; simp only [List.length_drop, List.length_take, maxLen]; omega)))))
      refine AMx.blk ?_
      refine AMx.ent_inv (s' := AS.lst 31 [(0, vc (st s)), (3, vc (st (o ++ (List.drop pos (List.take ((pos : Int) + ((nextS s pos).2)).toNat s))))), (4, vc (i6 ((pos : Int) + ((nextS s pos).2))))] []) (ent_proj [0, 3, 4] []) ?_
      refine AMx.inv ⟨_, ?_, pos + (decS s pos).2, o ++ List.take (decS s pos).2 (List.drop pos s), ?_, rfl, ?_⟩
      rotate_left
      · have hd := dec_ok (s := s) (pos := pos) (by omega); exact ⟨by omega, lc_hit (by omega) hC (by rw [← ok_next]; assumption)⟩
      · rw [next_size (by omega), show ((pos : Int) + ((decS s pos).2 : Int)).toNat = pos + (decS s pos).2 by omega, seg_take s pos]; rfl
      · have hd := dec_ok (s := s) (pos := pos) (by omega); omega
    · try simp only [decide_eq_true_eq, decide_eq_false_iff_not] at hc2
      refine AMx.skip ?_
      refine AMx.region (ces := []) (ks := [0, 3, 4]) (hs := []) (cs := [InR .i64 ((pos : Int) + ((nextS s pos).2))]) (s' := AS.lst 31 [(0, vc (st s)), (3, vc (st o)), (4, vc (i6 ((pos : Int) + ((nextS s pos).2))))] []) (by kernel_rfl) ?_ ?_
      · exact (show InR .i64 ((pos : Int) + ((nextS s pos).2)) from (inR64 (by first | omega | (have hs := next_size (s := s) (i := pos) (by omega); have hd := dec_ok (s := s) (pos := pos) (by omega); first | omega | (have hz := lc_le hC; simp only [List.length_drop, List.length_take, maxLen]; omega))) (by first | omega | (have hs := next_size (s := s) (i := pos) (by omega); have hd := dec_ok (s := s) (pos := pos) (by omega); first | omega | (have hz := lc_le hC; simp only [List.length_drop, List.length_take, maxLen]; omega)))))
      refine AMx.blk ?_
      refine AMx.ent_inv (s' := AS.lst 31 [(0, vc (st s)), (3, vc (st o)), (4, vc (i6 ((pos : Int) + ((nextS s pos).2))))] []) (ent_proj [0, 3, 4] []) ?_
      refine AMx.inv ⟨_, ?_, pos + (decS s pos).2, o, ?_, rfl, ?_⟩
      rotate_left
      · have hd := dec_ok (s := s) (pos := pos) (by omega); exact ⟨by omega, lc_not (by omega) hC (by rw [← ok_next]; assumption)⟩
      · rw [next_size (by omega)]; rfl
      · have hd := dec_ok (s := s) (pos := pos) (by omega); omega
  · try simp only [decide_eq_true_eq, decide_eq_false_iff_not] at hc1
    refine AMx.exit ?_
    refine AMx.code_exit ?_
    refine AMx.inv_exit ?_
    refine AMx.blk_exit ?_
    refine AMx.seq ?_
    refine AMx.region (ces := []) (ks := [2]) (hs := []) (cs := []) (s' := AS.lst 31 [(2, vc (st o))] []) (by kernel_rfl) ?_ ?_
    · exact trivial
    refine AMx.ret ?_
    exact RetP.mk (r := vc (st o)) (by kernel_rfl) (by rw [lc_end (by omega) hC])

theorem f18_body : Tryd.f18.body = some (.seq (.region 0 (rg Tryd.f18 0) false) (.seq (.seq (.region 1 (rg Tryd.f18 1) false) (.cond (.tmp 6) (.seq (.region 2 (rg Tryd.f18 2) false) (.ret)) (.skip))) (.seq (.seq (.region 3 (rg Tryd.f18 3) false) (.block 0 (.loop (.seq (.seq (.region 4 (rg Tryd.f18 4) false) (.cond (.tmp 10) (.skip) (.exit 0))) (.seq (.block 1 (.seq (.region 6 (rg Tryd.f18 6) false) (.cond (.tmp 18) (.seq (.region 7 (rg Tryd.f18 7) false) (.ret)) (.skip)))) (.region 5 (rg Tryd.f18 5) false)))))) (.seq (.region 8 (rg Tryd.f18 8) false) (.ret))))) := by kernel_rfl

set_option maxRecDepth 100000 in
set_option maxHeartbeats 8000000 in
theorem Over_c (l : List Bytes) : Pure Tryd.prog 18 [tc (AL.Fnv.slS l)] (vc (i6 (overS l))) := by
  refine Pure.of_body Tryd.func18 f18_body (by kernel_rfl) Tryd.ntmps18 (by kernel_rfl) (by kernel_rfl) ?_
  refine AMx.sl 0 (l := l) rfl (fun hl => ?_)
  simp only [maxLen] at hl
  refine AMx.seq ?_
  refine AMx.region (ces := []) (ks := [0]) (hs := []) (cs := []) (s' := AS.lst 19 [(0, vc (AL.Fnv.slS l))] []) (by kernel_rfl) ?_ ?_
  · exact trivial
  refine AMx.seq ?_
  refine AMx.seq ?_
  refine AMx.region (ces := []) (ks := [0, 6]) (hs := []) (cs := []) (s' := AS.lst 19 [(0, vc (AL.Fnv.slS l)), (6, vc (bo (decide (40 < (List.length l : Int)))))] []) (by kernel_rfl) ?_ ?_
  · exact trivial
  refine AMx.cond (b := decide (40 < (List.length l : Int))) (by kernel_rfl) (fun hc1 => ?_) (fun hc1 => ?_)
  · try simp only [decide_eq_true_eq, decide_eq_false_iff_not] at hc1
    refine AMx.seq ?_
    refine AMx.region (ces := []) (ks := [2]) (hs := []) (cs := []) (s' := AS.lst 19 [(2, vc (i6 1))] []) (by kernel_rfl) ?_ ?_
    · exact trivial
    refine AMx.ret ?_
    exact RetP.mk (r := vc (i6 1)) (by kernel_rfl) (by first | rw [over_1 (by omega)] | rw [over_2 (k := k) (by omega) (by omega)])
  · try simp only [decide_eq_true_eq, decide_eq_false_iff_not] at hc1
    refine AMx.skip ?_
    refine AMx.seq ?_
    refine AMx.seq ?_
    refine AMx.region (ces := []) (ks := [0, 3]) (hs := []) (cs := []) (s' := AS.lst 19 [(0, vc (AL.Fnv.slS l)), (3, vc (i6 0))] []) (by kernel_rfl) ?_ ?_
    · exact trivial
    refine AMx.block ?_
    refine AMx.ent (s' := AS.lst 19 [(0, vc (AL.Fnv.slS l)), (3, vc (i6 0))] []) (ent_proj [0, 3] []) ?_
    refine AMx.loop (fun mm ss => ∃ (k : Nat), (k ≤ l.length ∧ ∀ i, i < k → (List.getD l i []).length ≤ 200) ∧ mm = l.length - k ∧ ss = AS.lst 19 [(0, vc (AL.Fnv.slS l)), (3, vc (i6 (k : Int)))] []) ⟨0, ?_, rfl, ?_⟩ ?_
    · exact ⟨Nat.zero_le _, fun i hi => by omega⟩
    · rfl
    rintro mm ss ⟨k, ⟨hI, hN⟩, rfl, rfl⟩
    refine AMx.seq ?_
    refine AMx.seq ?_
    refine AMx.region (ces := []) (ks := [0, 3, 10]) (hs := []) (cs := []) (s' := AS.lst 19 [(0, vc (AL.Fnv.slS l)), (3, vc (i6 (k : Int))), (10, vc (bo (decide ((k : Int) < (List.length l : Int)))))] []) (by kernel_rfl) ?_ ?_
    · exact trivial
    refine AMx.cond (b := decide ((k : Int) < (List.length l : Int))) (by kernel_rfl) (fun hc2 => ?_) (fun hc2 => ?_)
    · try simp only [decide_eq_true_eq, decide_eq_false_iff_not] at hc2
      refine AMx.skip ?_
      refine AMx.seq ?_
      refine AMx.block ?_
      refine AMx.seq ?_
      refine AMx.region (ces := []) (ks := [0, 3, 18]) (hs := []) (cs := [(0 : Int) ≤ (k : Int), (k : Int) < List.length l]) (s' := AS.lst 19 [(0, vc (AL.Fnv.slS l)), (3, vc (i6 (k : Int))), (18, vc (bo (decide (200 < (List.length ((List.getD l k []) : List UInt8) : Int)))))] []) (by kernel_rfl) ?_ ?_
      · exact ⟨(show (0 : Int) ≤ (k : Int) from (by omega)), (show (k : Int) < List.length l from (by omega))⟩
      refine AMx.cond (b := decide (200 < (List.length ((List.getD l k []) : List UInt8) : Int))) (by kernel_rfl) (fun hc3 => ?_) (fun hc3 => ?_)
      · try simp only [decide_eq_true_eq, decide_eq_false_iff_not] at hc3
        refine AMx.seq ?_
        refine AMx.region (ces := []) (ks := [2]) (hs := []) (cs := []) (s' := AS.lst 19 [(2, vc (i6 1))] []) (by kernel_rfl) ?_ ?_
        · exact trivial
        refine AMx.ret ?_
        exact RetP.mk (r := vc (i6 1)) (by kernel_rfl) (by first | rw [over_1 (by omega)] | rw [over_2 (k := k) (by omega) (by omega)])
      · try simp only [decide_eq_true_eq, decide_eq_false_iff_not] at hc3
        refine AMx.skip ?_
        refine AMx.blk ?_
        refine AMx.region (ces := []) (ks := [0, 3]) (hs := []) (cs := [InR .i64 ((k : Int) + 1)]) (s' := AS.lst 19 [(0, vc (AL.Fnv.slS l)), (3, vc (i6 ((k : Int) + 1)))] []) (by kernel_rfl) ?_ ?_
        · exact (show InR .i64 ((k : Int) + 1) from (inR64 (by omega) (by omega)))
        refine AMx.ent_inv (s' := AS.lst 19 [(0, vc (AL.Fnv.slS l)), (3, vc (i6 ((k : Int) + 1)))] []) (ent_proj [0, 3] []) ?_
        refine AMx.inv ⟨_, ?_, k + 1, ?_, rfl, ?_⟩
        rotate_left
        · exact ⟨by omega, fun i hi => by rcases Nat.lt_or_ge i k with q | q; exact hN i q; rw [show i = k by omega]; omega⟩
        · rfl
        · omega
    · try simp only [decide_eq_true_eq, decide_eq_false_iff_not] at hc2
      refine AMx.exit ?_
      refine AMx.code_exit ?_
      refine AMx.inv_exit ?_
      refine AMx.blk_exit ?_
      refine AMx.seq ?_
      refine AMx.region (ces := []) (ks := [2]) (hs := []) (cs := []) (s' := AS.lst 19 [(2, vc (i6 0))] []) (by kernel_rfl) ?_ ?_
      · exact trivial
      refine AMx.ret ?_
      exact RetP.mk (r := vc (i6 0)) (by kernel_rfl) (by rw [over_0 (by omega) (fun i hi => hN i (by omega))])

theorem f21_body : Tryd.f21.body = some (.seq (.region 0 (rg Tryd.f21 0) false) (.seq (.seq (.region 1 (rg Tryd.f21 1) false) (.cond (.tmp 10) (.seq (.region 2 (rg Tryd.f21 2) false) (.ret)) (.skip))) (.seq (.seq (.region 3 (rg Tryd.f21 3) false) (.block 0 (.loop (.seq (.seq (.region 4 (rg Tryd.f21 4) false) (.cond (.tmp 14) (.skip) (.exit 0))) (.seq (.block 1 (.seq (.region 6 (rg Tryd.f21 6) true) (.cond (.tmp 25) (.seq (.region 7 (rg Tryd.f21 7) false) (.ret)) (.skip)))) (.region 5 (rg Tryd.f21 5) false)))))) (.seq (.region 8 (rg Tryd.f21 8) false) (.ret))))) := by kernel_rfl

set_option maxRecDepth 100000 in
set_option maxHeartbeats 8000000 in
theorem SameTexts_c (a b : List Bytes) : Pure Tryd.prog 21 [tc (AL.Fnv.slS a), tc (AL.Fnv.slS b)] (vc (bo (decide (a = b)))) := by
  refine Pure.of_body Tryd.func21 f21_body (by kernel_rfl) Tryd.ntmps21 (by kernel_rfl) (by kernel_rfl) ?_
  refine AMx.sl 0 (l := a) rfl (fun hl => ?_)
  simp only [maxLen] at hl
  refine AMx.seq ?_
  refine AMx.region (ces := []) (ks := [0, 1]) (hs := []) (cs := []) (s' := AS.lst 26 [(0, vc (AL.Fnv.slS a)), (1, vc (AL.Fnv.slS b))] []) (by kernel_rfl) ?_ ?_
  · exact trivial
  refine AMx.seq ?_
  refine AMx.seq ?_
  refine AMx.region (ces := []) (ks := [0, 1, 10]) (hs := []) (cs := []) (s' := AS.lst 26 [(0, vc (AL.Fnv.slS a)), (1, vc (AL.Fnv.slS b)), (10, vc (bo (!decide ((List.length a : Int) = (List.length b : Int)))))] []) (by kernel_rfl) ?_ ?_
  · exact trivial
  refine AMx.cond (b := !decide ((List.length a : Int) = (List.length b : Int))) (by kernel_rfl) (fun hc1 => ?_) (fun hc1 => ?_)
  · try simp only [decide_eq_true_eq, decide_eq_false_iff_not, Bool.not_eq_true', Bool.not_eq_false'] at hc1
    refine AMx.seq ?_
    refine AMx.region (ces := []) (ks := [4]) (hs := []) (cs := []) (s' := AS.lst 26 [(4, vc (bo false))] []) (by kernel_rfl) ?_ ?_
    · exact trivial
    refine AMx.ret ?_
    exact RetP.mk (r := vc (bo false)) (by kernel_rfl) (by rw [decide_eq_false (fun h => by subst h; simp_all)])
  · try simp only [decide_eq_true_eq, decide_eq_false_iff_not, Bool.not_eq_true', Bool.not_eq_false'] at hc1
    refine AMx.skip ?_
    refine AMx.seq ?_
    refine AMx.seq ?_
    refine AMx.region (ces := []) (ks := [0, 1, 5]) (hs := []) (cs := []) (s' := AS.lst 26 [(0, vc (AL.Fnv.slS a)), (1, vc (AL.Fnv.slS b)), (5, vc (i6 0))] []) (by kernel_rfl) ?_ ?_
    · exact trivial
    refine AMx.block ?_
    refine AMx.ent (s' := AS.lst 26 [(0, vc (AL.Fnv.slS a)), (1, vc (AL.Fnv.slS b)), (5, vc (i6 0))] []) (ent_proj [0, 1, 5] []) ?_
    refine AMx.loop (fun mm ss => ∃ (i : Nat), (i ≤ a.length ∧ List.take i a = List.take i b) ∧ mm = a.length - i ∧ ss = AS.lst 26 [(0, vc (AL.Fnv.slS a)), (1, vc (AL.Fnv.slS b)), (5, vc (i6 (i : Int)))] []) ⟨0, ?_, rfl, ?_⟩ ?_
    · exact ⟨by omega, rfl⟩
    · rfl
    rintro mm ss ⟨i, ⟨hI, hE⟩, rfl, rfl⟩
    refine AMx.seq ?_
    refine AMx.seq ?_
    refine AMx.region (ces := []) (ks := [0, 1, 5, 14]) (hs := []) (cs := []) (s' := AS.lst 26 [(0, vc (AL.Fnv.slS a)), (1, vc (AL.Fnv.slS b)), (5, vc (i6 (i : Int))), (14, vc (bo (decide ((i : Int) < (List.length a : Int)))))] []) (by kernel_rfl) ?_ ?_
    · exact trivial
    refine AMx.cond (b := decide ((i : Int) < (List.length a : Int))) (by kernel_rfl) (fun hc2 => ?_) (fun hc2 => ?_)
    · try simp only [decide_eq_true_eq, decide_eq_false_iff_not] at hc2
      refine AMx.skip ?_
      refine AMx.seq ?_
      refine AMx.block ?_
      refine AMx.seq ?_
      refine AMx.region_draw (ces := []) (ros := []) (ks := [0, 1, 5, 25]) (hs := []) (cs := [(0 : Int) ≤ (i : Int), (i : Int) < List.length a, (0 : Int) ≤ (i : Int), (i : Int) < List.length b]) (s' := AS.lst 26 [(0, vc (AL.Fnv.slS a)), (1, vc (AL.Fnv.slS b)), (5, vc (i6 (i : Int))), (25, vc (bo (!decide ((List.getD a i []) = (List.getD b i [])))))] []) mixed (by kernel_rfl) ?_ ?_
      · exact ⟨(show (0 : Int) ≤ (i : Int) from (by omega)), (show (i : Int) < List.length a from (by omega)), (show (0 : Int) ≤ (i : Int) from (by omega)), (show (i : Int) < List.length b from (by omega))⟩
      refine AMx.cond (b := !decide ((List.getD a i []) = (List.getD b i []))) (by kernel_rfl) (fun hc3 => ?_) (fun hc3 => ?_)
      · try simp only [decide_eq_true_eq, decide_eq_false_iff_not, Bool.not_eq_true', Bool.not_eq_false'] at hc3
        refine AMx.seq ?_
        refine AMx.region (ces := []) (ks := [4]) (hs := []) (cs := []) (s' := AS.lst 26 [(4, vc (bo false))] []) (by kernel_rfl) ?_ ?_
        · exact trivial
        refine AMx.ret ?_
        exact RetP.mk (r := vc (bo false)) (by kernel_rfl) (by rw [decide_eq_false (fun h => by subst h; simp_all)])
      · try simp only [decide_eq_true_eq, decide_eq_false_iff_not, Bool.not_eq_true', Bool.not_eq_false'] at hc3
        refine AMx.skip ?_
        refine AMx.blk ?_
        refine AMx.region (ces := []) (ks := [0, 1, 5]) (hs := []) (cs := [InR .i64 ((i : Int) + 1)]) (s' := AS.lst 26 [(0, vc (AL.Fnv.slS a)), (1, vc (AL.Fnv.slS b)), (5, vc (i6 ((i : Int) + 1)))] []) (by kernel_rfl) ?_ ?_
        · exact (show InR .i64 ((i : Int) + 1) from (inR64 (by omega) (by omega)))
        refine AMx.ent_inv (s' := AS.lst 26 [(0, vc (AL.Fnv.slS a)), (1, vc (AL.Fnv.slS b)), (5, vc (i6 ((i : Int) + 1)))] []) (ent_proj [0, 1, 5] []) ?_
        refine AMx.inv ⟨_, ?_, i + 1, ?_, rfl, ?_⟩
        rotate_left
        · exact ⟨by omega, AL.Lib.same_step [] a b i (by omega) (by omega) hE (by assumption)⟩
        · rfl
        · omega
    · try simp only [decide_eq_true_eq, decide_eq_false_iff_not] at hc2
      refine AMx.exit ?_
      refine AMx.code_exit ?_
      refine AMx.inv_exit ?_
      refine AMx.blk_exit ?_
      refine AMx.seq ?_
      refine AMx.region (ces := []) (ks := [4]) (hs := []) (cs := []) (s' := AS.lst 26 [(4, vc (bo true))] []) (by kernel_rfl) ?_ ?_
      · exact trivial
      refine AMx.ret ?_
      exact RetP.mk (r := vc (bo true)) (by kernel_rfl) (by rw [decide_eq_true (AL.Lib.same_end a b i (by omega) (by omega) hE)])

end AL.Route
