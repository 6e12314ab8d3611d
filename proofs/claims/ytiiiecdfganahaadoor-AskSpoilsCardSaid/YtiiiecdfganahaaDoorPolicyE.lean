/- policy: the contracts of its functions, by their walks. No condition. -/
import Derived.Test.YtiiiecdfganahaaDoorPolicyB
namespace AL.Policy
open Go Go.Proofs AL AL.Rune
set_option linter.unusedVariables false
set_option linter.unusedSimpArgs false

theorem f49_body : Tryd.f49.body = some (.seq (.region 0 (rg Tryd.f49 0) false) (.seq (.region 1 (rg Tryd.f49 1) false) (.seq (.region 2 (rg Tryd.f49 2) false) (.seq (.seq (.region 3 (rg Tryd.f49 3) false) (.block 0 (.loop (.seq (.region 4 (rg Tryd.f49 4) false) (.seq (.cond (.tmp 11) (.skip) (.exit 0)) (.block 1 (.seq (.region 5 (rg Tryd.f49 5) false) (.seq (.block 2 (.loop (.seq (.seq (.region 6 (rg Tryd.f49 6) false) (.cond (.tmp 21) (.skip) (.exit 2))) (.block 3 (.region 7 (rg Tryd.f49 7) false))))) (.seq (.seq (.region 8 (rg Tryd.f49 8) false) (.cond (.tmp 25) (.seq (.region 9 (rg Tryd.f49 9) false) (.ret)) (.skip))) (.seq (.region 10 (rg Tryd.f49 10) false) (.region 11 (rg Tryd.f49 11) false))))))))))) (.seq (.region 12 (rg Tryd.f49 12) false) (.ret)))))) := by kernel_rfl

set_option maxRecDepth 100000 in
set_option maxHeartbeats 8000000 in
theorem caps_c (s : Bytes) : Pure Tryd.prog 49 [tc (st s)] (AV.tup [tc (u8 ((capsR s).1)), tc (bo ((capsR s).2))]) := by
  refine Pure.of_body Tryd.func49 f49_body (by kernel_rfl) Tryd.ntmps49 (by kernel_rfl) (by kernel_rfl) ?_
  refine AMx.str 0 (b := s) rfl (fun hls => ?_)
  simp only [maxLen] at hls
  refine AMx.seq ?_
  refine AMx.region (ces := []) (ks := [0]) (hs := []) (cs := []) (s' := AS.lst 33 [(0, vc (st s))] []) (by kernel_rfl) ?_ ?_
  · exact trivial
  refine AMx.seq ?_
  refine AMx.region (ces := []) (ks := [0, 4]) (hs := []) (cs := []) (s' := AS.lst 33 [(0, vc (st s)), (4, vc (u8 0))] []) (by kernel_rfl) ?_ ?_
  · exact trivial
  refine AMx.seq ?_
  refine AMx.region (ces := []) (ks := [0, 4, 5]) (hs := []) (cs := []) (s' := AS.lst 33 [(0, vc (st s)), (4, vc (u8 0)), (5, vc (i6 0))] []) (by kernel_rfl) ?_ ?_
  · exact trivial
  refine AMx.seq ?_
  refine AMx.seq ?_
  refine AMx.region (ces := []) (ks := [4, 5, 9]) (hs := [9]) (cs := []) (s' := AS.lst 33 [(4, vc (u8 0)), (5, vc (i6 0)), (9, vp 9 0)] [(9, AObj.iter s 0)]) (by kernel_rfl) ?_ ?_
  · exact trivial
  refine AMx.block ?_
  refine AMx.ent (s' := AS.lst 33 [(4, vc (u8 0)), (5, vc (i6 0)), (9, vp 9 0)] [(9, AObj.iter s 0)]) (ent_proj [4, 5, 9] [9]) ?_
  refine AMx.loop (fun mm ss => ∃ (pos : Nat) (out : Nat), (pos ≤ s.length ∧ out < 64 ∧ laysN out = List.take pos s) ∧ mm = s.length - pos ∧ ss = AS.lst 33 [(4, vc (u8 (out : Int))), (5, vc (i6 (atN out : Int))), (9, vp 9 0)] [(9, AObj.iter s pos)]) ⟨0, 0, ?_, rfl, ?_⟩ ?_
  · exact ⟨Nat.zero_le _, by omega, by rw [List.take_zero]; rfl⟩
  · rfl
  rintro mm ss ⟨pos, out, ⟨hI, hO, hS⟩, rfl, rfl⟩
  refine AMx.seq ?_
  rcases Nat.lt_or_ge pos (List.length s) with hn1 | hn1
  · have hd1 := AL.Rune.dec_ok hn1
    refine AMx.region (ces := [(0, CE.str [])]) (ks := [4, 5, 9, 10, 11]) (hs := [9]) (cs := [pos < List.length s, ((pos : Nat) : Int) ≤ 9223372036854775807]) (s' := AS.lst 33 [(4, vc (u8 (out : Int))), (5, vc (i6 (atN out : Int))), (9, vp 9 0), (10, AV.tup [tc (bo true), tc (i6 (pos : Int)), tc (i3 ((decS s pos).1 : Int))]), (11, vc (bo true))] [(9, AObj.iter s (pos + (decS s pos).2))]) (by kernel_rfl) ?_ ?_
    · exact ⟨(show pos < List.length s from (by first | omega | (simp only [List.length_cons, List.length_nil]; omega))), (show ((pos : Nat) : Int) ≤ 9223372036854775807 from (by first | omega | (simp only [List.length_cons, List.length_nil]; omega)))⟩
    refine AMx.seq ?_
    refine AMx.cond (b := true) (by kernel_rfl) (fun hc1 => ?_) (fun hc1 => ?_)
    · skip
      refine AMx.skip ?_
      refine AMx.block ?_
      refine AMx.seq ?_
      refine AMx.region (ces := []) (ks := [4, 5, 7, 9]) (hs := [9]) (cs := []) (s' := AS.lst 33 [(4, vc (u8 (out : Int))), (5, vc (i6 (atN out : Int))), (7, vc (i3 ((decS s pos).1 : Int))), (9, vp 9 0)] [(9, AObj.iter s (pos + (decS s pos).2))]) (by kernel_rfl) ?_ ?_
      · exact trivial
      refine AMx.seq ?_
      refine AMx.block ?_
      refine AMx.ent (s' := AS.lst 33 [(4, vc (u8 (out : Int))), (5, vc (i6 (atN out : Int))), (7, vc (i3 ((decS s pos).1 : Int))), (9, vp 9 0)] [(9, AObj.iter s (pos + (decS s pos).2))]) (ent_proj [4, 5, 7, 9] [9]) ?_
      refine AMx.loop (fun mm ss => ∃ (j : Nat), (atN out ≤ j ∧ j ≤ 6 ∧ ∀ m, atN out ≤ m → m < j → ¬ (List.getD lets m 0).toNat = (decS s pos).1) ∧ mm = 6 - j ∧ ss = AS.lst 33 [(4, vc (u8 (out : Int))), (5, vc (i6 (j : Int))), (7, vc (i3 ((decS s pos).1 : Int))), (9, vp 9 0)] [(9, AObj.iter s (pos + (decS s pos).2))]) ⟨atN out, ?_, rfl, ?_⟩ ?_
      · exact ⟨Nat.le_refl _, at_le out hO, fun m h1 h2 => by omega⟩
      · rfl
      rintro mm ss ⟨j, ⟨hA, hJ, hL⟩, rfl, rfl⟩
      refine AMx.seq ?_
      refine AMx.seq ?_
      refine AMx.region (ces := []) (ks := [4, 5, 7, 9, 21]) (hs := [9]) (cs := [((decide ((j : Int) < 6)) = true) → allP [], ((decide ((j : Int) < 6)) = true) → allP [(decide ((j : Int) < 6)) = true, (0 : Int) ≤ (j : Int), (j : Int) < List.length ([114, 119, 100, 120, 108, 115] : List UInt8)], ((decide ((j : Int) < 6)) = true) → allP [(decide ((j : Int) < 6)) = true], ((decide ((j : Int) < 6)) = true) → allP [], ((decide ((j : Int) < 6)) = true) → allP [(decide ((j : Int) < 6)) = true, (decide ((j : Int) < 6)) = true], (decide ((j : Int) < 6)) = true → allP [(decide ((j : Int) < 6)) = true]]) (s' := AS.lst 33 [(4, vc (u8 (out : Int))), (5, vc (i6 (j : Int))), (7, vc (i3 ((decS s pos).1 : Int))), (9, vp 9 0), (21, vc (bo ((decide ((j : Int) < 6)) && (!decide (((List.getD ([114, 119, 100, 120, 108, 115] : List UInt8) j 0).toNat : Int) = ((decS s pos).1 : Int))))))] [(9, AObj.iter s (pos + (decS s pos).2))]) (by kernel_rfl) ?_ ?_
      · exact ⟨(fun _ => trivial), (fun hp => by have hq := hp; (try simp only [decide_eq_true_eq, decide_eq_false_iff_not, Bool.and_eq_true, Bool.or_eq_true, Bool.and_eq_false_iff, Bool.or_eq_false_iff, Bool.not_eq_true', Bool.not_eq_false', Bool.not_eq_true, Bool.not_eq_false] at hq); exact ⟨hp, (show (0 : Int) ≤ (j : Int) from (by first | omega | (simp only [List.length_cons, List.length_nil]; omega))), (show (j : Int) < List.length ([114, 119, 100, 120, 108, 115] : List UInt8) from (by first | omega | (simp only [List.length_cons, List.length_nil]; omega)))⟩), (fun hp => hp), (fun _ => trivial), (fun hp => ⟨hp, hp⟩), (fun hp2 => (by first | exact hp2 | exact ⟨hp, hp2⟩))⟩
      refine AMx.cond (b := ((decide ((j : Int) < 6)) && (!decide (((List.getD ([114, 119, 100, 120, 108, 115] : List UInt8) j 0).toNat : Int) = ((decS s pos).1 : Int))))) (by kernel_rfl) (fun hc2 => ?_) (fun hc2 => ?_)
      · try simp only [decide_eq_true_eq, decide_eq_false_iff_not, Bool.and_eq_true, Bool.and_eq_false_iff, Bool.not_eq_true', Bool.not_eq_false'] at hc2
        refine AMx.skip ?_
        refine AMx.block ?_
        refine AMx.region (ces := []) (ks := [4, 5, 7, 9]) (hs := [9]) (cs := [InR .i64 ((j : Int) + 1)]) (s' := AS.lst 33 [(4, vc (u8 (out : Int))), (5, vc (i6 ((j : Int) + 1))), (7, vc (i3 ((decS s pos).1 : Int))), (9, vp 9 0)] [(9, AObj.iter s (pos + (decS s pos).2))]) (by kernel_rfl) ?_ ?_
        · exact (show InR .i64 ((j : Int) + 1) from (inR64 (by first | omega | (simp only [List.length_cons, List.length_nil]; omega)) (by first | omega | (simp only [List.length_cons, List.length_nil]; omega))))
        refine AMx.blk ?_
        refine AMx.ent_inv (s' := AS.lst 33 [(4, vc (u8 (out : Int))), (5, vc (i6 ((j : Int) + 1))), (7, vc (i3 ((decS s pos).1 : Int))), (9, vp 9 0)] [(9, AObj.iter s (pos + (decS s pos).2))]) (ent_proj [4, 5, 7, 9] [9]) ?_
        refine AMx.inv ⟨_, ?_, j + 1, ?_, rfl, ?_⟩
        rotate_left
        · exact ⟨by omega, by omega, fun m h1 h2 => by rcases Nat.lt_or_ge m j with q | q; exact hL m h1 q; rw [show m = j by omega]; exact fun q2 => hc2.2 (congrArg Int.ofNat q2)⟩
        · rfl
        · omega
      · try simp only [decide_eq_true_eq, decide_eq_false_iff_not, Bool.and_eq_true, Bool.and_eq_false_iff, Bool.not_eq_true', Bool.not_eq_false'] at hc2
        refine AMx.exit ?_
        refine AMx.code_exit ?_
        refine AMx.inv_exit ?_
        refine AMx.blk_exit ?_
        refine AMx.seq ?_
        refine AMx.seq ?_
        refine AMx.region (ces := []) (ks := [4, 5, 9, 25]) (hs := [9]) (cs := []) (s' := AS.lst 33 [(4, vc (u8 (out : Int))), (5, vc (i6 (j : Int))), (9, vp 9 0), (25, vc (bo (decide ((j : Int) = 6))))] [(9, AObj.iter s (pos + (decS s pos).2))]) (by kernel_rfl) ?_ ?_
        · exact trivial
        refine AMx.cond (b := decide ((j : Int) = 6)) (by kernel_rfl) (fun hc3 => ?_) (fun hc3 => ?_)
        · try simp only [decide_eq_true_eq, decide_eq_false_iff_not] at hc3
          refine AMx.seq ?_
          refine AMx.region (ces := []) (ks := [2, 3]) (hs := []) (cs := []) (s' := AS.lst 33 [(2, vc (u8 0)), (3, vc (bo false))] []) (by kernel_rfl) ?_ ?_
          · exact trivial
          refine AMx.ret ?_
          exact RetP.mk (r := AV.tup [tc (u8 0), tc (bo false)]) (by kernel_rfl) (by rw [show capsR s = (0, false) from by rw [caps_stop hO hS (by omega) (fun m h1 h2 => hL m h1 (by omega))]])
        · try simp only [decide_eq_true_eq, decide_eq_false_iff_not] at hc3
          refine AMx.skip ?_
          refine AMx.seq ?_
          refine AMx.region (ces := []) (ks := [4, 5, 9]) (hs := [9]) (cs := [(0 : Int) ≤ (j : Int)]) (s' := AS.lst 33 [(4, vc (u8 (IntKind.wrap .u8 ((BitVec.ofInt 8 (out : Int) ||| BitVec.ofInt 8 (IntKind.wrap .u8 (1 * 2 ^ (min ((j : Int) : Int).toNat (IntKind.bits .u8))))).toNat)))), (5, vc (i6 (j : Int))), (9, vp 9 0)] [(9, AObj.iter s (pos + (decS s pos).2))]) (by kernel_rfl) ?_ ?_
          · exact (show (0 : Int) ≤ (j : Int) from (by first | omega | (simp only [List.length_cons, List.length_nil]; omega)))
          refine AMx.region (ces := []) (ks := [4, 5, 9]) (hs := [9]) (cs := [InR .i64 ((j : Int) + 1)]) (s' := AS.lst 33 [(4, vc (u8 (IntKind.wrap .u8 ((BitVec.ofInt 8 (out : Int) ||| BitVec.ofInt 8 (IntKind.wrap .u8 (1 * 2 ^ (min ((j : Int) : Int).toNat (IntKind.bits .u8))))).toNat)))), (5, vc (i6 ((j : Int) + 1))), (9, vp 9 0)] [(9, AObj.iter s (pos + (decS s pos).2))]) (by kernel_rfl) ?_ ?_
          · exact (show InR .i64 ((j : Int) + 1) from (inR64 (by first | omega | (simp only [List.length_cons, List.length_nil]; omega)) (by first | omega | (simp only [List.length_cons, List.length_nil]; omega))))
          refine AMx.blk ?_
          refine AMx.ent_inv (s' := AS.lst 33 [(4, vc (u8 (IntKind.wrap .u8 ((BitVec.ofInt 8 (out : Int) ||| BitVec.ofInt 8 (IntKind.wrap .u8 (1 * 2 ^ (min ((j : Int) : Int).toNat (IntKind.bits .u8))))).toNat)))), (5, vc (i6 ((j : Int) + 1))), (9, vp 9 0)] [(9, AObj.iter s (pos + (decS s pos).2))]) (ent_proj [4, 5, 9] [9]) ?_
          refine AMx.inv ⟨_, ?_, pos + (decS s pos).2, out + 2 ^ j, ?_, rfl, ?_⟩
          rotate_left
          · obtain ⟨g1, g2, _⟩ := caps_next hO hS (by omega) (show j < 6 by omega) hA (by rcases hc2 with q | q; exact absurd q (by omega); exact Int.ofNat.inj q); exact ⟨by omega, g1, g2⟩
          · rw [← (caps_grow out hO j (show j < 6 by omega) hA).2.2.2, (caps_grow out hO j (show j < 6 by omega) hA).2.2.1]; rfl
          · omega
    · skip
      cases hc1
  · skip
    refine AMx.region (ces := []) (ks := [4, 5, 9, 10, 11]) (hs := [9]) (cs := [List.length s ≤ pos]) (s' := AS.lst 33 [(4, vc (u8 (out : Int))), (5, vc (i6 (atN out : Int))), (9, vp 9 0), (10, AV.tup [tc (bo false)]), (11, vc (bo false))] [(9, AObj.iter s pos)]) (by kernel_rfl) ?_ ?_
    · exact (show List.length s ≤ pos from (by first | omega | (simp only [List.length_cons, List.length_nil]; omega)))
    refine AMx.seq ?_
    refine AMx.cond (b := false) (by kernel_rfl) (fun hc4 => ?_) (fun hc4 => ?_)
    · skip
      cases hc4
    · skip
      refine AMx.exit ?_
      refine AMx.code_exit ?_
      refine AMx.inv_exit ?_
      refine AMx.blk_exit ?_
      refine AMx.seq ?_
      refine AMx.region (ces := []) (ks := [2, 3]) (hs := []) (cs := []) (s' := AS.lst 33 [(2, vc (u8 (out : Int))), (3, vc (bo true))] []) (by kernel_rfl) ?_ ?_
      · exact trivial
      refine AMx.ret ?_
      exact RetP.mk (r := AV.tup [tc (u8 (out : Int)), tc (bo true)]) (by kernel_rfl) (by rw [show capsR s = ((out : Int), true) from by rw [caps_done hO hS (by omega)]])

theorem f34_body : Tryd.f34.body = some (.seq (.region 0 (rg Tryd.f34 0) false) (.seq (.seq (.region 1 (rg Tryd.f34 1) false) (.cond (.tmp 14) (.seq (.region 2 (rg Tryd.f34 2) false) (.ret)) (.skip))) (.seq (.region 3 (rg Tryd.f34 3) false) (.seq (.seq (.region 4 (rg Tryd.f34 4) false) (.block 0 (.loop (.seq (.region 5 (rg Tryd.f34 5) false) (.seq (.cond (.tmp 19) (.skip) (.exit 0)) (.seq (.block 1 (.seq (.region 6 (rg Tryd.f34 6) false) (.seq (.region 7 (rg Tryd.f34 7) false) (.seq (.region 8 (rg Tryd.f34 8) false) (.seq (.seq (.region 9 (rg Tryd.f34 9) false) (.cond (.tmp 38) (.seq (.region 10 (rg Tryd.f34 10) false) (.ret)) (.skip))) (.region 11 (rg Tryd.f34 11) false)))))) (.region 12 (rg Tryd.f34 12) false))))))) (.seq (.seq (.region 13 (rg Tryd.f34 13) false) (.seq (.region 14 (rg Tryd.f34 14) false) (.cond (.tmp 49) (.seq (.region 15 (rg Tryd.f34 15) false) (.ret)) (.skip)))) (.seq (.region 16 (rg Tryd.f34 16) false) (.ret))))))) := by kernel_rfl

set_option maxRecDepth 100000 in
set_option maxHeartbeats 8000000 in
theorem Parse_c (s : Bytes) (hb : s.length ≤ 100000) : Pure Tryd.prog 34 [tc (st s)] (AV.tup [tc (slP ((parseP s).1)), tc (i6 ((parseP s).2))]) := by
  refine Pure.of_body Tryd.func34 f34_body (by kernel_rfl) Tryd.ntmps34 (by kernel_rfl) (by kernel_rfl) ?_
  have hsl := split_le 44 s
  refine AMx.seq ?_
  refine AMx.region (ces := []) (ks := [0]) (hs := []) (cs := []) (s' := AS.lst 52 [(0, vc (st s))] []) (by kernel_rfl) ?_ ?_
  · exact trivial
  refine AMx.seq ?_
  refine AMx.seq ?_
  refine AMx.region (ces := []) (ks := [0, 14]) (hs := []) (cs := []) (s' := AS.lst 52 [(0, vc (st s)), (14, vc (bo (decide (s = []))))] []) (by kernel_rfl) ?_ ?_
  · exact trivial
  refine AMx.cond (b := decide (s = [])) (by kernel_rfl) (fun hc1 => ?_) (fun hc1 => ?_)
  · try simp only [decide_eq_true_eq, decide_eq_false_iff_not] at hc1
    refine AMx.seq ?_
    refine AMx.region (ces := []) (ks := [2, 3]) (hs := []) (cs := []) (s' := AS.lst 52 [(2, vc (SC.nilsl)), (3, vc (i6 0))] []) (by kernel_rfl) ?_ ?_
    · exact trivial
    refine AMx.ent (ent_weak 2 (v' := vc (slP [])) (by kernel_rfl) (AV.le_t (TV.le_c AC.le_nil))) ?_
    refine AMx.ret ?_
    exact RetP.mk (r := AV.tup [tc (slP []), tc (i6 0)]) (by kernel_rfl) (by rw [show parseP s = ([], 0) from by rw [hc1]; rfl])
  · try simp only [decide_eq_true_eq, decide_eq_false_iff_not] at hc1
    refine AMx.skip ?_
    refine AMx.seq ?_
    refine AMx.region (ces := []) (ks := [0, 4]) (hs := []) (cs := []) (s' := AS.lst 52 [(0, vc (st s)), (4, vc (SC.nilsl))] []) (by kernel_rfl) ?_ ?_
    · exact trivial
    refine AMx.seq ?_
    refine AMx.seq ?_
    refine AMx.region (ces := [(1, CE.call [] [] (vc (AL.Fnv.slS (AL.Sep.splitC 44 s))) [])]) (ks := [4, 16, 17, 18]) (hs := []) (cs := [Spec Tryd.prog 21 [tc (st s), tc (st [44])] (ofH []) (vc (AL.Fnv.slS (AL.Sep.splitC 44 s))) (ofH [])]) (s' := AS.lst 52 [(4, vc (SC.nilsl)), (16, vc (AL.Fnv.slS (AL.Sep.splitC 44 s))), (17, vc (i6 (List.length (AL.Sep.splitC 44 s : List Bytes) : Int))), (18, vc (i6 0))] []) (by kernel_rfl) ?_ ?_
    · exact (AL.Sep.Split_c 44 s (by first | omega | ((try simp only [List.length_append, List.length_cons, List.length_nil, List.length_replicate, List.length_map, List.length_take, List.length_drop, pref_len, ruled_len]); omega) | (have hpc := Sep.mem_len (Lib.getD_mem [] (AL.Sep.splitC 44 s) k (by omega)); omega)))
    refine AMx.block ?_
    refine AMx.ent (s' := AS.lst 52 [(4, vo 4), (16, vc (AL.Fnv.slS (AL.Sep.splitC 44 s))), (17, vc (i6 (List.length (AL.Sep.splitC 44 s : List Bytes) : Int))), (18, vc (i6 0))] [(4, AObj.grow 66 2 RuleV ([], 0) rowP [])]) (ent_adopt (t := 4) (d := 4) 66 2 RuleV ([], 0) rowP (by kernel_rfl) (by kernel_rfl) (by kernel_rfl) (by kernel_rfl)) ?_
    refine AMx.ent (s' := AS.lst 52 [(4, vo 4), (16, vc (AL.Fnv.slS (AL.Sep.splitC 44 s))), (17, vc (i6 (List.length (AL.Sep.splitC 44 s : List Bytes) : Int))), (18, vc (i6 0))] [(4, AObj.grow 66 2 RuleV ([], 0) rowP [])]) (ent_proj [4, 16, 17, 18] [4]) ?_
    refine AMx.loop (fun mm ss => ∃ (k : Nat), (k ≤ (AL.Sep.splitC 44 s).length ∧ fineS (List.take k (AL.Sep.splitC 44 s)) = true) ∧ mm = (AL.Sep.splitC 44 s).length - k ∧ ss = AS.lst 52 [(4, vo 4), (16, vc (AL.Fnv.slS (AL.Sep.splitC 44 s))), (17, vc (i6 (List.length (AL.Sep.splitC 44 s : List Bytes) : Int))), (18, vc (i6 (k : Int)))] [(4, AObj.grow 66 2 RuleV ([], 0) rowP (ruled (List.take k (AL.Sep.splitC 44 s))))]) ⟨0, ?_, rfl, ?_⟩ ?_
    · exact ⟨Nat.zero_le _, rfl⟩
    · rfl
    rintro mm ss ⟨k, ⟨hI, hN⟩, rfl, rfl⟩
    refine AMx.seq ?_
    refine AMx.region (ces := []) (ks := [4, 16, 17, 18, 19]) (hs := [4]) (cs := []) (s' := AS.lst 52 [(4, vo 4), (16, vc (AL.Fnv.slS (AL.Sep.splitC 44 s))), (17, vc (i6 (List.length (AL.Sep.splitC 44 s : List Bytes) : Int))), (18, vc (i6 (k : Int))), (19, vc (bo (decide ((k : Int) < (List.length (AL.Sep.splitC 44 s : List Bytes) : Int)))))] [(4, AObj.grow 66 2 RuleV ([], 0) rowP (ruled (List.take k (AL.Sep.splitC 44 s))))]) (by kernel_rfl) ?_ ?_
    · exact trivial
    refine AMx.seq ?_
    refine AMx.cond (b := decide ((k : Int) < (List.length (AL.Sep.splitC 44 s : List Bytes) : Int))) (by kernel_rfl) (fun hc2 => ?_) (fun hc2 => ?_)
    · try simp only [decide_eq_true_eq, decide_eq_false_iff_not] at hc2
      refine AMx.skip ?_
      refine AMx.seq ?_
      refine AMx.block ?_
      refine AMx.seq ?_
      refine AMx.region (ces := []) (ks := [4, 6, 16, 17, 18]) (hs := [4]) (cs := [(0 : Int) ≤ (k : Int), (k : Int) < List.length (AL.Sep.splitC 44 s : List Bytes)]) (s' := AS.lst 52 [(4, vo 4), (6, vc (st (List.getD (AL.Sep.splitC 44 s) k []))), (16, vc (AL.Fnv.slS (AL.Sep.splitC 44 s))), (17, vc (i6 (List.length (AL.Sep.splitC 44 s : List Bytes) : Int))), (18, vc (i6 (k : Int)))] [(4, AObj.grow 66 2 RuleV ([], 0) rowP (ruled (List.take k (AL.Sep.splitC 44 s))))]) (by kernel_rfl) ?_ ?_
      · exact ⟨(show (0 : Int) ≤ (k : Int) from (by first | omega | ((try simp only [List.length_append, List.length_cons, List.length_nil, List.length_replicate, List.length_map, List.length_take, List.length_drop, pref_len, ruled_len]); omega) | (have hpc := Sep.mem_len (Lib.getD_mem [] (AL.Sep.splitC 44 s) k (by omega)); omega))), (show (k : Int) < List.length (AL.Sep.splitC 44 s : List Bytes) from (by first | omega | ((try simp only [List.length_append, List.length_cons, List.length_nil, List.length_replicate, List.length_map, List.length_take, List.length_drop, pref_len, ruled_len]); omega) | (have hpc := Sep.mem_len (Lib.getD_mem [] (AL.Sep.splitC 44 s) k (by omega)); omega)))⟩
      refine AMx.seq ?_
      refine AMx.region (ces := [(1, CE.call [] [] (AV.tup [tc (st ((AL.Sep.cutAt 58 (List.getD (AL.Sep.splitC 44 s) k [])).1)), tc (st ((AL.Sep.cutAt 58 (List.getD (AL.Sep.splitC 44 s) k [])).2.1)), tc (bo ((AL.Sep.cutAt 58 (List.getD (AL.Sep.splitC 44 s) k [])).2.2))]) [])]) (ks := [4, 7, 8, 9, 16, 17, 18]) (hs := [4]) (cs := [Spec Tryd.prog 48 [tc (st (List.getD (AL.Sep.splitC 44 s) k [])), tc (st [58])] (ofH []) (AV.tup [tc (st ((AL.Sep.cutAt 58 (List.getD (AL.Sep.splitC 44 s) k [])).1)), tc (st ((AL.Sep.cutAt 58 (List.getD (AL.Sep.splitC 44 s) k [])).2.1)), tc (bo ((AL.Sep.cutAt 58 (List.getD (AL.Sep.splitC 44 s) k [])).2.2))]) (ofH [])]) (s' := AS.lst 52 [(4, vo 4), (7, vc (st ((AL.Sep.cutAt 58 (List.getD (AL.Sep.splitC 44 s) k [])).1))), (8, vc (st ((AL.Sep.cutAt 58 (List.getD (AL.Sep.splitC 44 s) k [])).2.1))), (9, vc (bo ((AL.Sep.cutAt 58 (List.getD (AL.Sep.splitC 44 s) k [])).2.2))), (16, vc (AL.Fnv.slS (AL.Sep.splitC 44 s))), (17, vc (i6 (List.length (AL.Sep.splitC 44 s : List Bytes) : Int))), (18, vc (i6 (k : Int)))] [(4, AObj.grow 66 2 RuleV ([], 0) rowP (ruled (List.take k (AL.Sep.splitC 44 s))))]) (by kernel_rfl) ?_ ?_
      · exact (AL.Sep.Cut_c 58 (List.getD (AL.Sep.splitC 44 s) k []))
      refine AMx.seq ?_
      refine AMx.region (ces := [(1, CE.call [] [] (AV.tup [tc (u8 ((capsR ((AL.Sep.cutAt 58 (List.getD (AL.Sep.splitC 44 s) k [])).2.1)).1)), tc (bo ((capsR ((AL.Sep.cutAt 58 (List.getD (AL.Sep.splitC 44 s) k [])).2.1)).2))]) [])]) (ks := [4, 7, 9, 10, 11, 16, 17, 18]) (hs := [4]) (cs := [Spec Tryd.prog 49 [tc (st ((AL.Sep.cutAt 58 (List.getD (AL.Sep.splitC 44 s) k [])).2.1))] (ofH []) (AV.tup [tc (u8 ((capsR ((AL.Sep.cutAt 58 (List.getD (AL.Sep.splitC 44 s) k [])).2.1)).1)), tc (bo ((capsR ((AL.Sep.cutAt 58 (List.getD (AL.Sep.splitC 44 s) k [])).2.1)).2))]) (ofH [])]) (s' := AS.lst 52 [(4, vo 4), (7, vc (st ((AL.Sep.cutAt 58 (List.getD (AL.Sep.splitC 44 s) k [])).1))), (9, vc (bo ((AL.Sep.cutAt 58 (List.getD (AL.Sep.splitC 44 s) k [])).2.2))), (10, vc (u8 ((capsR ((AL.Sep.cutAt 58 (List.getD (AL.Sep.splitC 44 s) k [])).2.1)).1))), (11, vc (bo ((capsR ((AL.Sep.cutAt 58 (List.getD (AL.Sep.splitC 44 s) k [])).2.1)).2))), (16, vc (AL.Fnv.slS (AL.Sep.splitC 44 s))), (17, vc (i6 (List.length (AL.Sep.splitC 44 s : List Bytes) : Int))), (18, vc (i6 (k : Int)))] [(4, AObj.grow 66 2 RuleV ([], 0) rowP (ruled (List.take k (AL.Sep.splitC 44 s))))]) (by kernel_rfl) ?_ ?_
      · exact (caps_c ((AL.Sep.cutAt 58 (List.getD (AL.Sep.splitC 44 s) k [])).2.1))
      refine AMx.seq ?_
      refine AMx.seq ?_
      refine AMx.region (ces := []) (ks := [4, 7, 10, 16, 17, 18, 38]) (hs := [4]) (cs := [((!((AL.Sep.cutAt 58 (List.getD (AL.Sep.splitC 44 s) k [])).2.2)) = false) → allP [], ((!((AL.Sep.cutAt 58 (List.getD (AL.Sep.splitC 44 s) k [])).2.2)) = false) → allP [(!((AL.Sep.cutAt 58 (List.getD (AL.Sep.splitC 44 s) k [])).2.2)) = false], (!((AL.Sep.cutAt 58 (List.getD (AL.Sep.splitC 44 s) k [])).2.2)) = false → allP [(!((AL.Sep.cutAt 58 (List.getD (AL.Sep.splitC 44 s) k [])).2.2)) = false]]) (s' := AS.lst 52 [(4, vo 4), (7, vc (st ((AL.Sep.cutAt 58 (List.getD (AL.Sep.splitC 44 s) k [])).1))), (10, vc (u8 ((capsR ((AL.Sep.cutAt 58 (List.getD (AL.Sep.splitC 44 s) k [])).2.1)).1))), (16, vc (AL.Fnv.slS (AL.Sep.splitC 44 s))), (17, vc (i6 (List.length (AL.Sep.splitC 44 s : List Bytes) : Int))), (18, vc (i6 (k : Int))), (38, vc (bo ((!((AL.Sep.cutAt 58 (List.getD (AL.Sep.splitC 44 s) k [])).2.2)) || (!((capsR ((AL.Sep.cutAt 58 (List.getD (AL.Sep.splitC 44 s) k [])).2.1)).2)))))] [(4, AObj.grow 66 2 RuleV ([], 0) rowP (ruled (List.take k (AL.Sep.splitC 44 s))))]) (by kernel_rfl) ?_ ?_
      · exact ⟨(fun _ => trivial), (fun hp => hp), (fun hp2 => (by first | exact hp2 | exact ⟨hp, hp2⟩))⟩
      refine AMx.cond (b := ((!((AL.Sep.cutAt 58 (List.getD (AL.Sep.splitC 44 s) k [])).2.2)) || (!((capsR ((AL.Sep.cutAt 58 (List.getD (AL.Sep.splitC 44 s) k [])).2.1)).2)))) (by kernel_rfl) (fun hc3 => ?_) (fun hc3 => ?_)
      · try simp only [decide_eq_true_eq, decide_eq_false_iff_not, Bool.or_eq_true, Bool.or_eq_false_iff, Bool.not_eq_true', Bool.not_eq_false'] at hc3
        refine AMx.seq ?_
        refine AMx.region (ces := []) (ks := [2, 3]) (hs := []) (cs := []) (s' := AS.lst 52 [(2, vc (SC.nilsl)), (3, vc (i6 4))] []) (by kernel_rfl) ?_ ?_
        · exact trivial
        refine AMx.ent (ent_weak 2 (v' := vc (slP [])) (by kernel_rfl) (AV.le_t (TV.le_c AC.le_nil))) ?_
        refine AMx.ret ?_
        exact RetP.mk (r := AV.tup [tc (slP []), tc (i6 4)]) (by kernel_rfl) (by rw [show parseP s = ([], 4) from by rw [parse_bad hc1 (fine_bad (k := k) (by omega) (by rw [scan_no (fun q => by rcases hc3 with z | z; rw [q.1] at z; cases z; rw [q.2] at z; cases z)]))]])
      · try simp only [decide_eq_true_eq, decide_eq_false_iff_not, Bool.or_eq_true, Bool.or_eq_false_iff, Bool.not_eq_true', Bool.not_eq_false'] at hc3
        refine AMx.skip ?_
        refine AMx.region (ces := [(4, CE.obj (AObj.grow 66 2 RuleV ([], 0) rowP [(((AL.Sep.cutAt 58 (List.getD (AL.Sep.splitC 44 s) k [])).1, (capsR ((AL.Sep.cutAt 58 (List.getD (AL.Sep.splitC 44 s) k [])).2.1)).1) : RuleV)])), (5, CE.obj (AObj.grow 66 2 RuleV ([], 0) rowP ((ruled (List.take k (AL.Sep.splitC 44 s))) ++ [(((AL.Sep.cutAt 58 (List.getD (AL.Sep.splitC 44 s) k [])).1, (capsR ((AL.Sep.cutAt 58 (List.getD (AL.Sep.splitC 44 s) k [])).2.1)).1) : RuleV)])))]) (ks := [4, 16, 17, 18]) (hs := [44]) (cs := [flat 2 rowP [(((AL.Sep.cutAt 58 (List.getD (AL.Sep.splitC 44 s) k [])).1, (capsR ((AL.Sep.cutAt 58 (List.getD (AL.Sep.splitC 44 s) k [])).2.1)).1) : RuleV)] = [.s (st ((AL.Sep.cutAt 58 (List.getD (AL.Sep.splitC 44 s) k [])).1)), .s (u8 ((capsR ((AL.Sep.cutAt 58 (List.getD (AL.Sep.splitC 44 s) k [])).2.1)).1))], List.length ([(((AL.Sep.cutAt 58 (List.getD (AL.Sep.splitC 44 s) k [])).1, (capsR ((AL.Sep.cutAt 58 (List.getD (AL.Sep.splitC 44 s) k [])).2.1)).1) : RuleV)] : List RuleV) = 1, AppC (flat 2 rowP [(((AL.Sep.cutAt 58 (List.getD (AL.Sep.splitC 44 s) k [])).1, (capsR ((AL.Sep.cutAt 58 (List.getD (AL.Sep.splitC 44 s) k [])).2.1)).1) : RuleV)]) (List.length ([(((AL.Sep.cutAt 58 (List.getD (AL.Sep.splitC 44 s) k [])).1, (capsR ((AL.Sep.cutAt 58 (List.getD (AL.Sep.splitC 44 s) k [])).2.1)).1) : RuleV)] : List RuleV)) 24 (AObj.grow 66 2 RuleV ([], 0) rowP (ruled (List.take k (AL.Sep.splitC 44 s)))) (AObj.grow 66 2 RuleV ([], 0) rowP ((ruled (List.take k (AL.Sep.splitC 44 s))) ++ [(((AL.Sep.cutAt 58 (List.getD (AL.Sep.splitC 44 s) k [])).1, (capsR ((AL.Sep.cutAt 58 (List.getD (AL.Sep.splitC 44 s) k [])).2.1)).1) : RuleV)]))]) (s' := AS.lst 52 [(4, vo 44), (16, vc (AL.Fnv.slS (AL.Sep.splitC 44 s))), (17, vc (i6 (List.length (AL.Sep.splitC 44 s : List Bytes) : Int))), (18, vc (i6 (k : Int)))] [(44, AObj.grow 66 2 RuleV ([], 0) rowP ((ruled (List.take k (AL.Sep.splitC 44 s))) ++ [(((AL.Sep.cutAt 58 (List.getD (AL.Sep.splitC 44 s) k [])).1, (capsR ((AL.Sep.cutAt 58 (List.getD (AL.Sep.splitC 44 s) k [])).2.1)).1) : RuleV)]))]) (by kernel_rfl) ?_ ?_
        · exact ⟨rfl, rfl, (⟨_, rfl, rfl, rfl, by simp only [List.length_append, List.length_cons, List.length_nil, List.length_replicate, List.length_map, List.length_take, List.length_drop, pref_len, ruled_len]; omega, by simp only [maxLen, List.length_append, List.length_cons, List.length_nil, List.length_replicate, List.length_map, List.length_take, List.length_drop, pref_len, ruled_len]; omega⟩)⟩
        refine AMx.blk ?_
        refine AMx.region (ces := []) (ks := [4, 16, 17, 18]) (hs := [44]) (cs := [InR .i64 ((k : Int) + 1)]) (s' := AS.lst 52 [(4, vo 44), (16, vc (AL.Fnv.slS (AL.Sep.splitC 44 s))), (17, vc (i6 (List.length (AL.Sep.splitC 44 s : List Bytes) : Int))), (18, vc (i6 ((k : Int) + 1)))] [(44, AObj.grow 66 2 RuleV ([], 0) rowP ((ruled (List.take k (AL.Sep.splitC 44 s))) ++ [(((AL.Sep.cutAt 58 (List.getD (AL.Sep.splitC 44 s) k [])).1, (capsR ((AL.Sep.cutAt 58 (List.getD (AL.Sep.splitC 44 s) k [])).2.1)).1) : RuleV)]))]) (by kernel_rfl) ?_ ?_
        · exact (show InR .i64 ((k : Int) + 1) from (inR64 (by first | omega | ((try simp only [List.length_append, List.length_cons, List.length_nil, List.length_replicate, List.length_map, List.length_take, List.length_drop, pref_len, ruled_len]); omega) | (have hpc := Sep.mem_len (Lib.getD_mem [] (AL.Sep.splitC 44 s) k (by omega)); omega)) (by first | omega | ((try simp only [List.length_append, List.length_cons, List.length_nil, List.length_replicate, List.length_map, List.length_take, List.length_drop, pref_len, ruled_len]); omega) | (have hpc := Sep.mem_len (Lib.getD_mem [] (AL.Sep.splitC 44 s) k (by omega)); omega))))
        refine AMx.ent_inv (s' := AS.lst 52 [(4, vo 4), (16, vc (AL.Fnv.slS (AL.Sep.splitC 44 s))), (17, vc (i6 (List.length (AL.Sep.splitC 44 s : List Bytes) : Int))), (18, vc (i6 ((k : Int) + 1)))] [(4, AObj.grow 66 2 RuleV ([], 0) rowP ((ruled (List.take k (AL.Sep.splitC 44 s))) ++ [(((AL.Sep.cutAt 58 (List.getD (AL.Sep.splitC 44 s) k [])).1, (capsR ((AL.Sep.cutAt 58 (List.getD (AL.Sep.splitC 44 s) k [])).2.1)).1) : RuleV)]))]) (ent_swap 44 4 (by kernel_rfl) (by kernel_rfl)) ?_
        refine AMx.ent_inv (s' := AS.lst 52 [(4, vo 4), (16, vc (AL.Fnv.slS (AL.Sep.splitC 44 s))), (17, vc (i6 (List.length (AL.Sep.splitC 44 s : List Bytes) : Int))), (18, vc (i6 ((k : Int) + 1)))] [(4, AObj.grow 66 2 RuleV ([], 0) rowP ((ruled (List.take k (AL.Sep.splitC 44 s))) ++ [(((AL.Sep.cutAt 58 (List.getD (AL.Sep.splitC 44 s) k [])).1, (capsR ((AL.Sep.cutAt 58 (List.getD (AL.Sep.splitC 44 s) k [])).2.1)).1) : RuleV)]))]) (ent_proj [4, 16, 17, 18] [4]) ?_
        refine AMx.inv ⟨_, ?_, k + 1, ?_, rfl, ?_⟩
        rotate_left
        · exact ⟨by omega, fine_step (by omega) hN (by rw [scan_ok hc3.1 hc3.2])⟩
        · rw [← ruled_step (AL.Sep.splitC 44 s) k (by omega), scan_ok hc3.1 hc3.2]; rfl
        · omega
    · try simp only [decide_eq_true_eq, decide_eq_false_iff_not] at hc2
      refine AMx.exit ?_
      refine AMx.code_exit ?_
      refine AMx.inv_exit ?_
      refine AMx.blk_exit ?_
      rw [show List.take k (AL.Sep.splitC 44 s) = AL.Sep.splitC 44 s from List.take_of_length_le (by omega)]
      refine AMx.seq ?_
      refine AMx.seq ?_
      refine AMx.ent (s' := AS.lst 52 [(4, vc (slP (ruled (AL.Sep.splitC 44 s)))), (16, vc (AL.Fnv.slS (AL.Sep.splitC 44 s))), (17, vc (i6 (List.length (AL.Sep.splitC 44 s : List Bytes) : Int))), (18, vc (i6 (k : Int))), (19, vc (bo (decide ((k : Int) < (List.length (AL.Sep.splitC 44 s : List Bytes) : Int)))))] []) (ent_freeze (id := 4) (T := 66) (by kernel_rfl)) ?_
      refine AMx.region (ces := [(1, CE.call [] [] (vc (i6 (checkP (ruled (AL.Sep.splitC 44 s))))) [])]) (ks := [4, 12]) (hs := []) (cs := [Spec Tryd.prog 40 [tc (slP (ruled (AL.Sep.splitC 44 s)))] (ofH []) (vc (i6 (checkP (ruled (AL.Sep.splitC 44 s))))) (ofH [])]) (s' := AS.lst 52 [(4, vc (slP (ruled (AL.Sep.splitC 44 s)))), (12, vc (i6 (checkP (ruled (AL.Sep.splitC 44 s)))))] []) (by kernel_rfl) ?_ ?_
      · exact (Check_c (ruled (AL.Sep.splitC 44 s)))
      refine AMx.seq ?_
      refine AMx.region (ces := []) (ks := [4, 12, 49]) (hs := []) (cs := []) (s' := AS.lst 52 [(4, vc (slP (ruled (AL.Sep.splitC 44 s)))), (12, vc (i6 (checkP (ruled (AL.Sep.splitC 44 s))))), (49, vc (bo (!decide (checkP (ruled (AL.Sep.splitC 44 s)) = 0))))] []) (by kernel_rfl) ?_ ?_
      · exact trivial
      refine AMx.cond (b := !decide (checkP (ruled (AL.Sep.splitC 44 s)) = 0)) (by kernel_rfl) (fun hc4 => ?_) (fun hc4 => ?_)
      · try simp only [decide_eq_true_eq, decide_eq_false_iff_not, Bool.not_eq_true', Bool.not_eq_false'] at hc4
        refine AMx.seq ?_
        refine AMx.region (ces := []) (ks := [2, 3]) (hs := []) (cs := []) (s' := AS.lst 52 [(2, vc (SC.nilsl)), (3, vc (i6 (checkP (ruled (AL.Sep.splitC 44 s)))))] []) (by kernel_rfl) ?_ ?_
        · exact trivial
        refine AMx.ent (ent_weak 2 (v' := vc (slP [])) (by kernel_rfl) (AV.le_t (TV.le_c AC.le_nil))) ?_
        refine AMx.ret ?_
        exact RetP.mk (r := AV.tup [tc (slP []), tc (i6 (checkP (ruled (AL.Sep.splitC 44 s))))]) (by kernel_rfl) (by rw [show parseP s = ([], checkP (ruled (AL.Sep.splitC 44 s))) from by have hf : fineS (Sep.splitC 44 s) = true := (by rw [← hN, List.take_of_length_le (by omega)]); rw [parse_no hc1 hf (by assumption)]])
      · try simp only [decide_eq_true_eq, decide_eq_false_iff_not, Bool.not_eq_true', Bool.not_eq_false'] at hc4
        refine AMx.skip ?_
        refine AMx.seq ?_
        refine AMx.region (ces := []) (ks := [2, 3]) (hs := []) (cs := []) (s' := AS.lst 52 [(2, vc (slP (ruled (AL.Sep.splitC 44 s)))), (3, vc (i6 0))] []) (by kernel_rfl) ?_ ?_
        · exact trivial
        refine AMx.ret ?_
        exact RetP.mk (r := AV.tup [tc (slP (ruled (AL.Sep.splitC 44 s))), tc (i6 0)]) (by kernel_rfl) (by rw [show parseP s = (ruled (AL.Sep.splitC 44 s), 0) from by have hf : fineS (Sep.splitC 44 s) = true := (by rw [← hN, List.take_of_length_le (by omega)]); rw [parse_ok hc1 hf (by assumption)]])

end AL.Policy
