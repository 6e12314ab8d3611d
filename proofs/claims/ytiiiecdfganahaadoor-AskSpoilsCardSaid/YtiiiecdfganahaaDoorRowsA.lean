/- rows: the contracts of its functions, by their walks. No condition. -/
import Derived.Test.YtiiiecdfganahaaDoorRowsD
import Derived.Test.YtiiiecdfganahaaDoorRouteF
import Derived.Test.YtiiiecdfganahaaDoorALe
namespace AL.Rows
open Go Go.Proofs AL
set_option linter.unusedVariables false
set_option linter.unusedSimpArgs false

theorem f62_body : Tryd.f62.body = some (.seq (.region 0 (rg Tryd.f62 0) false) (.seq (.seq (.region 1 (rg Tryd.f62 1) false) (.cond (.tmp 11) (.seq (.region 2 (rg Tryd.f62 2) false) (.ret)) (.skip))) (.seq (.seq (.region 3 (rg Tryd.f62 3) false) (.block 0 (.loop (.seq (.region 4 (rg Tryd.f62 4) false) (.seq (.cond (.tmp 15) (.skip) (.exit 0)) (.block 1 (.seq (.region 5 (rg Tryd.f62 5) false) (.seq (.region 6 (rg Tryd.f62 6) false) (.cond (.tmp 30) (.seq (.region 7 (rg Tryd.f62 7) false) (.ret)) (.skip)))))))))) (.seq (.region 8 (rg Tryd.f62 8) false) (.ret))))) := by kernel_rfl

set_option maxRecDepth 100000 in
set_option maxHeartbeats 8000000 in
theorem named_c (s : Bytes) : Pure Tryd.prog 62 [tc (st s)] (vc (bo (namedS s))) := by
  refine Pure.of_body Tryd.func62 f62_body (by kernel_rfl) Tryd.ntmps62 (by kernel_rfl) (by kernel_rfl) ?_
  refine AMx.seq ?_
  refine AMx.region (ces := []) (ks := [0]) (hs := []) (cs := []) (s' := AS.lst 31 [(0, vc (st s))] []) (by kernel_rfl) ?_ ?_
  · exact trivial
  refine AMx.seq ?_
  refine AMx.seq ?_
  refine AMx.region (ces := []) (ks := [0, 11]) (hs := []) (cs := [((decide (s = [])) = false) → allP [], ((decide (s = [])) = false) → allP [(decide (s = [])) = false], ((decide (s = [])) = false) → allP [(decide (s = [])) = false], (decide (s = [])) = false → allP [(decide (s = [])) = false]]) (s' := AS.lst 31 [(0, vc (st s)), (11, vc (bo ((decide (s = [])) || (decide (8 < (List.length s : Int))))))] []) (by kernel_rfl) ?_ ?_
  · exact ⟨(fun _ => trivial), (fun hp => hp), (fun hp => hp), (fun hp2 => (by first | exact hp2 | exact ⟨hp, hp2⟩))⟩
  refine AMx.cond (b := ((decide (s = [])) || (decide (8 < (List.length s : Int))))) (by kernel_rfl) (fun hc1 => ?_) (fun hc1 => ?_)
  · try simp only [decide_eq_true_eq, decide_eq_false_iff_not, Bool.or_eq_true, Bool.or_eq_false_iff] at hc1
    refine AMx.seq ?_
    refine AMx.region (ces := []) (ks := [2]) (hs := []) (cs := []) (s' := AS.lst 31 [(2, vc (bo false))] []) (by kernel_rfl) ?_ ?_
    · exact trivial
    refine AMx.ret ?_
    exact RetP.mk (r := vc (bo false)) (by kernel_rfl) (by first | rw [nm_bad (by omega) (by assumption)] | rw [named_size (by rcases hc1 with h | h; exact .inl h; exact .inr (by omega))])
  · try simp only [decide_eq_true_eq, decide_eq_false_iff_not, Bool.or_eq_true, Bool.or_eq_false_iff] at hc1
    refine AMx.skip ?_
    refine AMx.seq ?_
    refine AMx.seq ?_
    refine AMx.region (ces := []) (ks := [13]) (hs := [13]) (cs := []) (s' := AS.lst 31 [(13, vp 13 0)] [(13, AObj.iter s 0)]) (by kernel_rfl) ?_ ?_
    · exact trivial
    refine AMx.block ?_
    refine AMx.ent (s' := AS.lst 31 [(13, vp 13 0)] [(13, AObj.iter s 0)]) (ent_proj [13] [13]) ?_
    refine AMx.loop (fun mm ss => ∃ (pos : Nat), (pos ≤ s.length ∧ LeftNm s pos) ∧ mm = s.length - pos ∧ ss = AS.lst 31 [(13, vp 13 0)] [(13, AObj.iter s pos)]) ⟨0, ?_, rfl, ?_⟩ ?_
    · exact ⟨Nat.zero_le _, nm_0 s⟩
    · rfl
    rintro mm ss ⟨pos, ⟨hI, hN⟩, rfl, rfl⟩
    refine AMx.seq ?_
    rcases Nat.lt_or_ge pos (List.length s) with hn1 | hn1
    · have hd1 := AL.Rune.dec_ok hn1
      refine AMx.region (ces := [(0, CE.str [])]) (ks := [13, 14, 15]) (hs := [13]) (cs := [pos < List.length s, ((pos : Nat) : Int) ≤ 9223372036854775807]) (s' := AS.lst 31 [(13, vp 13 0), (14, AV.tup [tc (bo true), tc (i6 (pos : Int)), tc (i3 ((decS s pos).1 : Int))]), (15, vc (bo true))] [(13, AObj.iter s (pos + (decS s pos).2))]) (by kernel_rfl) ?_ ?_
      · exact ⟨(show pos < List.length s from (by omega)), (show ((pos : Nat) : Int) ≤ 9223372036854775807 from (by omega))⟩
      refine AMx.seq ?_
      refine AMx.cond (b := true) (by kernel_rfl) (fun hc2 => ?_) (fun hc2 => ?_)
      · skip
        refine AMx.skip ?_
        refine AMx.block ?_
        refine AMx.seq ?_
        refine AMx.region (ces := []) (ks := [4, 13]) (hs := [13]) (cs := []) (s' := AS.lst 31 [(4, vc (i3 ((decS s pos).1 : Int))), (13, vp 13 0)] [(13, AObj.iter s (pos + (decS s pos).2))]) (by kernel_rfl) ?_ ?_
        · exact trivial
        refine AMx.seq ?_
        refine AMx.region (ces := []) (ks := [13, 30]) (hs := [13]) (cs := [((decide (((decS s pos).1 : Int) < 97)) = false) → allP [], ((decide (((decS s pos).1 : Int) < 97)) = false) → allP [(decide (((decS s pos).1 : Int) < 97)) = false], (decide (((decS s pos).1 : Int) < 97)) = false → allP [(decide (((decS s pos).1 : Int) < 97)) = false], (((decide (((decS s pos).1 : Int) < 97)) || (decide (122 < ((decS s pos).1 : Int)))) = true) → allP [], (((decide (((decS s pos).1 : Int) < 97)) || (decide (122 < ((decS s pos).1 : Int)))) = true) → allP [((decide (((decS s pos).1 : Int) < 97)) || (decide (122 < ((decS s pos).1 : Int)))) = true], (((decide (((decS s pos).1 : Int) < 97)) || (decide (122 < ((decS s pos).1 : Int)))) = true) → allP [((decide (((decS s pos).1 : Int) < 97)) || (decide (122 < ((decS s pos).1 : Int)))) = true], ((((decide (((decS s pos).1 : Int) < 97)) || (decide (122 < ((decS s pos).1 : Int)))) = true) ∧ (decide (((decS s pos).1 : Int) < 48)) = false) → allP [], ((((decide (((decS s pos).1 : Int) < 97)) || (decide (122 < ((decS s pos).1 : Int)))) = true) ∧ (decide (((decS s pos).1 : Int) < 48)) = false) → allP [(((decide (((decS s pos).1 : Int) < 97)) || (decide (122 < ((decS s pos).1 : Int)))) = true) ∧ (decide (((decS s pos).1 : Int) < 48)) = false], (((decide (((decS s pos).1 : Int) < 97)) || (decide (122 < ((decS s pos).1 : Int)))) = true) → allP [((decide (((decS s pos).1 : Int) < 97)) || (decide (122 < ((decS s pos).1 : Int)))) = true, (decide (((decS s pos).1 : Int) < 48)) = false → allP [(((decide (((decS s pos).1 : Int) < 97)) || (decide (122 < ((decS s pos).1 : Int)))) = true) ∧ (decide (((decS s pos).1 : Int) < 48)) = false]], ((decide (((decS s pos).1 : Int) < 97)) || (decide (122 < ((decS s pos).1 : Int)))) = true → allP [((decide (((decS s pos).1 : Int) < 97)) || (decide (122 < ((decS s pos).1 : Int)))) = true]]) (s' := AS.lst 31 [(13, vp 13 0), (30, vc (bo (((decide (((decS s pos).1 : Int) < 97)) || (decide (122 < ((decS s pos).1 : Int)))) && ((decide (((decS s pos).1 : Int) < 48)) || (decide (57 < ((decS s pos).1 : Int)))))))] [(13, AObj.iter s (pos + (decS s pos).2))]) (by kernel_rfl) ?_ ?_
        · exact ⟨(fun _ => trivial), (fun hp => hp), (fun hp2 => (by first | exact hp2 | exact ⟨hp, hp2⟩)), (fun _ => trivial), (fun hp => hp), (fun hp => hp), (fun _ => trivial), (fun hp => hp), (fun hp => by have hq := hp; (try simp only [decide_eq_true_eq, decide_eq_false_iff_not, Bool.and_eq_true, Bool.or_eq_true, Bool.and_eq_false_iff, Bool.or_eq_false_iff, Bool.not_eq_true', Bool.not_eq_false', Bool.not_eq_true, Bool.not_eq_false] at hq); exact ⟨hp, (fun hp2 => (by first | exact hp2 | exact ⟨hp, hp2⟩))⟩), (fun hp2 => (by first | exact hp2 | exact ⟨hp, hp2⟩))⟩
        refine AMx.cond (b := (((decide (((decS s pos).1 : Int) < 97)) || (decide (122 < ((decS s pos).1 : Int)))) && ((decide (((decS s pos).1 : Int) < 48)) || (decide (57 < ((decS s pos).1 : Int)))))) (by kernel_rfl) (fun hc3 => ?_) (fun hc3 => ?_)
        · try simp only [decide_eq_true_eq, decide_eq_false_iff_not, Bool.and_eq_true, Bool.and_eq_false_iff, Bool.or_eq_true, Bool.or_eq_false_iff] at hc3
          refine AMx.seq ?_
          refine AMx.region (ces := []) (ks := [2]) (hs := []) (cs := []) (s' := AS.lst 31 [(2, vc (bo false))] []) (by kernel_rfl) ?_ ?_
          · exact trivial
          refine AMx.ret ?_
          exact RetP.mk (r := vc (bo false)) (by kernel_rfl) (by first | rw [nm_bad (by omega) (by assumption)] | rw [named_size (by rcases hc1 with h | h; exact .inl h; exact .inr (by omega))])
        · try simp only [decide_eq_true_eq, decide_eq_false_iff_not, Bool.and_eq_true, Bool.and_eq_false_iff, Bool.or_eq_true, Bool.or_eq_false_iff] at hc3
          refine AMx.skip ?_
          refine AMx.blk ?_
          refine AMx.ent_inv (s' := AS.lst 31 [(13, vp 13 0)] [(13, AObj.iter s (pos + (decS s pos).2))]) (ent_proj [13] [13]) ?_
          refine AMx.inv ⟨_, ?_, pos + (decS s pos).2, ?_, rfl, ?_⟩
          rotate_left
          · exact ⟨by omega, nm_step (by omega) hN (by omega)⟩
          · rfl
          · omega
      · skip
        cases hc2
    · skip
      refine AMx.region (ces := []) (ks := [13, 14, 15]) (hs := [13]) (cs := [List.length s ≤ pos]) (s' := AS.lst 31 [(13, vp 13 0), (14, AV.tup [tc (bo false)]), (15, vc (bo false))] [(13, AObj.iter s pos)]) (by kernel_rfl) ?_ ?_
      · exact (show List.length s ≤ pos from (by omega))
      refine AMx.seq ?_
      refine AMx.cond (b := false) (by kernel_rfl) (fun hc4 => ?_) (fun hc4 => ?_)
      · skip
        cases hc4
      · skip
        refine AMx.exit ?_
        refine AMx.code_exit ?_
        refine AMx.inv_exit ?_
        refine AMx.blk_exit ?_
        refine AMx.seq ?_
        refine AMx.region (ces := []) (ks := [2]) (hs := []) (cs := []) (s' := AS.lst 31 [(2, vc (bo true))] []) (by kernel_rfl) ?_ ?_
        · exact trivial
        refine AMx.ret ?_
        exact RetP.mk (r := vc (bo true)) (by kernel_rfl) (by rw [nm_end (by omega) hN hc1.1 (by omega)])

end AL.Rows
