/- route: the contracts of its functions, by their walks. No condition. -/
import Derived.Test.YtfedegdihgeelaaDoorRouteA
namespace AL.Route
open Go Go.Proofs AL AL.Rune
set_option linter.unusedVariables false
set_option linter.unusedSimpArgs false

theorem f76_body : Tryd.f76.body = some (.seq (.region 0 (rg Tryd.f76 0) false) (.seq (.seq (.region 1 (rg Tryd.f76 1) false) (.cond (.tmp 19) (.seq (.region 2 (rg Tryd.f76 2) false) (.ret)) (.skip))) (.seq (.region 3 (rg Tryd.f76 3) false) (.seq (.seq (.region 4 (rg Tryd.f76 4) false) (.block 0 (.loop (.seq (.region 5 (rg Tryd.f76 5) false) (.seq (.cond (.tmp 23) (.skip) (.exit 0)) (.block 1 (.seq (.region 6 (rg Tryd.f76 6) false) (.seq (.seq (.region 7 (rg Tryd.f76 7) false) (.cond (.tmp 27) (.seq (.region 8 (rg Tryd.f76 8) false) (.ret)) (.skip))) (.region 9 (rg Tryd.f76 9) false))))))))) (.seq (.seq (.region 10 (rg Tryd.f76 10) false) (.cond (.tmp 31) (.seq (.region 11 (rg Tryd.f76 11) false) (.ret)) (.skip))) (.seq (.region 12 (rg Tryd.f76 12) false) (.ret))))))) := by kernel_rfl

set_option maxRecDepth 100000 in
set_option maxHeartbeats 8000000 in
theorem Part_c (s : Bytes) (hb : s.length ≤ 100000) : Pure Tryd.prog 76 [tc (st s)] (vc (i6 (partS s))) := by
 refine Pure.of_body Tryd.func76 f76_body (by kernel_rfl) Tryd.ntmps76 (by kernel_rfl) (by kernel_rfl) ?_
 refine gS [] [] 32 [(0, vc (st s))] [] trivial ?_
 refine gQ ?_
 refine gS [] [((decide (s = [])) = false) → allP [], ((decide (s = [])) = false) → allP [(decide (s = [])) = false], (decide (s = [])) = false → allP [(decide (s = [])) = false], (((decide (s = [])) || (decide (s = [46]))) = false) → allP [], (((decide (s = [])) || (decide (s = [46]))) = false) → allP [((decide (s = [])) || (decide (s = [46]))) = false], ((decide (s = [])) || (decide (s = [46]))) = false → allP [((decide (s = [])) || (decide (s = [46]))) = false], ((((decide (s = [])) || (decide (s = [46]))) || (decide (s = [46, 46]))) = false) → allP [], ((((decide (s = [])) || (decide (s = [46]))) || (decide (s = [46, 46]))) = false) → allP [(((decide (s = [])) || (decide (s = [46]))) || (decide (s = [46, 46]))) = false], (((decide (s = [])) || (decide (s = [46]))) || (decide (s = [46, 46]))) = false → allP [(((decide (s = [])) || (decide (s = [46]))) || (decide (s = [46, 46]))) = false]] 32 [(0, vc (st s)), (19, vc (bo ((((decide (s = [])) || (decide (s = [46]))) || (decide (s = [46, 46]))) || (decide (s = [45])))))] [] ⟨(fun _ => trivial), (fun hp => hp), (fun hp2 => (by first | exact hp2 | exact ⟨hp, hp2⟩)), (fun _ => trivial), (fun hp => hp), (fun hp2 => (by first | exact hp2 | exact ⟨hp, hp2⟩)), (fun _ => trivial), (fun hp => hp), (fun hp2 => (by first | exact hp2 | exact ⟨hp, hp2⟩))⟩ ?_
 refine gB (((((decide (s = [])) || (decide (s = [46]))) || (decide (s = [46, 46]))) || (decide (s = [45])))) (fun hc1 => ?_) fun hc1 => ?_
 ·
  try simp only [xT, xF, xO, xP] at hc1
  refine gS [] [] 32 [(2, vc (i6 4))] [] trivial ?_
  exact gT (vc (i6 4)) (by first | rw [part_1 (by simpa [or_assoc, and_assoc] using hc1)] | rw [part_2 (left_bad (by omega) hA (by assumption))])
 ·
  try simp only [xT, xF, xO, xP] at hc1
  refine AMx.skip ?_
  refine gS [] [] 32 [(0, vc (st s)), (3, vc (i6 0))] [] trivial ?_
  refine gQ ?_
  refine gS [] [] 32 [(3, vc (i6 0)), (21, vp 21 0)] [(21, AObj.iter s 0)] trivial ?_
  refine AMx.block ?_
  refine AMx.ent (s' := AS.lst 32 [(3, vc (i6 0)), (21, vp 21 0)] [(21, AObj.iter s 0)]) (ent_proj [3, 21] [21]) ?_
  refine AMx.loop (fun mm ss => ∃ (pos : Nat) (n : Nat), (pos ≤ s.length ∧ LeftAll s pos ∧ LeftN s pos n) ∧ mm = s.length - pos ∧ ss = AS.lst 32 [(3, vc (i6 (n : Int))), (21, vp 21 0)] [(21, AObj.iter s pos)]) ⟨0, 0, ?_, rfl, ?_⟩ ?_
  · exact ⟨Nat.zero_le _, left_0 s, leftN_0 s⟩
  · rfl
  rintro mm ss ⟨pos, n, ⟨hI, hA, hN⟩, rfl, rfl⟩
  refine gQ ?_
  rcases Nat.lt_or_ge pos (List.length s) with hn1 | hn1
  ·
   have hd1 := AL.Rune.dec_ok hn1
   refine gR [(0, CE.str [])] [pos < List.length s, ((pos : Nat) : Int) ≤ 9223372036854775807] 32 [(3, vc (i6 (n : Int))), (21, vp 21 0), (22, AV.tup [tc (bo true), tc (i6 (pos : Int)), tc (i3 ((decS s pos).1 : Int))]), (23, vc (bo true))] [(21, AObj.iter s (pos + (decS s pos).2))] ⟨(show pos < List.length s from (by first | omega | (have hz := leftN_le hN; omega))), (show ((pos : Nat) : Int) ≤ 9223372036854775807 from (by first | omega | (have hz := leftN_le hN; omega)))⟩ ?_
   refine gQ ?_
   refine gBt ?_
   refine AMx.skip ?_
   refine AMx.block ?_
   refine gS [] [] 32 [(3, vc (i6 (n : Int))), (5, vc (i3 ((decS s pos).1 : Int))), (21, vp 21 0)] [(21, AObj.iter s (pos + (decS s pos).2))] trivial ?_
   refine gQ ?_
   refine gS [(1, CE.call [] [] (vc (bo (runeOk ((decS s pos).1 : Int)))) [])] [Spec Tryd.prog 82 [tc (i3 ((decS s pos).1 : Int))] (ofH []) (vc (bo (runeOk ((decS s pos).1 : Int)))) (ofH [])] 32 [(3, vc (i6 (n : Int))), (21, vp 21 0), (27, vc (bo (!(runeOk ((decS s pos).1 : Int)))))] [(21, AObj.iter s (pos + (decS s pos).2))] (Rune_c ((decS s pos).1 : Int)) ?_
   refine gB (!(runeOk ((decS s pos).1 : Int))) (fun hc3 => ?_) fun hc3 => ?_
   ·
    try simp only [xT, xF, xN, xM] at hc3
    refine gS [] [] 32 [(2, vc (i6 4))] [] trivial ?_
    exact gT (vc (i6 4)) (by first | rw [part_1 (by simpa [or_assoc, and_assoc] using hc1)] | rw [part_2 (left_bad (by omega) hA (by assumption))])
   ·
    try simp only [xT, xF, xN, xM] at hc3
    refine AMx.skip ?_
    refine gR [] [InR .i64 ((n : Int) + 1)] 32 [(3, vc (i6 ((n : Int) + 1))), (21, vp 21 0)] [(21, AObj.iter s (pos + (decS s pos).2))] (show InR .i64 ((n : Int) + 1) from (inR64 (by first | omega | (have hz := leftN_le hN; omega)) (by first | omega | (have hz := leftN_le hN; omega)))) ?_
    refine AMx.blk ?_
    refine AMx.ent_inv (s' := AS.lst 32 [(3, vc (i6 ((n : Int) + 1))), (21, vp 21 0)] [(21, AObj.iter s (pos + (decS s pos).2))]) (ent_proj [3, 21] [21]) ?_
    refine AMx.inv ⟨_, ?_, pos + (decS s pos).2, n + 1, ?_, rfl, ?_⟩
    rotate_left
    · exact ⟨by omega, left_ok (by omega) hA (by assumption), leftN_step (by omega) hN⟩
    · rfl
    · omega
  ·
   refine gR [] [List.length s ≤ pos] 32 [(3, vc (i6 (n : Int))), (21, vp 21 0), (22, AV.tup [tc (bo false)]), (23, vc (bo false))] [(21, AObj.iter s pos)] (show List.length s ≤ pos from (by first | omega | (have hz := leftN_le hN; omega))) ?_
   refine gQ ?_
   refine gBf ?_
   refine AMx.exit ?_
   refine AMx.code_exit ?_
   refine AMx.inv_exit ?_
   refine AMx.blk_exit ?_
   refine gQ ?_
   refine gS [] [] 32 [(31, vc (bo (decide (12 < (n : Int)))))] [] trivial ?_
   refine gC (12 < (n : Int)) (fun hc5 => ?_) fun hc5 => ?_
   ·
    refine gS [] [] 32 [(2, vc (i6 5))] [] trivial ?_
    exact gT (vc (i6 5)) (by rw [part_3 (by simpa [or_assoc, and_assoc] using hc1) (left_end (by omega) hA) (by have := leftN_end (by omega) hN; omega)])
   ·
    refine AMx.skip ?_
    refine gS [] [] 32 [(2, vc (i6 0))] [] trivial ?_
    exact gT (vc (i6 0)) (by rw [part_4 (by simpa [or_assoc, and_assoc] using hc1) (left_end (by omega) hA) (by have := leftN_end (by omega) hN; omega)])

end AL.Route
