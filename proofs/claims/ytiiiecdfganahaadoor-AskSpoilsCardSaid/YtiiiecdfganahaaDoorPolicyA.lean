/- policy: the contracts of its functions, by their walks. No condition. -/
import Derived.Test.YtiiiecdfganahaaDoorPolicyD
import Derived.Test.YtiiiecdfganahaaDoorSepA
import Derived.Test.YtiiiecdfganahaaDoorRouteF
namespace AL.Policy
open Go Go.Proofs AL AL.Rune
set_option linter.unusedVariables false
set_option linter.unusedSimpArgs false

theorem f66_body : Tryd.f66.body = some (.seq (.region 0 (rg Tryd.f66 0) false) (.seq (.region 1 (rg Tryd.f66 1) false) (.ret))) := by kernel_rfl

set_option maxRecDepth 100000 in
set_option maxHeartbeats 8000000 in
theorem same_c (x : RuleV) (p : Bytes) (n : Int) : Pure Tryd.prog 66 [TV.agg [.s (st x.1), .s (u8 x.2)], tc (SC.ref 2 (rl [st p, u8 n]))] (vc (bo (decide (x.1 = p)))) := by
  refine Pure.of_body Tryd.func66 f66_body (by kernel_rfl) Tryd.ntmps66 (by kernel_rfl) (by kernel_rfl) ?_
  refine AMx.seq ?_
  refine AMx.region (ces := []) (ks := [1, 2]) (hs := [2]) (cs := []) (s' := AS.lst 9 [(1, vc (SC.ref 2 (rl [st p, u8 n]))), (2, vp 2 0)] [(2, AObj.row [.s (st x.1), .s (u8 x.2)])]) (by kernel_rfl) ?_ ?_
  · exact trivial
  refine AMx.seq ?_
  refine AMx.region (ces := []) (ks := [3]) (hs := []) (cs := []) (s' := AS.lst 9 [(3, vc (bo (decide (x.1 = p))))] []) (by kernel_rfl) ?_ ?_
  · exact trivial
  refine AMx.ret ?_
  exact RetP.mk (r := vc (bo (decide (x.1 = p)))) (by kernel_rfl) rfl

theorem f77_body : Tryd.f77.body = some (.seq (.region 0 (rg Tryd.f77 0) false) (.seq (.seq (.region 1 (rg Tryd.f77 1) false) (.block 0 (.loop (.seq (.region 2 (rg Tryd.f77 2) false) (.seq (.cond (.tmp 9) (.skip) (.exit 0)) (.seq (.block 1 (.seq (.region 3 (rg Tryd.f77 3) false) (.seq (.region 4 (rg Tryd.f77 4) false) (.cond (.tmp 16) (.seq (.region 5 (rg Tryd.f77 5) false) (.ret)) (.skip))))) (.region 6 (rg Tryd.f77 6) false))))))) (.seq (.region 7 (rg Tryd.f77 7) false) (.ret)))) := by kernel_rfl

set_option maxRecDepth 100000 in
set_option maxHeartbeats 8000000 in
theorem Index_c (f : FuncId) (caps : List Cap) (p : RuleV → Bool) (hf : ∀ x : RuleV, Pure Tryd.prog f ([TV.agg [.s (st x.1), .s (u8 x.2)]] ++ List.map capT caps) (vc (bo (p x)))) (l : List RuleV) : Pure Tryd.prog 77 [tc (slP l), TV.c (.fn f caps)] (vc (i6 (Lib.idxS p l))) := by
  refine Pure.of_body Tryd.func77 f77_body (by kernel_rfl) Tryd.ntmps77 (by kernel_rfl) (by kernel_rfl) ?_
  refine AMx.sl 0 (l := l) rfl (fun hl => ?_)
  simp only [maxLen] at hl
  refine AMx.seq ?_
  refine AMx.region (ces := []) (ks := [0, 1]) (hs := []) (cs := []) (s' := AS.lst 19 [(0, vc (slP l)), (1, AV.t (TV.c (.fn f caps)))] []) (by kernel_rfl) ?_ ?_
  · exact trivial
  refine AMx.seq ?_
  refine AMx.seq ?_
  refine AMx.region (ces := []) (ks := [0, 1, 7, 8]) (hs := []) (cs := []) (s' := AS.lst 19 [(0, vc (slP l)), (1, AV.t (TV.c (.fn f caps))), (7, vc (i6 (List.length l : Int))), (8, vc (i6 0))] []) (by kernel_rfl) ?_ ?_
  · exact trivial
  refine AMx.block ?_
  refine AMx.ent (s' := AS.lst 19 [(0, vc (slP l)), (1, AV.t (TV.c (.fn f caps))), (7, vc (i6 (List.length l : Int))), (8, vc (i6 0))] []) (ent_proj [0, 1, 7, 8] []) ?_
  refine AMx.loop (fun mm ss => ∃ (k : Nat), (k ≤ l.length ∧ ∀ x ∈ List.take k l, p x = false) ∧ mm = l.length - k ∧ ss = AS.lst 19 [(0, vc (slP l)), (1, AV.t (TV.c (.fn f caps))), (7, vc (i6 (List.length l : Int))), (8, vc (i6 (k : Int)))] []) ⟨0, ?_, rfl, ?_⟩ ?_
  · exact ⟨by omega, fun x hx => by simp at hx⟩
  · rfl
  rintro mm ss ⟨k, ⟨hI, hN⟩, rfl, rfl⟩
  refine AMx.seq ?_
  refine AMx.region (ces := []) (ks := [0, 1, 7, 8, 9]) (hs := []) (cs := []) (s' := AS.lst 19 [(0, vc (slP l)), (1, AV.t (TV.c (.fn f caps))), (7, vc (i6 (List.length l : Int))), (8, vc (i6 (k : Int))), (9, vc (bo (decide ((k : Int) < (List.length l : Int)))))] []) (by kernel_rfl) ?_ ?_
  · exact trivial
  refine AMx.seq ?_
  refine AMx.cond (b := decide ((k : Int) < (List.length l : Int))) (by kernel_rfl) (fun hc1 => ?_) (fun hc1 => ?_)
  · try simp only [decide_eq_true_eq, decide_eq_false_iff_not] at hc1
    refine AMx.skip ?_
    refine AMx.seq ?_
    refine AMx.block ?_
    refine AMx.seq ?_
    refine AMx.region (ces := []) (ks := [0, 1, 5, 7, 8]) (hs := []) (cs := []) (s' := AS.lst 19 [(0, vc (slP l)), (1, AV.t (TV.c (.fn f caps))), (5, vc (i6 (k : Int))), (7, vc (i6 (List.length l : Int))), (8, vc (i6 (k : Int)))] []) (by kernel_rfl) ?_ ?_
    · exact trivial
    refine AMx.seq ?_
    refine AMx.region (ces := [(5, CE.call [] [] (vc (bo (p (List.getD l k ([], 0))))) [])]) (ks := [0, 1, 5, 7, 8, 16]) (hs := []) (cs := [(0 : Int) ≤ (k : Int), (k : Int) < List.length l, Spec Tryd.prog f ([TV.agg [.s (st ((List.getD l k ([], 0)).1)), .s (u8 ((List.getD l k ([], 0)).2))]] ++ List.map capT caps) (ofH []) (vc (bo (p (List.getD l k ([], 0))))) (ofH [])]) (s' := AS.lst 19 [(0, vc (slP l)), (1, AV.t (TV.c (.fn f caps))), (5, vc (i6 (k : Int))), (7, vc (i6 (List.length l : Int))), (8, vc (i6 (k : Int))), (16, vc (bo (p (List.getD l k ([], 0)))))] []) (by kernel_rfl) ?_ ?_
    · exact ⟨(show (0 : Int) ≤ (k : Int) from (by omega)), (show (k : Int) < List.length l from (by omega)), (hf (List.getD l k ([], 0)))⟩
    refine AMx.cond (b := p (List.getD l k ([], 0))) (by kernel_rfl) (fun hc2 => ?_) (fun hc2 => ?_)
    · try simp only [decide_eq_true_eq, decide_eq_false_iff_not] at hc2
      refine AMx.seq ?_
      refine AMx.region (ces := []) (ks := [4]) (hs := []) (cs := []) (s' := AS.lst 19 [(4, vc (i6 (k : Int)))] []) (by kernel_rfl) ?_ ?_
      · exact trivial
      refine AMx.ret ?_
      exact RetP.mk (r := vc (i6 (k : Int))) (by kernel_rfl) (by rw [Lib.idx_hit ([], 0) l k (by omega) hN (by assumption)])
    · try simp only [decide_eq_true_eq, decide_eq_false_iff_not] at hc2
      refine AMx.skip ?_
      refine AMx.blk ?_
      refine AMx.region (ces := []) (ks := [0, 1, 7, 8]) (hs := []) (cs := [InR .i64 ((k : Int) + 1)]) (s' := AS.lst 19 [(0, vc (slP l)), (1, AV.t (TV.c (.fn f caps))), (7, vc (i6 (List.length l : Int))), (8, vc (i6 ((k : Int) + 1)))] []) (by kernel_rfl) ?_ ?_
      · exact (show InR .i64 ((k : Int) + 1) from (inR64 (by omega) (by omega)))
      refine AMx.ent_inv (s' := AS.lst 19 [(0, vc (slP l)), (1, AV.t (TV.c (.fn f caps))), (7, vc (i6 (List.length l : Int))), (8, vc (i6 ((k : Int) + 1)))] []) (ent_proj [0, 1, 7, 8] []) ?_
      refine AMx.inv ⟨_, ?_, k + 1, ?_, rfl, ?_⟩
      rotate_left
      · exact ⟨by omega, Lib.all_step ([], 0) l k (by omega) hN (by assumption)⟩
      · rfl
      · omega
  · try simp only [decide_eq_true_eq, decide_eq_false_iff_not] at hc1
    refine AMx.exit ?_
    refine AMx.code_exit ?_
    refine AMx.inv_exit ?_
    refine AMx.blk_exit ?_
    refine AMx.seq ?_
    refine AMx.region (ces := []) (ks := [4]) (hs := []) (cs := []) (s' := AS.lst 19 [(4, vc (i6 (-1)))] []) (by kernel_rfl) ?_ ?_
    · exact trivial
    refine AMx.ret ?_
    exact RetP.mk (r := vc (i6 (-1))) (by kernel_rfl) (by rw [Lib.idx_none (fun x hx => hN x (by rwa [List.take_of_length_le (by omega)]))])

theorem f65_body : Tryd.f65.body = some (.seq (.region 0 (rg Tryd.f65 0) false) (.seq (.region 1 (rg Tryd.f65 1) false) (.ret))) := by kernel_rfl

set_option maxRecDepth 100000 in
set_option maxHeartbeats 8000000 in
theorem Contains_c (f : FuncId) (caps : List Cap) (p : RuleV → Bool) (hf : ∀ x : RuleV, Pure Tryd.prog f ([TV.agg [.s (st x.1), .s (u8 x.2)]] ++ List.map capT caps) (vc (bo (p x)))) (l : List RuleV) : Pure Tryd.prog 65 [tc (slP l), TV.c (.fn f caps)] (vc (bo (decide (0 ≤ Lib.idxS p l)))) := by
  refine Pure.of_body Tryd.func65 f65_body (by kernel_rfl) Tryd.ntmps65 (by kernel_rfl) (by kernel_rfl) ?_
  refine AMx.seq ?_
  refine AMx.region (ces := []) (ks := [0, 1]) (hs := []) (cs := []) (s' := AS.lst 9 [(0, vc (slP l)), (1, AV.t (TV.c (.fn f caps)))] []) (by kernel_rfl) ?_ ?_
  · exact trivial
  refine AMx.seq ?_
  refine AMx.region (ces := [(2, CE.call [] [] (vc (i6 (Lib.idxS p l))) [])]) (ks := [4]) (hs := []) (cs := [Spec Tryd.prog 77 [tc (slP l), TV.c (.fn f caps)] (ofH []) (vc (i6 (Lib.idxS p l))) (ofH [])]) (s' := AS.lst 9 [(4, vc (bo (decide (0 ≤ Lib.idxS p l))))] []) (by kernel_rfl) ?_ ?_
  · exact (Index_c f caps p hf l)
  refine AMx.ret ?_
  exact RetP.mk (r := vc (bo (decide (0 ≤ Lib.idxS p l)))) (by kernel_rfl) rfl

theorem f54_body : Tryd.f54.body = some (.seq (.region 0 (rg Tryd.f54 0) false) (.seq (.seq (.region 1 (rg Tryd.f54 1) false) (.cond (.tmp 8) (.seq (.region 2 (rg Tryd.f54 2) false) (.seq (.region 3 (rg Tryd.f54 3) false) (.cond (.tmp 13) (.seq (.region 4 (rg Tryd.f54 4) false) (.ret)) (.skip)))) (.skip))) (.seq (.seq (.region 5 (rg Tryd.f54 5) false) (.cond (.tmp 17) (.seq (.region 6 (rg Tryd.f54 6) false) (.ret)) (.skip))) (.seq (.seq (.region 7 (rg Tryd.f54 7) false) (.cond (.tmp 20) (.seq (.region 8 (rg Tryd.f54 8) false) (.ret)) (.skip))) (.seq (.region 9 (rg Tryd.f54 9) false) (.ret)))))) := by kernel_rfl

set_option maxRecDepth 100000 in
set_option maxHeartbeats 8000000 in
theorem check1_c (z : RuleV) (ahead : List RuleV) : Pure Tryd.prog 54 [TV.agg [.s (st z.1), .s (u8 z.2)], tc (slP ahead)] (vc (i6 (oneC ahead z))) := by
  refine Pure.of_body Tryd.func54 f54_body (by kernel_rfl) Tryd.ntmps54 (by kernel_rfl) (by kernel_rfl) ?_
  refine AMx.seq ?_
  refine AMx.region (ces := []) (ks := [1, 2]) (hs := [2]) (cs := []) (s' := AS.lst 21 [(1, vc (slP ahead)), (2, vp 2 0)] [(2, AObj.row [.s (st z.1), .s (u8 z.2)])]) (by kernel_rfl) ?_ ?_
  · exact trivial
  refine AMx.seq ?_
  refine AMx.seq ?_
  refine AMx.region (ces := []) (ks := [1, 2, 8]) (hs := [2]) (cs := []) (s' := AS.lst 21 [(1, vc (slP ahead)), (2, vp 2 0), (8, vc (bo (!decide (z.1 = []))))] [(2, AObj.row [.s (st z.1), .s (u8 z.2)])]) (by kernel_rfl) ?_ ?_
  · exact trivial
  refine AMx.cond (b := !decide (z.1 = [])) (by kernel_rfl) (fun hc1 => ?_) (fun hc1 => ?_)
  · try simp only [decide_eq_true_eq, decide_eq_false_iff_not, Bool.not_eq_true', Bool.not_eq_false'] at hc1
    refine AMx.seq ?_
    refine AMx.region (ces := [(2, CE.call [] [] (vc (i6 (Route.checkS z.1))) [])]) (ks := [1, 2, 5]) (hs := [2]) (cs := [Spec Tryd.prog 37 [tc (st z.1)] (ofH []) (vc (i6 (Route.checkS z.1))) (ofH [])]) (s' := AS.lst 21 [(1, vc (slP ahead)), (2, vp 2 0), (5, vc (i6 (Route.checkS z.1)))] [(2, AObj.row [.s (st z.1), .s (u8 z.2)])]) (by kernel_rfl) ?_ ?_
    · exact (Route.Check_c z.1)
    refine AMx.seq ?_
    refine AMx.region (ces := []) (ks := [1, 2, 5, 13]) (hs := [2]) (cs := []) (s' := AS.lst 21 [(1, vc (slP ahead)), (2, vp 2 0), (5, vc (i6 (Route.checkS z.1))), (13, vc (bo (!decide (Route.checkS z.1 = 0))))] [(2, AObj.row [.s (st z.1), .s (u8 z.2)])]) (by kernel_rfl) ?_ ?_
    · exact trivial
    refine AMx.cond (b := !decide (Route.checkS z.1 = 0)) (by kernel_rfl) (fun hc2 => ?_) (fun hc2 => ?_)
    · try simp only [decide_eq_true_eq, decide_eq_false_iff_not, Bool.not_eq_true', Bool.not_eq_false'] at hc2
      refine AMx.seq ?_
      refine AMx.region (ces := []) (ks := [4]) (hs := []) (cs := []) (s' := AS.lst 21 [(4, vc (i6 (Route.checkS z.1)))] []) (by kernel_rfl) ?_ ?_
      · exact trivial
      refine AMx.ret ?_
      exact RetP.mk (r := vc (i6 (Route.checkS z.1))) (by kernel_rfl) (by rw [show oneC ahead z = Route.checkS z.1 from by unfold oneC; rw [← there_idx] <;> grind])
    · try simp only [decide_eq_true_eq, decide_eq_false_iff_not, Bool.not_eq_true', Bool.not_eq_false'] at hc2
      refine AMx.skip ?_
      refine AMx.seq ?_
      refine AMx.seq ?_
      refine AMx.region (ces := []) (ks := [1, 2, 17]) (hs := [2]) (cs := []) (s' := AS.lst 21 [(1, vc (slP ahead)), (2, vp 2 0), (17, vc (bo (decide (63 < z.2))))] [(2, AObj.row [.s (st z.1), .s (u8 z.2)])]) (by kernel_rfl) ?_ ?_
      · exact trivial
      refine AMx.cond (b := decide (63 < z.2)) (by kernel_rfl) (fun hc3 => ?_) (fun hc3 => ?_)
      · try simp only [decide_eq_true_eq, decide_eq_false_iff_not] at hc3
        refine AMx.seq ?_
        refine AMx.region (ces := []) (ks := [4]) (hs := []) (cs := []) (s' := AS.lst 21 [(4, vc (i6 2))] []) (by kernel_rfl) ?_ ?_
        · exact trivial
        refine AMx.ret ?_
        exact RetP.mk (r := vc (i6 2)) (by kernel_rfl) (by rw [show oneC ahead z = 2 from by unfold oneC; rw [← there_idx] <;> grind])
      · try simp only [decide_eq_true_eq, decide_eq_false_iff_not] at hc3
        refine AMx.skip ?_
        refine AMx.seq ?_
        refine AMx.seq ?_
        refine AMx.region (ces := [(2, CE.call [2] [] (vc (bo (decide (0 ≤ Lib.idxS (fun x : RuleV => decide (x.1 = z.1)) ahead)))) [])]) (ks := [20]) (hs := []) (cs := [Spec Tryd.prog 65 [tc (slP ahead), TV.c (.fn 66 [.s (SC.ref 2 (rl [st z.1, u8 z.2]))])] (ofH []) (vc (bo (decide (0 ≤ Lib.idxS (fun x : RuleV => decide (x.1 = z.1)) ahead)))) (ofH [])]) (s' := AS.lst 21 [(20, vc (bo (decide (0 ≤ Lib.idxS (fun x : RuleV => decide (x.1 = z.1)) ahead))))] []) (by kernel_rfl) ?_ ?_
        · exact (Contains_c 66 [.s (SC.ref 2 (rl [st z.1, u8 z.2]))] (fun x : RuleV => decide (x.1 = z.1)) (fun x => same_c x z.1 z.2) ahead)
        refine AMx.cond (b := decide (0 ≤ Lib.idxS (fun x : RuleV => decide (x.1 = z.1)) ahead)) (by kernel_rfl) (fun hc4 => ?_) (fun hc4 => ?_)
        · try simp only [decide_eq_true_eq, decide_eq_false_iff_not] at hc4
          refine AMx.seq ?_
          refine AMx.region (ces := []) (ks := [4]) (hs := []) (cs := []) (s' := AS.lst 21 [(4, vc (i6 20))] []) (by kernel_rfl) ?_ ?_
          · exact trivial
          refine AMx.ret ?_
          exact RetP.mk (r := vc (i6 20)) (by kernel_rfl) (by rw [show oneC ahead z = 20 from by unfold oneC; rw [← there_idx] <;> grind])
        · try simp only [decide_eq_true_eq, decide_eq_false_iff_not] at hc4
          refine AMx.skip ?_
          refine AMx.seq ?_
          refine AMx.region (ces := []) (ks := [4]) (hs := []) (cs := []) (s' := AS.lst 21 [(4, vc (i6 0))] []) (by kernel_rfl) ?_ ?_
          · exact trivial
          refine AMx.ret ?_
          exact RetP.mk (r := vc (i6 0)) (by kernel_rfl) (by rw [show oneC ahead z = 0 from by unfold oneC; rw [← there_idx] <;> grind])
  · try simp only [decide_eq_true_eq, decide_eq_false_iff_not, Bool.not_eq_true', Bool.not_eq_false'] at hc1
    refine AMx.skip ?_
    refine AMx.seq ?_
    refine AMx.seq ?_
    refine AMx.region (ces := []) (ks := [1, 2, 17]) (hs := [2]) (cs := []) (s' := AS.lst 21 [(1, vc (slP ahead)), (2, vp 2 0), (17, vc (bo (decide (63 < z.2))))] [(2, AObj.row [.s (st z.1), .s (u8 z.2)])]) (by kernel_rfl) ?_ ?_
    · exact trivial
    refine AMx.cond (b := decide (63 < z.2)) (by kernel_rfl) (fun hc5 => ?_) (fun hc5 => ?_)
    · try simp only [decide_eq_true_eq, decide_eq_false_iff_not] at hc5
      refine AMx.seq ?_
      refine AMx.region (ces := []) (ks := [4]) (hs := []) (cs := []) (s' := AS.lst 21 [(4, vc (i6 2))] []) (by kernel_rfl) ?_ ?_
      · exact trivial
      refine AMx.ret ?_
      exact RetP.mk (r := vc (i6 2)) (by kernel_rfl) (by rw [show oneC ahead z = 2 from by unfold oneC; rw [← there_idx] <;> grind])
    · try simp only [decide_eq_true_eq, decide_eq_false_iff_not] at hc5
      refine AMx.skip ?_
      refine AMx.seq ?_
      refine AMx.seq ?_
      refine AMx.region (ces := [(2, CE.call [2] [] (vc (bo (decide (0 ≤ Lib.idxS (fun x : RuleV => decide (x.1 = z.1)) ahead)))) [])]) (ks := [20]) (hs := []) (cs := [Spec Tryd.prog 65 [tc (slP ahead), TV.c (.fn 66 [.s (SC.ref 2 (rl [st z.1, u8 z.2]))])] (ofH []) (vc (bo (decide (0 ≤ Lib.idxS (fun x : RuleV => decide (x.1 = z.1)) ahead)))) (ofH [])]) (s' := AS.lst 21 [(20, vc (bo (decide (0 ≤ Lib.idxS (fun x : RuleV => decide (x.1 = z.1)) ahead))))] []) (by kernel_rfl) ?_ ?_
      · exact (Contains_c 66 [.s (SC.ref 2 (rl [st z.1, u8 z.2]))] (fun x : RuleV => decide (x.1 = z.1)) (fun x => same_c x z.1 z.2) ahead)
      refine AMx.cond (b := decide (0 ≤ Lib.idxS (fun x : RuleV => decide (x.1 = z.1)) ahead)) (by kernel_rfl) (fun hc6 => ?_) (fun hc6 => ?_)
      · try simp only [decide_eq_true_eq, decide_eq_false_iff_not] at hc6
        refine AMx.seq ?_
        refine AMx.region (ces := []) (ks := [4]) (hs := []) (cs := []) (s' := AS.lst 21 [(4, vc (i6 20))] []) (by kernel_rfl) ?_ ?_
        · exact trivial
        refine AMx.ret ?_
        exact RetP.mk (r := vc (i6 20)) (by kernel_rfl) (by rw [show oneC ahead z = 20 from by unfold oneC; rw [← there_idx] <;> grind])
      · try simp only [decide_eq_true_eq, decide_eq_false_iff_not] at hc6
        refine AMx.skip ?_
        refine AMx.seq ?_
        refine AMx.region (ces := []) (ks := [4]) (hs := []) (cs := []) (s' := AS.lst 21 [(4, vc (i6 0))] []) (by kernel_rfl) ?_ ?_
        · exact trivial
        refine AMx.ret ?_
        exact RetP.mk (r := vc (i6 0)) (by kernel_rfl) (by rw [show oneC ahead z = 0 from by unfold oneC; rw [← there_idx] <;> grind])

theorem f40_body : Tryd.f40.body = some (.seq (.region 0 (rg Tryd.f40 0) false) (.seq (.seq (.region 1 (rg Tryd.f40 1) false) (.cond (.tmp 8) (.seq (.region 2 (rg Tryd.f40 2) false) (.ret)) (.skip))) (.seq (.seq (.region 3 (rg Tryd.f40 3) false) (.block 0 (.loop (.seq (.region 4 (rg Tryd.f40 4) false) (.seq (.cond (.tmp 12) (.skip) (.exit 0)) (.seq (.block 1 (.seq (.region 5 (rg Tryd.f40 5) false) (.seq (.region 6 (rg Tryd.f40 6) true) (.seq (.region 7 (rg Tryd.f40 7) false) (.cond (.tmp 22) (.seq (.region 8 (rg Tryd.f40 8) false) (.ret)) (.skip)))))) (.region 9 (rg Tryd.f40 9) false))))))) (.seq (.region 10 (rg Tryd.f40 10) false) (.ret))))) := by kernel_rfl

set_option maxRecDepth 100000 in
set_option maxHeartbeats 8000000 in
theorem Check_c (l : List RuleV) : Pure Tryd.prog 40 [tc (slP l)] (vc (i6 (checkP l))) := by
  refine Pure.of_body Tryd.func40 f40_body (by kernel_rfl) Tryd.ntmps40 (by kernel_rfl) (by kernel_rfl) ?_
  refine AMx.sl 0 (l := l) rfl (fun hl => ?_)
  simp only [maxLen] at hl
  refine AMx.seq ?_
  refine AMx.region (ces := []) (ks := [0]) (hs := []) (cs := []) (s' := AS.lst 25 [(0, vc (slP l))] []) (by kernel_rfl) ?_ ?_
  · exact trivial
  refine AMx.seq ?_
  refine AMx.seq ?_
  refine AMx.region (ces := []) (ks := [0, 8]) (hs := []) (cs := []) (s' := AS.lst 25 [(0, vc (slP l)), (8, vc (bo (decide (4 < (List.length l : Int)))))] []) (by kernel_rfl) ?_ ?_
  · exact trivial
  refine AMx.cond (b := decide (4 < (List.length l : Int))) (by kernel_rfl) (fun hc1 => ?_) (fun hc1 => ?_)
  · try simp only [decide_eq_true_eq, decide_eq_false_iff_not] at hc1
    refine AMx.seq ?_
    refine AMx.region (ces := []) (ks := [2]) (hs := []) (cs := []) (s' := AS.lst 25 [(2, vc (i6 24))] []) (by kernel_rfl) ?_ ?_
    · exact trivial
    refine AMx.ret ?_
    exact RetP.mk (r := vc (i6 24)) (by kernel_rfl) (by rw [show checkP l = 24 from by first | exact chk_many (by omega) | exact chk_bad (by omega) (by omega) hN (by assumption) | exact chk_end (by omega) (by omega) hN])
  · try simp only [decide_eq_true_eq, decide_eq_false_iff_not] at hc1
    refine AMx.skip ?_
    refine AMx.seq ?_
    refine AMx.seq ?_
    refine AMx.region (ces := []) (ks := [0, 9, 10, 11]) (hs := []) (cs := []) (s' := AS.lst 25 [(0, vc (slP l)), (9, vc (slP l)), (10, vc (i6 (List.length l : Int))), (11, vc (i6 0))] []) (by kernel_rfl) ?_ ?_
    · exact trivial
    refine AMx.block ?_
    refine AMx.ent (s' := AS.lst 25 [(0, vc (slP l)), (9, vc (slP l)), (10, vc (i6 (List.length l : Int))), (11, vc (i6 0))] []) (ent_proj [0, 9, 10, 11] []) ?_
    refine AMx.loop (fun mm ss => ∃ (k : Nat), (k ≤ l.length ∧ ChkAt l k) ∧ mm = l.length - k ∧ ss = AS.lst 25 [(0, vc (slP l)), (9, vc (slP l)), (10, vc (i6 (List.length l : Int))), (11, vc (i6 (k : Int)))] []) ⟨0, ?_, rfl, ?_⟩ ?_
    · exact ⟨Nat.zero_le _, chk_0 l⟩
    · rfl
    rintro mm ss ⟨k, ⟨hI, hN⟩, rfl, rfl⟩
    refine AMx.seq ?_
    refine AMx.region (ces := []) (ks := [0, 9, 10, 11, 12]) (hs := []) (cs := []) (s' := AS.lst 25 [(0, vc (slP l)), (9, vc (slP l)), (10, vc (i6 (List.length l : Int))), (11, vc (i6 (k : Int))), (12, vc (bo (decide ((k : Int) < (List.length l : Int)))))] []) (by kernel_rfl) ?_ ?_
    · exact trivial
    refine AMx.seq ?_
    refine AMx.cond (b := decide ((k : Int) < (List.length l : Int))) (by kernel_rfl) (fun hc2 => ?_) (fun hc2 => ?_)
    · try simp only [decide_eq_true_eq, decide_eq_false_iff_not] at hc2
      refine AMx.skip ?_
      refine AMx.seq ?_
      refine AMx.block ?_
      refine AMx.seq ?_
      refine AMx.region (ces := []) (ks := [0, 3, 4, 9, 10, 11]) (hs := [4]) (cs := [(0 : Int) ≤ (k : Int), (k : Int) < List.length l]) (s' := AS.lst 25 [(0, vc (slP l)), (3, vc (i6 (k : Int))), (4, vp 4 0), (9, vc (slP l)), (10, vc (i6 (List.length l : Int))), (11, vc (i6 (k : Int)))] [(4, AObj.row [.s (st ((List.getD l k ([], 0)).1)), .s (u8 ((List.getD l k ([], 0)).2))])]) (by kernel_rfl) ?_ ?_
      · exact ⟨(show (0 : Int) ≤ (k : Int) from (by omega)), (show (k : Int) < List.length l from (by omega))⟩
      refine AMx.seq ?_
      refine AMx.region_draw (ces := [(4, CE.call [] [] (vc (i6 (oneC (List.take k l) (List.getD l k ([], 0))))) [])]) (ros := [(0, [4])]) (ks := [0, 5, 9, 10, 11]) (hs := []) (cs := [0 ≤ (k : Int), (k : Int) ≤ List.length l, Spec Tryd.prog 54 [TV.agg [.s (st ((List.getD l k ([], 0)).1)), .s (u8 ((List.getD l k ([], 0)).2))], tc (slP (List.take k l))] (ofH []) (vc (i6 (oneC (List.take k l) (List.getD l k ([], 0))))) (ofH [])]) (s' := AS.lst 25 [(0, vc (slP l)), (5, vc (i6 (oneC (List.take k l) (List.getD l k ([], 0))))), (9, vc (slP l)), (10, vc (i6 (List.length l : Int))), (11, vc (i6 (k : Int)))] []) mixed (by kernel_rfl) ?_ ?_
      · exact ⟨(show 0 ≤ (k : Int) from (by omega)), (show (k : Int) ≤ List.length l from (by omega)), (check1_c (List.getD l k ([], 0)) (List.take k l))⟩
      refine AMx.seq ?_
      refine AMx.region (ces := []) (ks := [0, 5, 9, 10, 11, 22]) (hs := []) (cs := []) (s' := AS.lst 25 [(0, vc (slP l)), (5, vc (i6 (oneC (List.take k l) (List.getD l k ([], 0))))), (9, vc (slP l)), (10, vc (i6 (List.length l : Int))), (11, vc (i6 (k : Int))), (22, vc (bo (!decide (oneC (List.take k l) (List.getD l k ([], 0)) = 0))))] []) (by kernel_rfl) ?_ ?_
      · exact trivial
      refine AMx.cond (b := !decide (oneC (List.take k l) (List.getD l k ([], 0)) = 0)) (by kernel_rfl) (fun hc3 => ?_) (fun hc3 => ?_)
      · try simp only [decide_eq_true_eq, decide_eq_false_iff_not, Bool.not_eq_true', Bool.not_eq_false'] at hc3
        refine AMx.seq ?_
        refine AMx.region (ces := []) (ks := [2]) (hs := []) (cs := []) (s' := AS.lst 25 [(2, vc (i6 (oneC (List.take k l) (List.getD l k ([], 0)))))] []) (by kernel_rfl) ?_ ?_
        · exact trivial
        refine AMx.ret ?_
        exact RetP.mk (r := vc (i6 (oneC (List.take k l) (List.getD l k ([], 0))))) (by kernel_rfl) (by rw [show checkP l = oneC (List.take k l) (List.getD l k ([], 0)) from by first | exact chk_many (by omega) | exact chk_bad (by omega) (by omega) hN (by assumption) | exact chk_end (by omega) (by omega) hN])
      · try simp only [decide_eq_true_eq, decide_eq_false_iff_not, Bool.not_eq_true', Bool.not_eq_false'] at hc3
        refine AMx.skip ?_
        refine AMx.blk ?_
        refine AMx.region (ces := []) (ks := [0, 9, 10, 11]) (hs := []) (cs := [InR .i64 ((k : Int) + 1)]) (s' := AS.lst 25 [(0, vc (slP l)), (9, vc (slP l)), (10, vc (i6 (List.length l : Int))), (11, vc (i6 ((k : Int) + 1)))] []) (by kernel_rfl) ?_ ?_
        · exact (show InR .i64 ((k : Int) + 1) from (inR64 (by omega) (by omega)))
        refine AMx.ent_inv (s' := AS.lst 25 [(0, vc (slP l)), (9, vc (slP l)), (10, vc (i6 (List.length l : Int))), (11, vc (i6 ((k : Int) + 1)))] []) (ent_proj [0, 9, 10, 11] []) ?_
        refine AMx.inv ⟨_, ?_, k + 1, ?_, rfl, ?_⟩
        rotate_left
        · exact ⟨by omega, chk_step (by omega) hN (by assumption)⟩
        · rfl
        · omega
    · try simp only [decide_eq_true_eq, decide_eq_false_iff_not] at hc2
      refine AMx.exit ?_
      refine AMx.code_exit ?_
      refine AMx.inv_exit ?_
      refine AMx.blk_exit ?_
      refine AMx.seq ?_
      refine AMx.region (ces := []) (ks := [2]) (hs := []) (cs := []) (s' := AS.lst 25 [(2, vc (i6 0))] []) (by kernel_rfl) ?_ ?_
      · exact trivial
      refine AMx.ret ?_
      exact RetP.mk (r := vc (i6 0)) (by kernel_rfl) (by rw [show checkP l = 0 from by first | exact chk_many (by omega) | exact chk_bad (by omega) (by omega) hN (by assumption) | exact chk_end (by omega) (by omega) hN])

end AL.Policy
