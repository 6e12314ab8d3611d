/- ask: the contracts of its functions, by their walks. No condition. -/
import Derived.Test.YtiiiecdfganahaaDoorAskC
import Derived.Test.YtiiiecdfganahaaDoorAskJ
namespace AL.Ask
open Go Go.Proofs AL
set_option linter.unusedVariables false
set_option linter.unusedSimpArgs false

theorem f29_body : Tryd.f29.body = some (.seq (.region 0 (rg Tryd.f29 0) false) (.seq (.seq (.region 1 (rg Tryd.f29 1) false) (.block 0 (.seq (.region 2 (rg Tryd.f29 2) false) (.cond (.tmp 8) (.seq (.region 3 (rg Tryd.f29 3) false) (.ret)) (.seq (.region 4 (rg Tryd.f29 4) false) (.cond (.tmp 12) (.seq (.region 5 (rg Tryd.f29 5) false) (.ret)) (.seq (.seq (.region 6 (rg Tryd.f29 6) false) (.cond (.tmp 16) (.skip) (.region 7 (rg Tryd.f29 7) false))) (.cond (.tmp 16) (.seq (.region 8 (rg Tryd.f29 8) false) (.ret)) (.seq (.region 9 (rg Tryd.f29 9) false) (.cond (.tmp 21) (.seq (.region 10 (rg Tryd.f29 10) false) (.ret)) (.seq (.region 11 (rg Tryd.f29 11) false) (.cond (.tmp 26) (.seq (.seq (.region 12 (rg Tryd.f29 12) false) (.cond (.tmp 30) (.seq (.region 13 (rg Tryd.f29 13) false) (.ret)) (.skip))) (.seq (.region 14 (rg Tryd.f29 14) false) (.ret))) (.seq (.region 15 (rg Tryd.f29 15) false) (.cond (.tmp 34) (.seq (.seq (.region 16 (rg Tryd.f29 16) false) (.cond (.tmp 37) (.seq (.region 17 (rg Tryd.f29 17) false) (.ret)) (.skip))) (.seq (.region 18 (rg Tryd.f29 18) false) (.ret))) (.seq (.region 19 (rg Tryd.f29 19) false) (.cond (.tmp 38) (.seq (.region 20 (rg Tryd.f29 20) false) (.ret)) (.seq (.region 21 (rg Tryd.f29 21) false) (.cond (.tmp 44) (.seq (.region 22 (rg Tryd.f29 22) false) (.ret)) (.seq (.region 23 (rg Tryd.f29 23) false) (.cond (.tmp 50) (.seq (.region 24 (rg Tryd.f29 24) false) (.seq (.region 25 (rg Tryd.f29 25) false) (.ret))) (.skip))))))))))))))))))))) (.seq (.region 26 (rg Tryd.f29 26) false) (.ret)))) := by kernel_rfl

set_option maxRecDepth 100000 in
set_option maxHeartbeats 8000000 in
theorem lay_c (a : AskV) (c : Int) (hc : LetI c) (hf : fieldS a c = 0) (hb : a.data.length ≤ 100000) : Pure Tryd.prog 29 [TV.agg (rwA a), tc (i3 c)] (vc (st (layA a c))) := by
  refine Pure.of_body Tryd.func29 f29_body (by kernel_rfl) Tryd.ntmps29 (by kernel_rfl) (by kernel_rfl) ?_
  refine AMx.seq ?_
  refine AMx.region (ces := []) (ks := [1, 2]) (hs := [2]) (cs := []) (s' := AS.lst 63 [(1, vc (i3 c)), (2, vp 2 0)] [(2, AObj.row (rwA a))]) (by kernel_rfl) ?_ ?_
  · exact trivial
  refine AMx.seq ?_
  refine AMx.seq ?_
  refine AMx.region (ces := []) (ks := [2, 7]) (hs := [2]) (cs := []) (s' := AS.lst 63 [(2, vp 2 0), (7, vc (i3 c))] [(2, AObj.row (rwA a))]) (by kernel_rfl) ?_ ?_
  · exact trivial
  refine AMx.block ?_
  refine AMx.seq ?_
  refine AMx.region (ces := []) (ks := [2, 7, 8]) (hs := [2]) (cs := []) (s' := AS.lst 63 [(2, vp 2 0), (7, vc (i3 c)), (8, vc (bo (decide (c = 116))))] [(2, AObj.row (rwA a))]) (by kernel_rfl) ?_ ?_
  · exact trivial
  refine AMx.cond (b := decide (c = 116)) (by kernel_rfl) (fun hc1 => ?_) (fun hc1 => ?_)
  · try simp only [decide_eq_true_eq, decide_eq_false_iff_not] at hc1
    refine AMx.seq ?_
    refine AMx.region (ces := []) (ks := [4]) (hs := []) (cs := []) (s' := AS.lst 63 [(4, vc (st a.token))] []) (by kernel_rfl) ?_ ?_
    · exact trivial
    refine AMx.ret ?_
    exact RetP.mk (r := vc (st a.token)) (by kernel_rfl) (by first | (subst_vars; rfl) | (subst_vars; show _ = vc (st (if a.cas = -1 then [45] else numS a.cas)); first | rw [if_pos (by assumption)] | rw [if_neg (by assumption)]) | (subst_vars; show _ = vc (st (if a.flag = true then [49] else [48])); first | rw [if_pos (by assumption)] | rw [if_neg (by simp_all)]) | (obtain rfl : c = 107 := (by unfold LetI at hc; omega); rfl))
  · try simp only [decide_eq_true_eq, decide_eq_false_iff_not] at hc1
    refine AMx.seq ?_
    refine AMx.region (ces := []) (ks := [2, 7, 12]) (hs := [2]) (cs := []) (s' := AS.lst 63 [(2, vp 2 0), (7, vc (i3 c)), (12, vc (bo (decide (c = 112))))] [(2, AObj.row (rwA a))]) (by kernel_rfl) ?_ ?_
    · exact trivial
    refine AMx.cond (b := decide (c = 112)) (by kernel_rfl) (fun hc2 => ?_) (fun hc2 => ?_)
    · try simp only [decide_eq_true_eq, decide_eq_false_iff_not] at hc2
      refine AMx.seq ?_
      refine AMx.region (ces := []) (ks := [4]) (hs := []) (cs := []) (s' := AS.lst 63 [(4, vc (st a.path))] []) (by kernel_rfl) ?_ ?_
      · exact trivial
      refine AMx.ret ?_
      exact RetP.mk (r := vc (st a.path)) (by kernel_rfl) (by first | (subst_vars; rfl) | (subst_vars; show _ = vc (st (if a.cas = -1 then [45] else numS a.cas)); first | rw [if_pos (by assumption)] | rw [if_neg (by assumption)]) | (subst_vars; show _ = vc (st (if a.flag = true then [49] else [48])); first | rw [if_pos (by assumption)] | rw [if_neg (by simp_all)]) | (obtain rfl : c = 107 := (by unfold LetI at hc; omega); rfl))
    · try simp only [decide_eq_true_eq, decide_eq_false_iff_not] at hc2
      refine AMx.seq ?_
      refine AMx.seq ?_
      refine AMx.region (ces := []) (ks := [2, 7, 16]) (hs := [2]) (cs := []) (s' := AS.lst 63 [(2, vp 2 0), (7, vc (i3 c)), (16, vc (bo (decide (c = 109))))] [(2, AObj.row (rwA a))]) (by kernel_rfl) ?_ ?_
      · exact trivial
      refine AMx.cond (b := decide (c = 109)) (by kernel_rfl) (fun hc3 => ?_) (fun hc3 => ?_)
      · try simp only [decide_eq_true_eq, decide_eq_false_iff_not] at hc3
        refine AMx.skip ?_
        refine AMx.cond (b := decide (c = 109)) (by kernel_rfl) (fun hc4 => ?_) (fun hc4 => ?_)
        · try simp only [decide_eq_true_eq, decide_eq_false_iff_not] at hc4
          refine AMx.seq ?_
          refine AMx.region (ces := []) (ks := [4]) (hs := []) (cs := []) (s' := AS.lst 63 [(4, vc (st a.other))] []) (by kernel_rfl) ?_ ?_
          · exact trivial
          refine AMx.ret ?_
          exact RetP.mk (r := vc (st a.other)) (by kernel_rfl) (by first | (subst_vars; rfl) | (subst_vars; show _ = vc (st (if a.cas = -1 then [45] else numS a.cas)); first | rw [if_pos (by assumption)] | rw [if_neg (by assumption)]) | (subst_vars; show _ = vc (st (if a.flag = true then [49] else [48])); first | rw [if_pos (by assumption)] | rw [if_neg (by simp_all)]) | (obtain rfl : c = 107 := (by unfold LetI at hc; omega); rfl))
        · try simp only [decide_eq_true_eq, decide_eq_false_iff_not] at hc4
          exfalso; first | exact hc3 hc4 | exact hc4 hc3 | (rw [hc4] at hc3; cases hc3) | simp_all
      · try simp only [decide_eq_true_eq, decide_eq_false_iff_not] at hc3
        refine AMx.region (ces := []) (ks := [2, 7, 16]) (hs := [2]) (cs := []) (s' := AS.lst 63 [(2, vp 2 0), (7, vc (i3 c)), (16, vc (bo (decide (c = 113))))] [(2, AObj.row (rwA a))]) (by kernel_rfl) ?_ ?_
        · exact trivial
        refine AMx.cond (b := decide (c = 113)) (by kernel_rfl) (fun hc5 => ?_) (fun hc5 => ?_)
        · try simp only [decide_eq_true_eq, decide_eq_false_iff_not] at hc5
          refine AMx.seq ?_
          refine AMx.region (ces := []) (ks := [4]) (hs := []) (cs := []) (s' := AS.lst 63 [(4, vc (st a.other))] []) (by kernel_rfl) ?_ ?_
          · exact trivial
          refine AMx.ret ?_
          exact RetP.mk (r := vc (st a.other)) (by kernel_rfl) (by first | (subst_vars; rfl) | (subst_vars; show _ = vc (st (if a.cas = -1 then [45] else numS a.cas)); first | rw [if_pos (by assumption)] | rw [if_neg (by assumption)]) | (subst_vars; show _ = vc (st (if a.flag = true then [49] else [48])); first | rw [if_pos (by assumption)] | rw [if_neg (by simp_all)]) | (obtain rfl : c = 107 := (by unfold LetI at hc; omega); rfl))
        · try simp only [decide_eq_true_eq, decide_eq_false_iff_not] at hc5
          refine AMx.seq ?_
          refine AMx.region (ces := []) (ks := [2, 7, 21]) (hs := [2]) (cs := []) (s' := AS.lst 63 [(2, vp 2 0), (7, vc (i3 c)), (21, vc (bo (decide (c = 110))))] [(2, AObj.row (rwA a))]) (by kernel_rfl) ?_ ?_
          · exact trivial
          refine AMx.cond (b := decide (c = 110)) (by kernel_rfl) (fun hc6 => ?_) (fun hc6 => ?_)
          · try simp only [decide_eq_true_eq, decide_eq_false_iff_not] at hc6
            refine AMx.seq ?_
            refine AMx.region (ces := [(2, CE.call [] [] (vc (st (numS a.n))) [])]) (ks := [4]) (hs := []) (cs := [Spec Tryd.prog 41 [tc (i6 a.n)] (ofH []) (vc (st (numS a.n))) (ofH [])]) (s' := AS.lst 63 [(4, vc (st (numS a.n)))] []) (by kernel_rfl) ?_ ?_
            · exact (number_c a.n (by first | omega | (have z := fld_n hf (by omega); omega) | (have z := fld_c hf (by omega); omega) | (have z := (fld_l hf (by omega)).1; omega) | (have z := fld_k hf (by unfold LetI at hc; omega); omega)) (by first | omega | (have z := fld_n hf (by omega); omega) | (have z := fld_c hf (by omega); omega) | (have z := (fld_l hf (by omega)).1; omega) | (have z := fld_k hf (by unfold LetI at hc; omega); omega)))
            refine AMx.ret ?_
            exact RetP.mk (r := vc (st (numS a.n))) (by kernel_rfl) (by first | (subst_vars; rfl) | (subst_vars; show _ = vc (st (if a.cas = -1 then [45] else numS a.cas)); first | rw [if_pos (by assumption)] | rw [if_neg (by assumption)]) | (subst_vars; show _ = vc (st (if a.flag = true then [49] else [48])); first | rw [if_pos (by assumption)] | rw [if_neg (by simp_all)]) | (obtain rfl : c = 107 := (by unfold LetI at hc; omega); rfl))
          · try simp only [decide_eq_true_eq, decide_eq_false_iff_not] at hc6
            refine AMx.seq ?_
            refine AMx.region (ces := []) (ks := [2, 7, 26]) (hs := [2]) (cs := []) (s' := AS.lst 63 [(2, vp 2 0), (7, vc (i3 c)), (26, vc (bo (decide (c = 99))))] [(2, AObj.row (rwA a))]) (by kernel_rfl) ?_ ?_
            · exact trivial
            refine AMx.cond (b := decide (c = 99)) (by kernel_rfl) (fun hc7 => ?_) (fun hc7 => ?_)
            · try simp only [decide_eq_true_eq, decide_eq_false_iff_not] at hc7
              refine AMx.seq ?_
              refine AMx.seq ?_
              refine AMx.region (ces := []) (ks := [2, 30]) (hs := [2]) (cs := []) (s' := AS.lst 63 [(2, vp 2 0), (30, vc (bo (decide (a.cas = (-1)))))] [(2, AObj.row (rwA a))]) (by kernel_rfl) ?_ ?_
              · exact trivial
              refine AMx.cond (b := decide (a.cas = (-1))) (by kernel_rfl) (fun hc8 => ?_) (fun hc8 => ?_)
              · try simp only [decide_eq_true_eq, decide_eq_false_iff_not] at hc8
                refine AMx.seq ?_
                refine AMx.region (ces := []) (ks := [4]) (hs := []) (cs := []) (s' := AS.lst 63 [(4, vc (st [45]))] []) (by kernel_rfl) ?_ ?_
                · exact trivial
                refine AMx.ret ?_
                exact RetP.mk (r := vc (st [45])) (by kernel_rfl) (by first | (subst_vars; rfl) | (subst_vars; show _ = vc (st (if a.cas = -1 then [45] else numS a.cas)); first | rw [if_pos (by assumption)] | rw [if_neg (by assumption)]) | (subst_vars; show _ = vc (st (if a.flag = true then [49] else [48])); first | rw [if_pos (by assumption)] | rw [if_neg (by simp_all)]) | (obtain rfl : c = 107 := (by unfold LetI at hc; omega); rfl))
              · try simp only [decide_eq_true_eq, decide_eq_false_iff_not] at hc8
                refine AMx.skip ?_
                refine AMx.seq ?_
                refine AMx.region (ces := [(2, CE.call [] [] (vc (st (numS a.cas))) [])]) (ks := [4]) (hs := []) (cs := [Spec Tryd.prog 41 [tc (i6 a.cas)] (ofH []) (vc (st (numS a.cas))) (ofH [])]) (s' := AS.lst 63 [(4, vc (st (numS a.cas)))] []) (by kernel_rfl) ?_ ?_
                · exact (number_c a.cas (by first | omega | (have z := fld_n hf (by omega); omega) | (have z := fld_c hf (by omega); omega) | (have z := (fld_l hf (by omega)).1; omega) | (have z := fld_k hf (by unfold LetI at hc; omega); omega)) (by first | omega | (have z := fld_n hf (by omega); omega) | (have z := fld_c hf (by omega); omega) | (have z := (fld_l hf (by omega)).1; omega) | (have z := fld_k hf (by unfold LetI at hc; omega); omega)))
                refine AMx.ret ?_
                exact RetP.mk (r := vc (st (numS a.cas))) (by kernel_rfl) (by first | (subst_vars; rfl) | (subst_vars; show _ = vc (st (if a.cas = -1 then [45] else numS a.cas)); first | rw [if_pos (by assumption)] | rw [if_neg (by assumption)]) | (subst_vars; show _ = vc (st (if a.flag = true then [49] else [48])); first | rw [if_pos (by assumption)] | rw [if_neg (by simp_all)]) | (obtain rfl : c = 107 := (by unfold LetI at hc; omega); rfl))
            · try simp only [decide_eq_true_eq, decide_eq_false_iff_not] at hc7
              refine AMx.seq ?_
              refine AMx.region (ces := []) (ks := [2, 7, 34]) (hs := [2]) (cs := []) (s' := AS.lst 63 [(2, vp 2 0), (7, vc (i3 c)), (34, vc (bo (decide (c = 102))))] [(2, AObj.row (rwA a))]) (by kernel_rfl) ?_ ?_
              · exact trivial
              refine AMx.cond (b := decide (c = 102)) (by kernel_rfl) (fun hc9 => ?_) (fun hc9 => ?_)
              · try simp only [decide_eq_true_eq, decide_eq_false_iff_not] at hc9
                refine AMx.seq ?_
                refine AMx.seq ?_
                refine AMx.region (ces := []) (ks := [37]) (hs := []) (cs := []) (s' := AS.lst 63 [(37, vc (bo a.flag))] []) (by kernel_rfl) ?_ ?_
                · exact trivial
                refine AMx.cond (b := a.flag) (by kernel_rfl) (fun hc10 => ?_) (fun hc10 => ?_)
                · try simp only [decide_eq_true_eq, decide_eq_false_iff_not] at hc10
                  refine AMx.seq ?_
                  refine AMx.region (ces := []) (ks := [4]) (hs := []) (cs := []) (s' := AS.lst 63 [(4, vc (st [49]))] []) (by kernel_rfl) ?_ ?_
                  · exact trivial
                  refine AMx.ret ?_
                  exact RetP.mk (r := vc (st [49])) (by kernel_rfl) (by first | (subst_vars; rfl) | (subst_vars; show _ = vc (st (if a.cas = -1 then [45] else numS a.cas)); first | rw [if_pos (by assumption)] | rw [if_neg (by assumption)]) | (subst_vars; show _ = vc (st (if a.flag = true then [49] else [48])); first | rw [if_pos (by assumption)] | rw [if_neg (by simp_all)]) | (obtain rfl : c = 107 := (by unfold LetI at hc; omega); rfl))
                · try simp only [decide_eq_true_eq, decide_eq_false_iff_not] at hc10
                  refine AMx.skip ?_
                  refine AMx.seq ?_
                  refine AMx.region (ces := []) (ks := [4]) (hs := []) (cs := []) (s' := AS.lst 63 [(4, vc (st [48]))] []) (by kernel_rfl) ?_ ?_
                  · exact trivial
                  refine AMx.ret ?_
                  exact RetP.mk (r := vc (st [48])) (by kernel_rfl) (by first | (subst_vars; rfl) | (subst_vars; show _ = vc (st (if a.cas = -1 then [45] else numS a.cas)); first | rw [if_pos (by assumption)] | rw [if_neg (by assumption)]) | (subst_vars; show _ = vc (st (if a.flag = true then [49] else [48])); first | rw [if_pos (by assumption)] | rw [if_neg (by simp_all)]) | (obtain rfl : c = 107 := (by unfold LetI at hc; omega); rfl))
              · try simp only [decide_eq_true_eq, decide_eq_false_iff_not] at hc9
                refine AMx.seq ?_
                refine AMx.region (ces := []) (ks := [2, 7, 38]) (hs := [2]) (cs := []) (s' := AS.lst 63 [(2, vp 2 0), (7, vc (i3 c)), (38, vc (bo (decide (c = 108))))] [(2, AObj.row (rwA a))]) (by kernel_rfl) ?_ ?_
                · exact trivial
                refine AMx.cond (b := decide (c = 108)) (by kernel_rfl) (fun hc11 => ?_) (fun hc11 => ?_)
                · try simp only [decide_eq_true_eq, decide_eq_false_iff_not] at hc11
                  refine AMx.seq ?_
                  refine AMx.region (ces := [(2, CE.call [] [] (vc (st (listS a.ns))) []), (3, CE.call [] [] (vc (st (orN (listS a.ns)))) [])]) (ks := [4]) (hs := []) (cs := [Spec Tryd.prog 43 [tc (AL.Fnv.slI a.ns)] (ofH []) (vc (st (listS a.ns))) (ofH []), Spec Tryd.prog 42 [tc (st (listS a.ns))] (ofH []) (vc (st (orN (listS a.ns)))) (ofH [])]) (s' := AS.lst 63 [(4, vc (st (orN (listS a.ns))))] []) (by kernel_rfl) ?_ ?_
                  · exact ⟨(list_c a.ns (by exact (fld_l hf (by omega)).2) (by first | omega | (have z := fld_n hf (by omega); omega) | (have z := fld_c hf (by omega); omega) | (have z := (fld_l hf (by omega)).1; omega) | (have z := fld_k hf (by unfold LetI at hc; omega); omega))), (orN_c (listS a.ns))⟩
                  refine AMx.ret ?_
                  exact RetP.mk (r := vc (st (orN (listS a.ns)))) (by kernel_rfl) (by first | (subst_vars; rfl) | (subst_vars; show _ = vc (st (if a.cas = -1 then [45] else numS a.cas)); first | rw [if_pos (by assumption)] | rw [if_neg (by assumption)]) | (subst_vars; show _ = vc (st (if a.flag = true then [49] else [48])); first | rw [if_pos (by assumption)] | rw [if_neg (by simp_all)]) | (obtain rfl : c = 107 := (by unfold LetI at hc; omega); rfl))
                · try simp only [decide_eq_true_eq, decide_eq_false_iff_not] at hc11
                  refine AMx.seq ?_
                  refine AMx.region (ces := []) (ks := [2, 7, 44]) (hs := [2]) (cs := []) (s' := AS.lst 63 [(2, vp 2 0), (7, vc (i3 c)), (44, vc (bo (decide (c = 100))))] [(2, AObj.row (rwA a))]) (by kernel_rfl) ?_ ?_
                  · exact trivial
                  refine AMx.cond (b := decide (c = 100)) (by kernel_rfl) (fun hc12 => ?_) (fun hc12 => ?_)
                  · try simp only [decide_eq_true_eq, decide_eq_false_iff_not] at hc12
                    refine AMx.seq ?_
                    refine AMx.region (ces := [(2, CE.call [] [] (vc (st (hexS a.data))) []), (3, CE.call [] [] (vc (st (orN (hexS a.data)))) [])]) (ks := [4]) (hs := []) (cs := [Spec Tryd.prog 9 [tc (st a.data)] (ofH []) (vc (st (hexS a.data))) (ofH []), Spec Tryd.prog 42 [tc (st (hexS a.data))] (ofH []) (vc (st (orN (hexS a.data)))) (ofH [])]) (s' := AS.lst 63 [(4, vc (st (orN (hexS a.data))))] []) (by kernel_rfl) ?_ ?_
                    · exact ⟨(Hex_c a.data (by first | omega | (have z := fld_n hf (by omega); omega) | (have z := fld_c hf (by omega); omega) | (have z := (fld_l hf (by omega)).1; omega) | (have z := fld_k hf (by unfold LetI at hc; omega); omega))), (orN_c (hexS a.data))⟩
                    refine AMx.ret ?_
                    exact RetP.mk (r := vc (st (orN (hexS a.data)))) (by kernel_rfl) (by first | (subst_vars; rfl) | (subst_vars; show _ = vc (st (if a.cas = -1 then [45] else numS a.cas)); first | rw [if_pos (by assumption)] | rw [if_neg (by assumption)]) | (subst_vars; show _ = vc (st (if a.flag = true then [49] else [48])); first | rw [if_pos (by assumption)] | rw [if_neg (by simp_all)]) | (obtain rfl : c = 107 := (by unfold LetI at hc; omega); rfl))
                  · try simp only [decide_eq_true_eq, decide_eq_false_iff_not] at hc12
                    refine AMx.seq ?_
                    refine AMx.region (ces := []) (ks := [2, 50]) (hs := [2]) (cs := []) (s' := AS.lst 63 [(2, vp 2 0), (50, vc (bo (decide (c = 114))))] [(2, AObj.row (rwA a))]) (by kernel_rfl) ?_ ?_
                    · exact trivial
                    refine AMx.cond (b := decide (c = 114)) (by kernel_rfl) (fun hc13 => ?_) (fun hc13 => ?_)
                    · try simp only [decide_eq_true_eq, decide_eq_false_iff_not] at hc13
                      refine AMx.seq ?_
                      refine AMx.region (ces := [(2, CE.call [] [] (AV.tup [tc (st ((Policy.textP a.rules).1)), tc (i6 ((Policy.textP a.rules).2))]) [])]) (ks := [5]) (hs := []) (cs := [Spec Tryd.prog 44 [tc (Policy.slP a.rules)] (ofH []) (AV.tup [tc (st ((Policy.textP a.rules).1)), tc (i6 ((Policy.textP a.rules).2))]) (ofH [])]) (s' := AS.lst 63 [(5, vc (st ((Policy.textP a.rules).1)))] []) (by kernel_rfl) ?_ ?_
                      · exact (Policy.Text_c a.rules)
                      refine AMx.seq ?_
                      refine AMx.region (ces := [(1, CE.call [] [] (vc (st (orN ((Policy.textP a.rules).1)))) [])]) (ks := [4]) (hs := []) (cs := [Spec Tryd.prog 42 [tc (st ((Policy.textP a.rules).1))] (ofH []) (vc (st (orN ((Policy.textP a.rules).1)))) (ofH [])]) (s' := AS.lst 63 [(4, vc (st (orN ((Policy.textP a.rules).1))))] []) (by kernel_rfl) ?_ ?_
                      · exact (orN_c ((Policy.textP a.rules).1))
                      refine AMx.ret ?_
                      exact RetP.mk (r := vc (st (orN ((Policy.textP a.rules).1)))) (by kernel_rfl) (by first | (subst_vars; rfl) | (subst_vars; show _ = vc (st (if a.cas = -1 then [45] else numS a.cas)); first | rw [if_pos (by assumption)] | rw [if_neg (by assumption)]) | (subst_vars; show _ = vc (st (if a.flag = true then [49] else [48])); first | rw [if_pos (by assumption)] | rw [if_neg (by simp_all)]) | (obtain rfl : c = 107 := (by unfold LetI at hc; omega); rfl))
                    · try simp only [decide_eq_true_eq, decide_eq_false_iff_not] at hc13
                      refine AMx.skip ?_
                      refine AMx.blk ?_
                      refine AMx.seq ?_
                      refine AMx.region (ces := [(2, CE.call [] [] (vc (st (hexS a.key))) [])]) (ks := [4]) (hs := []) (cs := [Spec Tryd.prog 9 [tc (st a.key)] (ofH []) (vc (st (hexS a.key))) (ofH [])]) (s' := AS.lst 63 [(4, vc (st (hexS a.key)))] []) (by kernel_rfl) ?_ ?_
                      · exact (Hex_c a.key (by first | omega | (have z := fld_n hf (by omega); omega) | (have z := fld_c hf (by omega); omega) | (have z := (fld_l hf (by omega)).1; omega) | (have z := fld_k hf (by unfold LetI at hc; omega); omega)))
                      refine AMx.ret ?_
                      exact RetP.mk (r := vc (st (hexS a.key))) (by kernel_rfl) (by first | (subst_vars; rfl) | (subst_vars; show _ = vc (st (if a.cas = -1 then [45] else numS a.cas)); first | rw [if_pos (by assumption)] | rw [if_neg (by assumption)]) | (subst_vars; show _ = vc (st (if a.flag = true then [49] else [48])); first | rw [if_pos (by assumption)] | rw [if_neg (by simp_all)]) | (obtain rfl : c = 107 := (by unfold LetI at hc; omega); rfl))

theorem f24_body : Tryd.f24.body = some (.seq (.region 0 (rg Tryd.f24 0) false) (.seq (.region 1 (rg Tryd.f24 1) false) (.seq (.region 2 (rg Tryd.f24 2) false) (.seq (.seq (.region 3 (rg Tryd.f24 3) false) (.block 0 (.seq (.region 4 (rg Tryd.f24 4) false) (.cond (.tmp 15) (.region 5 (rg Tryd.f24 5) false) (.seq (.region 6 (rg Tryd.f24 6) false) (.cond (.tmp 19) (.region 7 (rg Tryd.f24 7) false) (.seq (.seq (.region 8 (rg Tryd.f24 8) false) (.cond (.tmp 23) (.skip) (.region 9 (rg Tryd.f24 9) false))) (.cond (.tmp 23) (.region 10 (rg Tryd.f24 10) false) (.seq (.region 11 (rg Tryd.f24 11) false) (.cond (.tmp 28) (.region 12 (rg Tryd.f24 12) false) (.seq (.region 13 (rg Tryd.f24 13) false) (.cond (.tmp 33) (.seq (.seq (.region 14 (rg Tryd.f24 14) false) (.seq (.region 15 (rg Tryd.f24 15) false) (.cond (.tmp 38) (.region 16 (rg Tryd.f24 16) false) (.skip)))) (.seq (.region 17 (rg Tryd.f24 17) true) (.ret))) (.seq (.region 18 (rg Tryd.f24 18) false) (.cond (.tmp 48) (.seq (.region 19 (rg Tryd.f24 19) false) (.seq (.region 20 (rg Tryd.f24 20) true) (.ret))) (.seq (.region 21 (rg Tryd.f24 21) false) (.cond (.tmp 61) (.seq (.region 22 (rg Tryd.f24 22) false) (.cond (.tmp 64) (.region 23 (rg Tryd.f24 23) false) (.skip))) (.seq (.region 24 (rg Tryd.f24 24) false) (.cond (.tmp 68) (.seq (.seq (.region 25 (rg Tryd.f24 25) false) (.cond (.tmp 71) (.region 26 (rg Tryd.f24 26) false) (.skip))) (.seq (.region 27 (rg Tryd.f24 27) true) (.ret))) (.seq (.region 28 (rg Tryd.f24 28) false) (.cond (.tmp 85) (.seq (.seq (.region 29 (rg Tryd.f24 29) false) (.cond (.tmp 87) (.seq (.region 30 (rg Tryd.f24 30) false) (.ret)) (.skip))) (.seq (.region 31 (rg Tryd.f24 31) false) (.seq (.seq (.region 32 (rg Tryd.f24 32) false) (.cond (.tmp 95) (.seq (.region 33 (rg Tryd.f24 33) false) (.ret)) (.skip))) (.seq (.region 34 (rg Tryd.f24 34) false) (.seq (.region 35 (rg Tryd.f24 35) false) (.ret)))))) (.seq (.region 36 (rg Tryd.f24 36) false) (.cond (.tmp 101) (.seq (.region 37 (rg Tryd.f24 37) false) (.seq (.region 38 (rg Tryd.f24 38) true) (.ret))) (.skip))))))))))))))))))))))) (.seq (.region 39 (rg Tryd.f24 39) true) (.ret)))))) := by kernel_rfl

set_option maxRecDepth 100000 in
set_option maxHeartbeats 8000000 in
theorem read_c2 (a : AskV) (c : Int) (s : Bytes) (hc : LetI c) (hb : s.length ≤ 100000) : Pure Tryd.prog 24 [TV.agg (rwA a), tc (i3 c), tc (st s)] (AV.tup [TV.agg (rwA ((readA a c s).1)), tc (i6 ((readA a c s).2))]) := by
  refine Pure.of_body Tryd.func24 f24_body (by kernel_rfl) Tryd.ntmps24 (by kernel_rfl) (by kernel_rfl) ?_
  refine AMx.seq ?_
  refine AMx.region (ces := []) (ks := [1, 2, 3, 6]) (hs := [3, 6]) (cs := []) (s' := AS.lst 122 [(1, vc (i3 c)), (2, vc (st s)), (3, vp 3 0), (6, vp 6 0)] [(3, AObj.row (rwA a)), (6, AObj.row [.s (u8 0), .s (st []), .s (st []), .s (st []), .s (i6 0), .s (i6 0), .s (bo false), .s (SC.nilsl), .s (st []), .s (SC.nilsl), .s (st [])])]) (by kernel_rfl) ?_ ?_
  · exact trivial
  refine AMx.seq ?_
  refine AMx.region (ces := []) (ks := [1, 2, 3, 6, 8]) (hs := [3, 6]) (cs := []) (s' := AS.lst 122 [(1, vc (i3 c)), (2, vc (st s)), (3, vp 3 0), (6, vp 6 0), (8, vc (bo (decide (s = [45]))))] [(3, AObj.row (rwA a)), (6, AObj.row [.s (u8 0), .s (st []), .s (st []), .s (st []), .s (i6 0), .s (i6 0), .s (bo false), .s (SC.nilsl), .s (st []), .s (SC.nilsl), .s (st [])])]) (by kernel_rfl) ?_ ?_
  · exact trivial
  refine AMx.seq ?_
  refine AMx.region (ces := []) (ks := [1, 2, 3, 6, 8, 9]) (hs := [3, 6]) (cs := []) (s' := AS.lst 122 [(1, vc (i3 c)), (2, vc (st s)), (3, vp 3 0), (6, vp 6 0), (8, vc (bo (decide (s = [45])))), (9, vc (bo true))] [(3, AObj.row (rwA a)), (6, AObj.row [.s (u8 0), .s (st []), .s (st []), .s (st []), .s (i6 0), .s (i6 0), .s (bo false), .s (SC.nilsl), .s (st []), .s (SC.nilsl), .s (st [])])]) (by kernel_rfl) ?_ ?_
  · exact trivial
  refine AMx.seq ?_
  refine AMx.seq ?_
  refine AMx.region (ces := []) (ks := [1, 2, 3, 6, 8, 9, 14]) (hs := [3, 6]) (cs := []) (s' := AS.lst 122 [(1, vc (i3 c)), (2, vc (st s)), (3, vp 3 0), (6, vp 6 0), (8, vc (bo (decide (s = [45])))), (9, vc (bo true)), (14, vc (i3 c))] [(3, AObj.row (rwA a)), (6, AObj.row [.s (u8 0), .s (st []), .s (st []), .s (st []), .s (i6 0), .s (i6 0), .s (bo false), .s (SC.nilsl), .s (st []), .s (SC.nilsl), .s (st [])])]) (by kernel_rfl) ?_ ?_
  · exact trivial
  refine AMx.block ?_
  refine AMx.seq ?_
  refine AMx.region (ces := []) (ks := [1, 2, 3, 6, 8, 9, 14, 15]) (hs := [3, 6]) (cs := []) (s' := AS.lst 122 [(1, vc (i3 c)), (2, vc (st s)), (3, vp 3 0), (6, vp 6 0), (8, vc (bo (decide (s = [45])))), (9, vc (bo true)), (14, vc (i3 c)), (15, vc (bo (decide (c = 116))))] [(3, AObj.row (rwA a)), (6, AObj.row [.s (u8 0), .s (st []), .s (st []), .s (st []), .s (i6 0), .s (i6 0), .s (bo false), .s (SC.nilsl), .s (st []), .s (SC.nilsl), .s (st [])])]) (by kernel_rfl) ?_ ?_
  · exact trivial
  refine AMx.cond (b := decide (c = 116)) (by kernel_rfl) (fun hc1 => ?_) (fun hc1 => ?_)
  · try simp only [decide_eq_true_eq, decide_eq_false_iff_not] at hc1
    refine AMx.region (ces := []) (ks := [1, 3, 6]) (hs := [3, 6]) (cs := []) (s' := AS.lst 122 [(1, vc (i3 c)), (3, vp 3 0), (6, vp 6 0)] [(3, AObj.row [.s (u8 a.op), .s (st s), .s (st a.path), .s (st a.other), .s (i6 a.n), .s (i6 a.cas), .s (bo a.flag), .s (AL.Fnv.slI a.ns), .s (st a.data), .s (Policy.slP a.rules), .s (st a.key)]), (6, AObj.row [.s (u8 0), .s (st []), .s (st []), .s (st []), .s (i6 0), .s (i6 0), .s (bo false), .s (SC.nilsl), .s (st []), .s (SC.nilsl), .s (st [])])]) (by kernel_rfl) ?_ ?_
    · exact trivial
    refine AMx.blk ?_
    refine AMx.seq ?_
    refine AMx.region_draw (ces := [(3, CE.call [] [] (vc (i6 (fieldS (⟨a.op, s, a.path, a.other, a.n, a.cas, a.flag, a.ns, a.data, a.rules, a.key⟩ : AskV) c))) [])]) (ros := [(0, [3]), (1, [3]), (4, [6])]) (ks := [6, 7]) (hs := [6]) (cs := [Spec Tryd.prog 27 [TV.agg [.s (u8 a.op), .s (st s), .s (st a.path), .s (st a.other), .s (i6 a.n), .s (i6 a.cas), .s (bo a.flag), .s (AL.Fnv.slI a.ns), .s (st a.data), .s (Policy.slP a.rules), .s (st a.key)], tc (i3 c)] (ofH []) (vc (i6 (fieldS (⟨a.op, s, a.path, a.other, a.n, a.cas, a.flag, a.ns, a.data, a.rules, a.key⟩ : AskV) c))) (ofH [])]) (s' := AS.lst 122 [(6, vp 6 0), (7, vc (i6 (fieldS (⟨a.op, s, a.path, a.other, a.n, a.cas, a.flag, a.ns, a.data, a.rules, a.key⟩ : AskV) c)))] [(6, AObj.row [.s (u8 a.op), .s (st s), .s (st a.path), .s (st a.other), .s (i6 a.n), .s (i6 a.cas), .s (bo a.flag), .s (AL.Fnv.slI a.ns), .s (st a.data), .s (Policy.slP a.rules), .s (st a.key)])]) mixed (by kernel_rfl) ?_ ?_
    · exact (field_c (⟨a.op, s, a.path, a.other, a.n, a.cas, a.flag, a.ns, a.data, a.rules, a.key⟩ : AskV) c)
    refine AMx.ret ?_
    exact RetP.mk (r := AV.tup [TV.agg [.s (u8 a.op), .s (st s), .s (st a.path), .s (st a.other), .s (i6 a.n), .s (i6 a.cas), .s (bo a.flag), .s (AL.Fnv.slI a.ns), .s (st a.data), .s (Policy.slP a.rules), .s (st a.key)], tc (i6 (fieldS (⟨a.op, s, a.path, a.other, a.n, a.cas, a.flag, a.ns, a.data, a.rules, a.key⟩ : AskV) c))]) (by kernel_rfl) (by rw [show readA a c s = ((⟨a.op, s, a.path, a.other, a.n, a.cas, a.flag, a.ns, a.data, a.rules, a.key⟩ : AskV), fieldS (⟨a.op, s, a.path, a.other, a.n, a.cas, a.flag, a.ns, a.data, a.rules, a.key⟩ : AskV) c) from by first | (subst_vars; rfl) | (subst_vars; exact read_c (by assumption)) | (subst_vars; exact read_k _ _) | (subst_vars; exact read_l (by assumption)) | (subst_vars; exact read_d (by assumption)) | (subst_vars; exact read_r (by assumption) (by assumption)) | (exfalso; unfold LetI at hc; omega)])
  · try simp only [decide_eq_true_eq, decide_eq_false_iff_not] at hc1
    refine AMx.seq ?_
    refine AMx.region (ces := []) (ks := [1, 2, 3, 6, 8, 9, 14, 19]) (hs := [3, 6]) (cs := []) (s' := AS.lst 122 [(1, vc (i3 c)), (2, vc (st s)), (3, vp 3 0), (6, vp 6 0), (8, vc (bo (decide (s = [45])))), (9, vc (bo true)), (14, vc (i3 c)), (19, vc (bo (decide (c = 112))))] [(3, AObj.row (rwA a)), (6, AObj.row [.s (u8 0), .s (st []), .s (st []), .s (st []), .s (i6 0), .s (i6 0), .s (bo false), .s (SC.nilsl), .s (st []), .s (SC.nilsl), .s (st [])])]) (by kernel_rfl) ?_ ?_
    · exact trivial
    refine AMx.cond (b := decide (c = 112)) (by kernel_rfl) (fun hc2 => ?_) (fun hc2 => ?_)
    · try simp only [decide_eq_true_eq, decide_eq_false_iff_not] at hc2
      refine AMx.region (ces := []) (ks := [1, 3, 6]) (hs := [3, 6]) (cs := []) (s' := AS.lst 122 [(1, vc (i3 c)), (3, vp 3 0), (6, vp 6 0)] [(3, AObj.row [.s (u8 a.op), .s (st a.token), .s (st s), .s (st a.other), .s (i6 a.n), .s (i6 a.cas), .s (bo a.flag), .s (AL.Fnv.slI a.ns), .s (st a.data), .s (Policy.slP a.rules), .s (st a.key)]), (6, AObj.row [.s (u8 0), .s (st []), .s (st []), .s (st []), .s (i6 0), .s (i6 0), .s (bo false), .s (SC.nilsl), .s (st []), .s (SC.nilsl), .s (st [])])]) (by kernel_rfl) ?_ ?_
      · exact trivial
      refine AMx.blk ?_
      refine AMx.seq ?_
      refine AMx.region_draw (ces := [(3, CE.call [] [] (vc (i6 (fieldS (⟨a.op, a.token, s, a.other, a.n, a.cas, a.flag, a.ns, a.data, a.rules, a.key⟩ : AskV) c))) [])]) (ros := [(0, [3]), (1, [3]), (4, [6])]) (ks := [6, 7]) (hs := [6]) (cs := [Spec Tryd.prog 27 [TV.agg [.s (u8 a.op), .s (st a.token), .s (st s), .s (st a.other), .s (i6 a.n), .s (i6 a.cas), .s (bo a.flag), .s (AL.Fnv.slI a.ns), .s (st a.data), .s (Policy.slP a.rules), .s (st a.key)], tc (i3 c)] (ofH []) (vc (i6 (fieldS (⟨a.op, a.token, s, a.other, a.n, a.cas, a.flag, a.ns, a.data, a.rules, a.key⟩ : AskV) c))) (ofH [])]) (s' := AS.lst 122 [(6, vp 6 0), (7, vc (i6 (fieldS (⟨a.op, a.token, s, a.other, a.n, a.cas, a.flag, a.ns, a.data, a.rules, a.key⟩ : AskV) c)))] [(6, AObj.row [.s (u8 a.op), .s (st a.token), .s (st s), .s (st a.other), .s (i6 a.n), .s (i6 a.cas), .s (bo a.flag), .s (AL.Fnv.slI a.ns), .s (st a.data), .s (Policy.slP a.rules), .s (st a.key)])]) mixed (by kernel_rfl) ?_ ?_
      · exact (field_c (⟨a.op, a.token, s, a.other, a.n, a.cas, a.flag, a.ns, a.data, a.rules, a.key⟩ : AskV) c)
      refine AMx.ret ?_
      exact RetP.mk (r := AV.tup [TV.agg [.s (u8 a.op), .s (st a.token), .s (st s), .s (st a.other), .s (i6 a.n), .s (i6 a.cas), .s (bo a.flag), .s (AL.Fnv.slI a.ns), .s (st a.data), .s (Policy.slP a.rules), .s (st a.key)], tc (i6 (fieldS (⟨a.op, a.token, s, a.other, a.n, a.cas, a.flag, a.ns, a.data, a.rules, a.key⟩ : AskV) c))]) (by kernel_rfl) (by rw [show readA a c s = ((⟨a.op, a.token, s, a.other, a.n, a.cas, a.flag, a.ns, a.data, a.rules, a.key⟩ : AskV), fieldS (⟨a.op, a.token, s, a.other, a.n, a.cas, a.flag, a.ns, a.data, a.rules, a.key⟩ : AskV) c) from by first | (subst_vars; rfl) | (subst_vars; exact read_c (by assumption)) | (subst_vars; exact read_k _ _) | (subst_vars; exact read_l (by assumption)) | (subst_vars; exact read_d (by assumption)) | (subst_vars; exact read_r (by assumption) (by assumption)) | (exfalso; unfold LetI at hc; omega)])
    · try simp only [decide_eq_true_eq, decide_eq_false_iff_not] at hc2
      refine AMx.seq ?_
      refine AMx.seq ?_
      refine AMx.region (ces := []) (ks := [1, 2, 3, 6, 8, 9, 14, 23]) (hs := [3, 6]) (cs := []) (s' := AS.lst 122 [(1, vc (i3 c)), (2, vc (st s)), (3, vp 3 0), (6, vp 6 0), (8, vc (bo (decide (s = [45])))), (9, vc (bo true)), (14, vc (i3 c)), (23, vc (bo (decide (c = 109))))] [(3, AObj.row (rwA a)), (6, AObj.row [.s (u8 0), .s (st []), .s (st []), .s (st []), .s (i6 0), .s (i6 0), .s (bo false), .s (SC.nilsl), .s (st []), .s (SC.nilsl), .s (st [])])]) (by kernel_rfl) ?_ ?_
      · exact trivial
      refine AMx.cond (b := decide (c = 109)) (by kernel_rfl) (fun hc3 => ?_) (fun hc3 => ?_)
      · try simp only [decide_eq_true_eq, decide_eq_false_iff_not] at hc3
        refine AMx.skip ?_
        refine AMx.cond (b := decide (c = 109)) (by kernel_rfl) (fun hc4 => ?_) (fun hc4 => ?_)
        · try simp only [decide_eq_true_eq, decide_eq_false_iff_not] at hc4
          refine AMx.region (ces := []) (ks := [1, 3, 6]) (hs := [3, 6]) (cs := []) (s' := AS.lst 122 [(1, vc (i3 c)), (3, vp 3 0), (6, vp 6 0)] [(3, AObj.row [.s (u8 a.op), .s (st a.token), .s (st a.path), .s (st s), .s (i6 a.n), .s (i6 a.cas), .s (bo a.flag), .s (AL.Fnv.slI a.ns), .s (st a.data), .s (Policy.slP a.rules), .s (st a.key)]), (6, AObj.row [.s (u8 0), .s (st []), .s (st []), .s (st []), .s (i6 0), .s (i6 0), .s (bo false), .s (SC.nilsl), .s (st []), .s (SC.nilsl), .s (st [])])]) (by kernel_rfl) ?_ ?_
          · exact trivial
          refine AMx.blk ?_
          refine AMx.seq ?_
          refine AMx.region_draw (ces := [(3, CE.call [] [] (vc (i6 (fieldS (⟨a.op, a.token, a.path, s, a.n, a.cas, a.flag, a.ns, a.data, a.rules, a.key⟩ : AskV) c))) [])]) (ros := [(0, [3]), (1, [3]), (4, [6])]) (ks := [6, 7]) (hs := [6]) (cs := [Spec Tryd.prog 27 [TV.agg [.s (u8 a.op), .s (st a.token), .s (st a.path), .s (st s), .s (i6 a.n), .s (i6 a.cas), .s (bo a.flag), .s (AL.Fnv.slI a.ns), .s (st a.data), .s (Policy.slP a.rules), .s (st a.key)], tc (i3 c)] (ofH []) (vc (i6 (fieldS (⟨a.op, a.token, a.path, s, a.n, a.cas, a.flag, a.ns, a.data, a.rules, a.key⟩ : AskV) c))) (ofH [])]) (s' := AS.lst 122 [(6, vp 6 0), (7, vc (i6 (fieldS (⟨a.op, a.token, a.path, s, a.n, a.cas, a.flag, a.ns, a.data, a.rules, a.key⟩ : AskV) c)))] [(6, AObj.row [.s (u8 a.op), .s (st a.token), .s (st a.path), .s (st s), .s (i6 a.n), .s (i6 a.cas), .s (bo a.flag), .s (AL.Fnv.slI a.ns), .s (st a.data), .s (Policy.slP a.rules), .s (st a.key)])]) mixed (by kernel_rfl) ?_ ?_
          · exact (field_c (⟨a.op, a.token, a.path, s, a.n, a.cas, a.flag, a.ns, a.data, a.rules, a.key⟩ : AskV) c)
          refine AMx.ret ?_
          exact RetP.mk (r := AV.tup [TV.agg [.s (u8 a.op), .s (st a.token), .s (st a.path), .s (st s), .s (i6 a.n), .s (i6 a.cas), .s (bo a.flag), .s (AL.Fnv.slI a.ns), .s (st a.data), .s (Policy.slP a.rules), .s (st a.key)], tc (i6 (fieldS (⟨a.op, a.token, a.path, s, a.n, a.cas, a.flag, a.ns, a.data, a.rules, a.key⟩ : AskV) c))]) (by kernel_rfl) (by rw [show readA a c s = ((⟨a.op, a.token, a.path, s, a.n, a.cas, a.flag, a.ns, a.data, a.rules, a.key⟩ : AskV), fieldS (⟨a.op, a.token, a.path, s, a.n, a.cas, a.flag, a.ns, a.data, a.rules, a.key⟩ : AskV) c) from by first | (subst_vars; rfl) | (subst_vars; exact read_c (by assumption)) | (subst_vars; exact read_k _ _) | (subst_vars; exact read_l (by assumption)) | (subst_vars; exact read_d (by assumption)) | (subst_vars; exact read_r (by assumption) (by assumption)) | (exfalso; unfold LetI at hc; omega)])
        · try simp only [decide_eq_true_eq, decide_eq_false_iff_not] at hc4
          exfalso; first | exact hc3 hc4 | exact hc4 hc3 | (rw [hc4] at hc3; cases hc3) | simp_all
      · try simp only [decide_eq_true_eq, decide_eq_false_iff_not] at hc3
        refine AMx.region (ces := []) (ks := [1, 2, 3, 6, 8, 9, 14, 23]) (hs := [3, 6]) (cs := []) (s' := AS.lst 122 [(1, vc (i3 c)), (2, vc (st s)), (3, vp 3 0), (6, vp 6 0), (8, vc (bo (decide (s = [45])))), (9, vc (bo true)), (14, vc (i3 c)), (23, vc (bo (decide (c = 113))))] [(3, AObj.row (rwA a)), (6, AObj.row [.s (u8 0), .s (st []), .s (st []), .s (st []), .s (i6 0), .s (i6 0), .s (bo false), .s (SC.nilsl), .s (st []), .s (SC.nilsl), .s (st [])])]) (by kernel_rfl) ?_ ?_
        · exact trivial
        refine AMx.cond (b := decide (c = 113)) (by kernel_rfl) (fun hc5 => ?_) (fun hc5 => ?_)
        · try simp only [decide_eq_true_eq, decide_eq_false_iff_not] at hc5
          refine AMx.region (ces := []) (ks := [1, 3, 6]) (hs := [3, 6]) (cs := []) (s' := AS.lst 122 [(1, vc (i3 c)), (3, vp 3 0), (6, vp 6 0)] [(3, AObj.row [.s (u8 a.op), .s (st a.token), .s (st a.path), .s (st s), .s (i6 a.n), .s (i6 a.cas), .s (bo a.flag), .s (AL.Fnv.slI a.ns), .s (st a.data), .s (Policy.slP a.rules), .s (st a.key)]), (6, AObj.row [.s (u8 0), .s (st []), .s (st []), .s (st []), .s (i6 0), .s (i6 0), .s (bo false), .s (SC.nilsl), .s (st []), .s (SC.nilsl), .s (st [])])]) (by kernel_rfl) ?_ ?_
          · exact trivial
          refine AMx.blk ?_
          refine AMx.seq ?_
          refine AMx.region_draw (ces := [(3, CE.call [] [] (vc (i6 (fieldS (⟨a.op, a.token, a.path, s, a.n, a.cas, a.flag, a.ns, a.data, a.rules, a.key⟩ : AskV) c))) [])]) (ros := [(0, [3]), (1, [3]), (4, [6])]) (ks := [6, 7]) (hs := [6]) (cs := [Spec Tryd.prog 27 [TV.agg [.s (u8 a.op), .s (st a.token), .s (st a.path), .s (st s), .s (i6 a.n), .s (i6 a.cas), .s (bo a.flag), .s (AL.Fnv.slI a.ns), .s (st a.data), .s (Policy.slP a.rules), .s (st a.key)], tc (i3 c)] (ofH []) (vc (i6 (fieldS (⟨a.op, a.token, a.path, s, a.n, a.cas, a.flag, a.ns, a.data, a.rules, a.key⟩ : AskV) c))) (ofH [])]) (s' := AS.lst 122 [(6, vp 6 0), (7, vc (i6 (fieldS (⟨a.op, a.token, a.path, s, a.n, a.cas, a.flag, a.ns, a.data, a.rules, a.key⟩ : AskV) c)))] [(6, AObj.row [.s (u8 a.op), .s (st a.token), .s (st a.path), .s (st s), .s (i6 a.n), .s (i6 a.cas), .s (bo a.flag), .s (AL.Fnv.slI a.ns), .s (st a.data), .s (Policy.slP a.rules), .s (st a.key)])]) mixed (by kernel_rfl) ?_ ?_
          · exact (field_c (⟨a.op, a.token, a.path, s, a.n, a.cas, a.flag, a.ns, a.data, a.rules, a.key⟩ : AskV) c)
          refine AMx.ret ?_
          exact RetP.mk (r := AV.tup [TV.agg [.s (u8 a.op), .s (st a.token), .s (st a.path), .s (st s), .s (i6 a.n), .s (i6 a.cas), .s (bo a.flag), .s (AL.Fnv.slI a.ns), .s (st a.data), .s (Policy.slP a.rules), .s (st a.key)], tc (i6 (fieldS (⟨a.op, a.token, a.path, s, a.n, a.cas, a.flag, a.ns, a.data, a.rules, a.key⟩ : AskV) c))]) (by kernel_rfl) (by rw [show readA a c s = ((⟨a.op, a.token, a.path, s, a.n, a.cas, a.flag, a.ns, a.data, a.rules, a.key⟩ : AskV), fieldS (⟨a.op, a.token, a.path, s, a.n, a.cas, a.flag, a.ns, a.data, a.rules, a.key⟩ : AskV) c) from by first | (subst_vars; rfl) | (subst_vars; exact read_c (by assumption)) | (subst_vars; exact read_k _ _) | (subst_vars; exact read_l (by assumption)) | (subst_vars; exact read_d (by assumption)) | (subst_vars; exact read_r (by assumption) (by assumption)) | (exfalso; unfold LetI at hc; omega)])
        · try simp only [decide_eq_true_eq, decide_eq_false_iff_not] at hc5
          refine AMx.seq ?_
          refine AMx.region (ces := []) (ks := [1, 2, 3, 6, 8, 9, 14, 28]) (hs := [3, 6]) (cs := []) (s' := AS.lst 122 [(1, vc (i3 c)), (2, vc (st s)), (3, vp 3 0), (6, vp 6 0), (8, vc (bo (decide (s = [45])))), (9, vc (bo true)), (14, vc (i3 c)), (28, vc (bo (decide (c = 110))))] [(3, AObj.row (rwA a)), (6, AObj.row [.s (u8 0), .s (st []), .s (st []), .s (st []), .s (i6 0), .s (i6 0), .s (bo false), .s (SC.nilsl), .s (st []), .s (SC.nilsl), .s (st [])])]) (by kernel_rfl) ?_ ?_
          · exact trivial
          refine AMx.cond (b := decide (c = 110)) (by kernel_rfl) (fun hc6 => ?_) (fun hc6 => ?_)
          · try simp only [decide_eq_true_eq, decide_eq_false_iff_not] at hc6
            refine AMx.region (ces := [(1, CE.call [] [] (vc (i6 (scanN s))) [])]) (ks := [1, 3, 6]) (hs := [3, 6]) (cs := [Spec Tryd.prog 31 [tc (st s)] (ofH []) (vc (i6 (scanN s))) (ofH [])]) (s' := AS.lst 122 [(1, vc (i3 c)), (3, vp 3 0), (6, vp 6 0)] [(3, AObj.row [.s (u8 a.op), .s (st a.token), .s (st a.path), .s (st a.other), .s (i6 (scanN s)), .s (i6 a.cas), .s (bo a.flag), .s (AL.Fnv.slI a.ns), .s (st a.data), .s (Policy.slP a.rules), .s (st a.key)]), (6, AObj.row [.s (u8 0), .s (st []), .s (st []), .s (st []), .s (i6 0), .s (i6 0), .s (bo false), .s (SC.nilsl), .s (st []), .s (SC.nilsl), .s (st [])])]) (by kernel_rfl) ?_ ?_
            · exact (numberOf_c s)
            refine AMx.blk ?_
            refine AMx.seq ?_
            refine AMx.region_draw (ces := [(3, CE.call [] [] (vc (i6 (fieldS (⟨a.op, a.token, a.path, a.other, scanN s, a.cas, a.flag, a.ns, a.data, a.rules, a.key⟩ : AskV) c))) [])]) (ros := [(0, [3]), (1, [3]), (4, [6])]) (ks := [6, 7]) (hs := [6]) (cs := [Spec Tryd.prog 27 [TV.agg [.s (u8 a.op), .s (st a.token), .s (st a.path), .s (st a.other), .s (i6 (scanN s)), .s (i6 a.cas), .s (bo a.flag), .s (AL.Fnv.slI a.ns), .s (st a.data), .s (Policy.slP a.rules), .s (st a.key)], tc (i3 c)] (ofH []) (vc (i6 (fieldS (⟨a.op, a.token, a.path, a.other, scanN s, a.cas, a.flag, a.ns, a.data, a.rules, a.key⟩ : AskV) c))) (ofH [])]) (s' := AS.lst 122 [(6, vp 6 0), (7, vc (i6 (fieldS (⟨a.op, a.token, a.path, a.other, scanN s, a.cas, a.flag, a.ns, a.data, a.rules, a.key⟩ : AskV) c)))] [(6, AObj.row [.s (u8 a.op), .s (st a.token), .s (st a.path), .s (st a.other), .s (i6 (scanN s)), .s (i6 a.cas), .s (bo a.flag), .s (AL.Fnv.slI a.ns), .s (st a.data), .s (Policy.slP a.rules), .s (st a.key)])]) mixed (by kernel_rfl) ?_ ?_
            · exact (field_c (⟨a.op, a.token, a.path, a.other, scanN s, a.cas, a.flag, a.ns, a.data, a.rules, a.key⟩ : AskV) c)
            refine AMx.ret ?_
            exact RetP.mk (r := AV.tup [TV.agg [.s (u8 a.op), .s (st a.token), .s (st a.path), .s (st a.other), .s (i6 (scanN s)), .s (i6 a.cas), .s (bo a.flag), .s (AL.Fnv.slI a.ns), .s (st a.data), .s (Policy.slP a.rules), .s (st a.key)], tc (i6 (fieldS (⟨a.op, a.token, a.path, a.other, scanN s, a.cas, a.flag, a.ns, a.data, a.rules, a.key⟩ : AskV) c))]) (by kernel_rfl) (by rw [show readA a c s = ((⟨a.op, a.token, a.path, a.other, scanN s, a.cas, a.flag, a.ns, a.data, a.rules, a.key⟩ : AskV), fieldS (⟨a.op, a.token, a.path, a.other, scanN s, a.cas, a.flag, a.ns, a.data, a.rules, a.key⟩ : AskV) c) from by first | (subst_vars; rfl) | (subst_vars; exact read_c (by assumption)) | (subst_vars; exact read_k _ _) | (subst_vars; exact read_l (by assumption)) | (subst_vars; exact read_d (by assumption)) | (subst_vars; exact read_r (by assumption) (by assumption)) | (exfalso; unfold LetI at hc; omega)])
          · try simp only [decide_eq_true_eq, decide_eq_false_iff_not] at hc6
            refine AMx.seq ?_
            refine AMx.region (ces := []) (ks := [1, 2, 3, 6, 8, 9, 14, 33]) (hs := [3, 6]) (cs := []) (s' := AS.lst 122 [(1, vc (i3 c)), (2, vc (st s)), (3, vp 3 0), (6, vp 6 0), (8, vc (bo (decide (s = [45])))), (9, vc (bo true)), (14, vc (i3 c)), (33, vc (bo (decide (c = 99))))] [(3, AObj.row (rwA a)), (6, AObj.row [.s (u8 0), .s (st []), .s (st []), .s (st []), .s (i6 0), .s (i6 0), .s (bo false), .s (SC.nilsl), .s (st []), .s (SC.nilsl), .s (st [])])]) (by kernel_rfl) ?_ ?_
            · exact trivial
            refine AMx.cond (b := decide (c = 99)) (by kernel_rfl) (fun hc7 => ?_) (fun hc7 => ?_)
            · try simp only [decide_eq_true_eq, decide_eq_false_iff_not] at hc7
              refine AMx.seq ?_
              refine AMx.seq ?_
              refine AMx.region (ces := [(1, CE.call [] [] (vc (i6 (scanN s))) [])]) (ks := [3, 6, 8]) (hs := [3, 6]) (cs := [Spec Tryd.prog 31 [tc (st s)] (ofH []) (vc (i6 (scanN s))) (ofH [])]) (s' := AS.lst 122 [(3, vp 3 0), (6, vp 6 0), (8, vc (bo (decide (s = [45]))))] [(3, AObj.row [.s (u8 a.op), .s (st a.token), .s (st a.path), .s (st a.other), .s (i6 a.n), .s (i6 (scanN s)), .s (bo a.flag), .s (AL.Fnv.slI a.ns), .s (st a.data), .s (Policy.slP a.rules), .s (st a.key)]), (6, AObj.row [.s (u8 0), .s (st []), .s (st []), .s (st []), .s (i6 0), .s (i6 0), .s (bo false), .s (SC.nilsl), .s (st []), .s (SC.nilsl), .s (st [])])]) (by kernel_rfl) ?_ ?_
              · exact (numberOf_c s)
              refine AMx.seq ?_
              refine AMx.region (ces := []) (ks := [3, 6, 8, 38]) (hs := [3, 6]) (cs := []) (s' := AS.lst 122 [(3, vp 3 0), (6, vp 6 0), (8, vc (bo (decide (s = [45])))), (38, vc (bo (decide (s = [45]))))] [(3, AObj.row [.s (u8 a.op), .s (st a.token), .s (st a.path), .s (st a.other), .s (i6 a.n), .s (i6 (scanN s)), .s (bo a.flag), .s (AL.Fnv.slI a.ns), .s (st a.data), .s (Policy.slP a.rules), .s (st a.key)]), (6, AObj.row [.s (u8 0), .s (st []), .s (st []), .s (st []), .s (i6 0), .s (i6 0), .s (bo false), .s (SC.nilsl), .s (st []), .s (SC.nilsl), .s (st [])])]) (by kernel_rfl) ?_ ?_
              · exact trivial
              refine AMx.cond (b := decide (s = [45])) (by kernel_rfl) (fun hc8 => ?_) (fun hc8 => ?_)
              · try simp only [decide_eq_true_eq, decide_eq_false_iff_not] at hc8
                refine AMx.region (ces := []) (ks := [3, 6, 8]) (hs := [3, 6]) (cs := []) (s' := AS.lst 122 [(3, vp 3 0), (6, vp 6 0), (8, vc (bo (decide (s = [45]))))] [(3, AObj.row [.s (u8 a.op), .s (st a.token), .s (st a.path), .s (st a.other), .s (i6 a.n), .s (i6 (-1)), .s (bo a.flag), .s (AL.Fnv.slI a.ns), .s (st a.data), .s (Policy.slP a.rules), .s (st a.key)]), (6, AObj.row [.s (u8 0), .s (st []), .s (st []), .s (st []), .s (i6 0), .s (i6 0), .s (bo false), .s (SC.nilsl), .s (st []), .s (SC.nilsl), .s (st [])])]) (by kernel_rfl) ?_ ?_
                · exact trivial
                refine AMx.seq ?_
                refine AMx.region_draw (ces := [(7, CE.call [] [] (vc (i6 (fineS ((decide (s = [45])) || false)))) [])]) (ros := [(0, [3]), (4, [3]), (8, [6])]) (ks := [6, 7]) (hs := [6]) (cs := [((decide (s = [45])) = false) → allP [], ((decide (s = [45])) = false) → allP [(decide (s = [45])) = false], ((decide (s = [45])) = false) → allP [(decide (s = [45])) = false], (decide (s = [45])) = false → allP [(decide (s = [45])) = false], Spec Tryd.prog 32 [tc (bo ((decide (s = [45])) || false))] (ofH []) (vc (i6 (fineS ((decide (s = [45])) || false)))) (ofH [])]) (s' := AS.lst 122 [(6, vp 6 0), (7, vc (i6 (fineS ((decide (s = [45])) || false))))] [(6, AObj.row [.s (u8 a.op), .s (st a.token), .s (st a.path), .s (st a.other), .s (i6 a.n), .s (i6 (-1)), .s (bo a.flag), .s (AL.Fnv.slI a.ns), .s (st a.data), .s (Policy.slP a.rules), .s (st a.key)])]) mixed (by kernel_rfl) ?_ ?_
                · exact ⟨(fun _ => trivial), (fun hp => hp), (fun hp => hp), (fun hp2 => (by first | exact hp2 | exact ⟨hp, hp2⟩)), (fine_c ((decide (s = [45])) || false))⟩
                refine AMx.ret ?_
                exact RetP.mk (r := AV.tup [TV.agg [.s (u8 a.op), .s (st a.token), .s (st a.path), .s (st a.other), .s (i6 a.n), .s (i6 (-1)), .s (bo a.flag), .s (AL.Fnv.slI a.ns), .s (st a.data), .s (Policy.slP a.rules), .s (st a.key)], tc (i6 (fineS ((decide (s = [45])) || false)))]) (by kernel_rfl) (by rw [show readA a c s = ((⟨a.op, a.token, a.path, a.other, a.n, (-1), a.flag, a.ns, a.data, a.rules, a.key⟩ : AskV), fineS ((decide (s = [45])) || false)) from by first | (subst_vars; rfl) | (subst_vars; exact read_c (by assumption)) | (subst_vars; exact read_k _ _) | (subst_vars; exact read_l (by assumption)) | (subst_vars; exact read_d (by assumption)) | (subst_vars; exact read_r (by assumption) (by assumption)) | (exfalso; unfold LetI at hc; omega)])
              · try simp only [decide_eq_true_eq, decide_eq_false_iff_not] at hc8
                refine AMx.skip ?_
                refine AMx.seq ?_
                refine AMx.region_draw (ces := [(7, CE.call [] [] (vc (i6 (fineS ((decide (s = [45])) || (decide (0 ≤ scanN s)))))) [])]) (ros := [(0, [3]), (4, [3]), (8, [6])]) (ks := [6, 7]) (hs := [6]) (cs := [((decide (s = [45])) = false) → allP [], ((decide (s = [45])) = false) → allP [(decide (s = [45])) = false], ((decide (s = [45])) = false) → allP [(decide (s = [45])) = false], (decide (s = [45])) = false → allP [(decide (s = [45])) = false], Spec Tryd.prog 32 [tc (bo ((decide (s = [45])) || (decide (0 ≤ scanN s))))] (ofH []) (vc (i6 (fineS ((decide (s = [45])) || (decide (0 ≤ scanN s)))))) (ofH [])]) (s' := AS.lst 122 [(6, vp 6 0), (7, vc (i6 (fineS ((decide (s = [45])) || (decide (0 ≤ scanN s))))))] [(6, AObj.row [.s (u8 a.op), .s (st a.token), .s (st a.path), .s (st a.other), .s (i6 a.n), .s (i6 (scanN s)), .s (bo a.flag), .s (AL.Fnv.slI a.ns), .s (st a.data), .s (Policy.slP a.rules), .s (st a.key)])]) mixed (by kernel_rfl) ?_ ?_
                · exact ⟨(fun _ => trivial), (fun hp => hp), (fun hp => hp), (fun hp2 => (by first | exact hp2 | exact ⟨hp, hp2⟩)), (fine_c ((decide (s = [45])) || (decide (0 ≤ scanN s))))⟩
                refine AMx.ret ?_
                exact RetP.mk (r := AV.tup [TV.agg [.s (u8 a.op), .s (st a.token), .s (st a.path), .s (st a.other), .s (i6 a.n), .s (i6 (scanN s)), .s (bo a.flag), .s (AL.Fnv.slI a.ns), .s (st a.data), .s (Policy.slP a.rules), .s (st a.key)], tc (i6 (fineS ((decide (s = [45])) || (decide (0 ≤ scanN s)))))]) (by kernel_rfl) (by rw [show readA a c s = ((⟨a.op, a.token, a.path, a.other, a.n, scanN s, a.flag, a.ns, a.data, a.rules, a.key⟩ : AskV), fineS ((decide (s = [45])) || (decide (0 ≤ scanN s)))) from by first | (subst_vars; rfl) | (subst_vars; exact read_c (by assumption)) | (subst_vars; exact read_k _ _) | (subst_vars; exact read_l (by assumption)) | (subst_vars; exact read_d (by assumption)) | (subst_vars; exact read_r (by assumption) (by assumption)) | (exfalso; unfold LetI at hc; omega)])
            · try simp only [decide_eq_true_eq, decide_eq_false_iff_not] at hc7
              refine AMx.seq ?_
              refine AMx.region (ces := []) (ks := [1, 2, 3, 6, 8, 9, 14, 48]) (hs := [3, 6]) (cs := []) (s' := AS.lst 122 [(1, vc (i3 c)), (2, vc (st s)), (3, vp 3 0), (6, vp 6 0), (8, vc (bo (decide (s = [45])))), (9, vc (bo true)), (14, vc (i3 c)), (48, vc (bo (decide (c = 102))))] [(3, AObj.row (rwA a)), (6, AObj.row [.s (u8 0), .s (st []), .s (st []), .s (st []), .s (i6 0), .s (i6 0), .s (bo false), .s (SC.nilsl), .s (st []), .s (SC.nilsl), .s (st [])])]) (by kernel_rfl) ?_ ?_
              · exact trivial
              refine AMx.cond (b := decide (c = 102)) (by kernel_rfl) (fun hc9 => ?_) (fun hc9 => ?_)
              · try simp only [decide_eq_true_eq, decide_eq_false_iff_not] at hc9
                refine AMx.seq ?_
                refine AMx.region (ces := []) (ks := [2, 3, 6]) (hs := [3, 6]) (cs := []) (s' := AS.lst 122 [(2, vc (st s)), (3, vp 3 0), (6, vp 6 0)] [(3, AObj.row [.s (u8 a.op), .s (st a.token), .s (st a.path), .s (st a.other), .s (i6 a.n), .s (i6 a.cas), .s (bo (decide (s = [49]))), .s (AL.Fnv.slI a.ns), .s (st a.data), .s (Policy.slP a.rules), .s (st a.key)]), (6, AObj.row [.s (u8 0), .s (st []), .s (st []), .s (st []), .s (i6 0), .s (i6 0), .s (bo false), .s (SC.nilsl), .s (st []), .s (SC.nilsl), .s (st [])])]) (by kernel_rfl) ?_ ?_
                · exact trivial
                refine AMx.seq ?_
                refine AMx.region_draw (ces := [(7, CE.call [] [] (vc (i6 (fineS ((decide (s = [49])) || (decide (s = [48])))))) [])]) (ros := [(0, [3]), (2, [3]), (8, [6])]) (ks := [6, 7]) (hs := [6]) (cs := [((decide (s = [49])) = false) → allP [], ((decide (s = [49])) = false) → allP [(decide (s = [49])) = false], (decide (s = [49])) = false → allP [(decide (s = [49])) = false], Spec Tryd.prog 32 [tc (bo ((decide (s = [49])) || (decide (s = [48]))))] (ofH []) (vc (i6 (fineS ((decide (s = [49])) || (decide (s = [48])))))) (ofH [])]) (s' := AS.lst 122 [(6, vp 6 0), (7, vc (i6 (fineS ((decide (s = [49])) || (decide (s = [48]))))))] [(6, AObj.row [.s (u8 a.op), .s (st a.token), .s (st a.path), .s (st a.other), .s (i6 a.n), .s (i6 a.cas), .s (bo (decide (s = [49]))), .s (AL.Fnv.slI a.ns), .s (st a.data), .s (Policy.slP a.rules), .s (st a.key)])]) mixed (by kernel_rfl) ?_ ?_
                · exact ⟨(fun _ => trivial), (fun hp => hp), (fun hp2 => (by first | exact hp2 | exact ⟨hp, hp2⟩)), (fine_c ((decide (s = [49])) || (decide (s = [48]))))⟩
                refine AMx.ret ?_
                exact RetP.mk (r := AV.tup [TV.agg [.s (u8 a.op), .s (st a.token), .s (st a.path), .s (st a.other), .s (i6 a.n), .s (i6 a.cas), .s (bo (decide (s = [49]))), .s (AL.Fnv.slI a.ns), .s (st a.data), .s (Policy.slP a.rules), .s (st a.key)], tc (i6 (fineS ((decide (s = [49])) || (decide (s = [48])))))]) (by kernel_rfl) (by rw [show readA a c s = ((⟨a.op, a.token, a.path, a.other, a.n, a.cas, decide (s = [49]), a.ns, a.data, a.rules, a.key⟩ : AskV), fineS ((decide (s = [49])) || (decide (s = [48])))) from by first | (subst_vars; rfl) | (subst_vars; exact read_c (by assumption)) | (subst_vars; exact read_k _ _) | (subst_vars; exact read_l (by assumption)) | (subst_vars; exact read_d (by assumption)) | (subst_vars; exact read_r (by assumption) (by assumption)) | (exfalso; unfold LetI at hc; omega)])
              · try simp only [decide_eq_true_eq, decide_eq_false_iff_not] at hc9
                refine AMx.seq ?_
                refine AMx.region (ces := []) (ks := [1, 2, 3, 6, 8, 9, 14, 61]) (hs := [3, 6]) (cs := []) (s' := AS.lst 122 [(1, vc (i3 c)), (2, vc (st s)), (3, vp 3 0), (6, vp 6 0), (8, vc (bo (decide (s = [45])))), (9, vc (bo true)), (14, vc (i3 c)), (61, vc (bo (decide (c = 108))))] [(3, AObj.row (rwA a)), (6, AObj.row [.s (u8 0), .s (st []), .s (st []), .s (st []), .s (i6 0), .s (i6 0), .s (bo false), .s (SC.nilsl), .s (st []), .s (SC.nilsl), .s (st [])])]) (by kernel_rfl) ?_ ?_
                · exact trivial
                refine AMx.cond (b := decide (c = 108)) (by kernel_rfl) (fun hc10 => ?_) (fun hc10 => ?_)
                · try simp only [decide_eq_true_eq, decide_eq_false_iff_not] at hc10
                  refine AMx.seq ?_
                  refine AMx.region (ces := []) (ks := [1, 2, 3, 6, 64]) (hs := [3, 6]) (cs := []) (s' := AS.lst 122 [(1, vc (i3 c)), (2, vc (st s)), (3, vp 3 0), (6, vp 6 0), (64, vc (bo (!(decide (s = [45])))))] [(3, AObj.row (rwA a)), (6, AObj.row [.s (u8 0), .s (st []), .s (st []), .s (st []), .s (i6 0), .s (i6 0), .s (bo false), .s (SC.nilsl), .s (st []), .s (SC.nilsl), .s (st [])])]) (by kernel_rfl) ?_ ?_
                  · exact trivial
                  refine AMx.cond (b := !(decide (s = [45]))) (by kernel_rfl) (fun hc11 => ?_) (fun hc11 => ?_)
                  · try simp only [decide_eq_true_eq, decide_eq_false_iff_not, Bool.not_eq_true', Bool.not_eq_false'] at hc11
                    refine AMx.region (ces := [(1, CE.call [] [] (vc (AL.Fnv.slI (numbersS s))) [])]) (ks := [1, 3, 6]) (hs := [3, 6]) (cs := [Spec Tryd.prog 33 [tc (st s)] (ofH []) (vc (AL.Fnv.slI (numbersS s))) (ofH [])]) (s' := AS.lst 122 [(1, vc (i3 c)), (3, vp 3 0), (6, vp 6 0)] [(3, AObj.row [.s (u8 a.op), .s (st a.token), .s (st a.path), .s (st a.other), .s (i6 a.n), .s (i6 a.cas), .s (bo a.flag), .s (AL.Fnv.slI (numbersS s)), .s (st a.data), .s (Policy.slP a.rules), .s (st a.key)]), (6, AObj.row [.s (u8 0), .s (st []), .s (st []), .s (st []), .s (i6 0), .s (i6 0), .s (bo false), .s (SC.nilsl), .s (st []), .s (SC.nilsl), .s (st [])])]) (by kernel_rfl) ?_ ?_
                    · exact (numbers_c s (by omega))
                    refine AMx.blk ?_
                    refine AMx.seq ?_
                    refine AMx.region_draw (ces := [(3, CE.call [] [] (vc (i6 (fieldS (⟨a.op, a.token, a.path, a.other, a.n, a.cas, a.flag, numbersS s, a.data, a.rules, a.key⟩ : AskV) c))) [])]) (ros := [(0, [3]), (1, [3]), (4, [6])]) (ks := [6, 7]) (hs := [6]) (cs := [Spec Tryd.prog 27 [TV.agg [.s (u8 a.op), .s (st a.token), .s (st a.path), .s (st a.other), .s (i6 a.n), .s (i6 a.cas), .s (bo a.flag), .s (AL.Fnv.slI (numbersS s)), .s (st a.data), .s (Policy.slP a.rules), .s (st a.key)], tc (i3 c)] (ofH []) (vc (i6 (fieldS (⟨a.op, a.token, a.path, a.other, a.n, a.cas, a.flag, numbersS s, a.data, a.rules, a.key⟩ : AskV) c))) (ofH [])]) (s' := AS.lst 122 [(6, vp 6 0), (7, vc (i6 (fieldS (⟨a.op, a.token, a.path, a.other, a.n, a.cas, a.flag, numbersS s, a.data, a.rules, a.key⟩ : AskV) c)))] [(6, AObj.row [.s (u8 a.op), .s (st a.token), .s (st a.path), .s (st a.other), .s (i6 a.n), .s (i6 a.cas), .s (bo a.flag), .s (AL.Fnv.slI (numbersS s)), .s (st a.data), .s (Policy.slP a.rules), .s (st a.key)])]) mixed (by kernel_rfl) ?_ ?_
                    · exact (field_c (⟨a.op, a.token, a.path, a.other, a.n, a.cas, a.flag, numbersS s, a.data, a.rules, a.key⟩ : AskV) c)
                    refine AMx.ret ?_
                    exact RetP.mk (r := AV.tup [TV.agg [.s (u8 a.op), .s (st a.token), .s (st a.path), .s (st a.other), .s (i6 a.n), .s (i6 a.cas), .s (bo a.flag), .s (AL.Fnv.slI (numbersS s)), .s (st a.data), .s (Policy.slP a.rules), .s (st a.key)], tc (i6 (fieldS (⟨a.op, a.token, a.path, a.other, a.n, a.cas, a.flag, numbersS s, a.data, a.rules, a.key⟩ : AskV) c))]) (by kernel_rfl) (by rw [show readA a c s = ((⟨a.op, a.token, a.path, a.other, a.n, a.cas, a.flag, numbersS s, a.data, a.rules, a.key⟩ : AskV), fieldS (⟨a.op, a.token, a.path, a.other, a.n, a.cas, a.flag, numbersS s, a.data, a.rules, a.key⟩ : AskV) c) from by first | (subst_vars; rfl) | (subst_vars; exact read_c (by assumption)) | (subst_vars; exact read_k _ _) | (subst_vars; exact read_l (by assumption)) | (subst_vars; exact read_d (by assumption)) | (subst_vars; exact read_r (by assumption) (by assumption)) | (exfalso; unfold LetI at hc; omega)])
                  · try simp only [decide_eq_true_eq, decide_eq_false_iff_not, Bool.not_eq_true', Bool.not_eq_false'] at hc11
                    refine AMx.skip ?_
                    refine AMx.blk ?_
                    refine AMx.seq ?_
                    refine AMx.region_draw (ces := [(3, CE.call [] [] (vc (i6 (fieldS a c))) [])]) (ros := [(0, [3]), (1, [3]), (4, [6])]) (ks := [6, 7]) (hs := [6]) (cs := [Spec Tryd.prog 27 [TV.agg (rwA a), tc (i3 c)] (ofH []) (vc (i6 (fieldS a c))) (ofH [])]) (s' := AS.lst 122 [(6, vp 6 0), (7, vc (i6 (fieldS a c)))] [(6, AObj.row (rwA a))]) mixed (by kernel_rfl) ?_ ?_
                    · exact (field_c a c)
                    refine AMx.ret ?_
                    exact RetP.mk (r := AV.tup [TV.agg (rwA a), tc (i6 (fieldS a c))]) (by kernel_rfl) (by rw [show readA a c s = (a, fieldS a c) from by first | (subst_vars; rfl) | (subst_vars; exact read_c (by assumption)) | (subst_vars; exact read_k _ _) | (subst_vars; exact read_l (by assumption)) | (subst_vars; exact read_d (by assumption)) | (subst_vars; exact read_r (by assumption) (by assumption)) | (exfalso; unfold LetI at hc; omega)])
                · try simp only [decide_eq_true_eq, decide_eq_false_iff_not] at hc10
                  refine AMx.seq ?_
                  refine AMx.region (ces := []) (ks := [1, 2, 3, 6, 8, 9, 14, 68]) (hs := [3, 6]) (cs := []) (s' := AS.lst 122 [(1, vc (i3 c)), (2, vc (st s)), (3, vp 3 0), (6, vp 6 0), (8, vc (bo (decide (s = [45])))), (9, vc (bo true)), (14, vc (i3 c)), (68, vc (bo (decide (c = 100))))] [(3, AObj.row (rwA a)), (6, AObj.row [.s (u8 0), .s (st []), .s (st []), .s (st []), .s (i6 0), .s (i6 0), .s (bo false), .s (SC.nilsl), .s (st []), .s (SC.nilsl), .s (st [])])]) (by kernel_rfl) ?_ ?_
                  · exact trivial
                  refine AMx.cond (b := decide (c = 100)) (by kernel_rfl) (fun hc12 => ?_) (fun hc12 => ?_)
                  · try simp only [decide_eq_true_eq, decide_eq_false_iff_not] at hc12
                    refine AMx.seq ?_
                    refine AMx.seq ?_
                    refine AMx.region (ces := []) (ks := [2, 3, 6, 9, 71]) (hs := [3, 6]) (cs := []) (s' := AS.lst 122 [(2, vc (st s)), (3, vp 3 0), (6, vp 6 0), (9, vc (bo true)), (71, vc (bo (!(decide (s = [45])))))] [(3, AObj.row (rwA a)), (6, AObj.row [.s (u8 0), .s (st []), .s (st []), .s (st []), .s (i6 0), .s (i6 0), .s (bo false), .s (SC.nilsl), .s (st []), .s (SC.nilsl), .s (st [])])]) (by kernel_rfl) ?_ ?_
                    · exact trivial
                    refine AMx.cond (b := !(decide (s = [45]))) (by kernel_rfl) (fun hc13 => ?_) (fun hc13 => ?_)
                    · try simp only [decide_eq_true_eq, decide_eq_false_iff_not, Bool.not_eq_true', Bool.not_eq_false'] at hc13
                      refine AMx.region (ces := [(1, CE.call [] [] (AV.tup [tc (st ((unhexS s).1)), tc (bo ((unhexS s).2))]) [])]) (ks := [2, 3, 6, 9]) (hs := [3, 6]) (cs := [Spec Tryd.prog 7 [tc (st s)] (ofH []) (AV.tup [tc (st ((unhexS s).1)), tc (bo ((unhexS s).2))]) (ofH [])]) (s' := AS.lst 122 [(2, vc (st s)), (3, vp 3 0), (6, vp 6 0), (9, vc (bo ((unhexS s).2)))] [(3, AObj.row [.s (u8 a.op), .s (st a.token), .s (st a.path), .s (st a.other), .s (i6 a.n), .s (i6 a.cas), .s (bo a.flag), .s (AL.Fnv.slI a.ns), .s (st ((unhexS s).1)), .s (Policy.slP a.rules), .s (st a.key)]), (6, AObj.row [.s (u8 0), .s (st []), .s (st []), .s (st []), .s (i6 0), .s (i6 0), .s (bo false), .s (SC.nilsl), .s (st []), .s (SC.nilsl), .s (st [])])]) (by kernel_rfl) ?_ ?_
                      · exact (Unhex_c s (by omega))
                      refine AMx.seq ?_
                      refine AMx.region_draw (ces := [(6, CE.call [] [] (vc (i6 (fineS (((unhexS s).2) && (!decide (s = [])))))) [])]) (ros := [(0, [3]), (7, [6])]) (ks := [6, 7]) (hs := [6]) (cs := [(((unhexS s).2) = true) → allP [], (((unhexS s).2) = true) → allP [((unhexS s).2) = true], ((unhexS s).2) = true → allP [((unhexS s).2) = true], Spec Tryd.prog 32 [tc (bo (((unhexS s).2) && (!decide (s = []))))] (ofH []) (vc (i6 (fineS (((unhexS s).2) && (!decide (s = [])))))) (ofH [])]) (s' := AS.lst 122 [(6, vp 6 0), (7, vc (i6 (fineS (((unhexS s).2) && (!decide (s = []))))))] [(6, AObj.row [.s (u8 a.op), .s (st a.token), .s (st a.path), .s (st a.other), .s (i6 a.n), .s (i6 a.cas), .s (bo a.flag), .s (AL.Fnv.slI a.ns), .s (st ((unhexS s).1)), .s (Policy.slP a.rules), .s (st a.key)])]) mixed (by kernel_rfl) ?_ ?_
                      · exact ⟨(fun _ => trivial), (fun hp => hp), (fun hp2 => (by first | exact hp2 | exact ⟨hp, hp2⟩)), (fine_c (((unhexS s).2) && (!decide (s = []))))⟩
                      refine AMx.ret ?_
                      exact RetP.mk (r := AV.tup [TV.agg [.s (u8 a.op), .s (st a.token), .s (st a.path), .s (st a.other), .s (i6 a.n), .s (i6 a.cas), .s (bo a.flag), .s (AL.Fnv.slI a.ns), .s (st ((unhexS s).1)), .s (Policy.slP a.rules), .s (st a.key)], tc (i6 (fineS (((unhexS s).2) && (!decide (s = [])))))]) (by kernel_rfl) (by rw [show readA a c s = ((⟨a.op, a.token, a.path, a.other, a.n, a.cas, a.flag, a.ns, (unhexS s).1, a.rules, a.key⟩ : AskV), fineS (((unhexS s).2) && (!decide (s = [])))) from by first | (subst_vars; rfl) | (subst_vars; exact read_c (by assumption)) | (subst_vars; exact read_k _ _) | (subst_vars; exact read_l (by assumption)) | (subst_vars; exact read_d (by assumption)) | (subst_vars; exact read_r (by assumption) (by assumption)) | (exfalso; unfold LetI at hc; omega)])
                    · try simp only [decide_eq_true_eq, decide_eq_false_iff_not, Bool.not_eq_true', Bool.not_eq_false'] at hc13
                      refine AMx.skip ?_
                      refine AMx.seq ?_
                      refine AMx.region_draw (ces := [(6, CE.call [] [] (vc (i6 (fineS (true && (!decide (s = [])))))) [])]) (ros := [(0, [3]), (7, [6])]) (ks := [6, 7]) (hs := [6]) (cs := [(true = true) → allP [], (true = true) → allP [true = true], true = true → allP [true = true], Spec Tryd.prog 32 [tc (bo (true && (!decide (s = []))))] (ofH []) (vc (i6 (fineS (true && (!decide (s = [])))))) (ofH [])]) (s' := AS.lst 122 [(6, vp 6 0), (7, vc (i6 (fineS (true && (!decide (s = []))))))] [(6, AObj.row (rwA a))]) mixed (by kernel_rfl) ?_ ?_
                      · exact ⟨(fun _ => trivial), (fun hp => hp), (fun hp2 => (by first | exact hp2 | exact ⟨hp, hp2⟩)), (fine_c (true && (!decide (s = []))))⟩
                      refine AMx.ret ?_
                      exact RetP.mk (r := AV.tup [TV.agg (rwA a), tc (i6 (fineS (true && (!decide (s = [])))))]) (by kernel_rfl) (by rw [show readA a c s = (a, fineS (true && (!decide (s = [])))) from by first | (subst_vars; rfl) | (subst_vars; exact read_c (by assumption)) | (subst_vars; exact read_k _ _) | (subst_vars; exact read_l (by assumption)) | (subst_vars; exact read_d (by assumption)) | (subst_vars; exact read_r (by assumption) (by assumption)) | (exfalso; unfold LetI at hc; omega)])
                  · try simp only [decide_eq_true_eq, decide_eq_false_iff_not] at hc12
                    refine AMx.seq ?_
                    refine AMx.region (ces := []) (ks := [1, 2, 3, 6, 8, 14, 85]) (hs := [3, 6]) (cs := []) (s' := AS.lst 122 [(1, vc (i3 c)), (2, vc (st s)), (3, vp 3 0), (6, vp 6 0), (8, vc (bo (decide (s = [45])))), (14, vc (i3 c)), (85, vc (bo (decide (c = 114))))] [(3, AObj.row (rwA a)), (6, AObj.row [.s (u8 0), .s (st []), .s (st []), .s (st []), .s (i6 0), .s (i6 0), .s (bo false), .s (SC.nilsl), .s (st []), .s (SC.nilsl), .s (st [])])]) (by kernel_rfl) ?_ ?_
                    · exact trivial
                    refine AMx.cond (b := decide (c = 114)) (by kernel_rfl) (fun hc14 => ?_) (fun hc14 => ?_)
                    · try simp only [decide_eq_true_eq, decide_eq_false_iff_not] at hc14
                      refine AMx.seq ?_
                      refine AMx.seq ?_
                      refine AMx.region (ces := []) (ks := [2, 3, 6, 87]) (hs := [3, 6]) (cs := []) (s' := AS.lst 122 [(2, vc (st s)), (3, vp 3 0), (6, vp 6 0), (87, vc (bo (decide (s = [45]))))] [(3, AObj.row (rwA a)), (6, AObj.row [.s (u8 0), .s (st []), .s (st []), .s (st []), .s (i6 0), .s (i6 0), .s (bo false), .s (SC.nilsl), .s (st []), .s (SC.nilsl), .s (st [])])]) (by kernel_rfl) ?_ ?_
                      · exact trivial
                      refine AMx.cond (b := decide (s = [45])) (by kernel_rfl) (fun hc15 => ?_) (fun hc15 => ?_)
                      · try simp only [decide_eq_true_eq, decide_eq_false_iff_not] at hc15
                        refine AMx.seq ?_
                        refine AMx.region (ces := []) (ks := [6, 7]) (hs := [6]) (cs := []) (s' := AS.lst 122 [(6, vp 6 0), (7, vc (i6 0))] [(6, AObj.row (rwA a))]) (by kernel_rfl) ?_ ?_
                        · exact trivial
                        refine AMx.ret ?_
                        exact RetP.mk (r := AV.tup [TV.agg (rwA a), tc (i6 0)]) (by kernel_rfl) (by rw [show readA a c s = (a, 0) from by first | (subst_vars; rfl) | (subst_vars; exact read_c (by assumption)) | (subst_vars; exact read_k _ _) | (subst_vars; exact read_l (by assumption)) | (subst_vars; exact read_d (by assumption)) | (subst_vars; exact read_r (by assumption) (by assumption)) | (exfalso; unfold LetI at hc; omega)])
                      · try simp only [decide_eq_true_eq, decide_eq_false_iff_not] at hc15
                        refine AMx.skip ?_
                        refine AMx.seq ?_
                        refine AMx.region (ces := [(1, CE.call [] [] (AV.tup [tc (Policy.slP ((Policy.parseP s).1)), tc (i6 ((Policy.parseP s).2))]) [])]) (ks := [2, 3, 6, 10, 11]) (hs := [3, 6]) (cs := [Spec Tryd.prog 34 [tc (st s)] (ofH []) (AV.tup [tc (Policy.slP ((Policy.parseP s).1)), tc (i6 ((Policy.parseP s).2))]) (ofH [])]) (s' := AS.lst 122 [(2, vc (st s)), (3, vp 3 0), (6, vp 6 0), (10, vc (Policy.slP ((Policy.parseP s).1))), (11, vc (i6 ((Policy.parseP s).2)))] [(3, AObj.row (rwA a)), (6, AObj.row [.s (u8 0), .s (st []), .s (st []), .s (st []), .s (i6 0), .s (i6 0), .s (bo false), .s (SC.nilsl), .s (st []), .s (SC.nilsl), .s (st [])])]) (by kernel_rfl) ?_ ?_
                        · exact (Policy.Parse_c s (by omega))
                        refine AMx.seq ?_
                        refine AMx.seq ?_
                        refine AMx.region (ces := []) (ks := [3, 6, 10, 11, 95]) (hs := [3, 6]) (cs := []) (s' := AS.lst 122 [(3, vp 3 0), (6, vp 6 0), (10, vc (Policy.slP ((Policy.parseP s).1))), (11, vc (i6 ((Policy.parseP s).2))), (95, vc (bo (decide (s = []))))] [(3, AObj.row (rwA a)), (6, AObj.row [.s (u8 0), .s (st []), .s (st []), .s (st []), .s (i6 0), .s (i6 0), .s (bo false), .s (SC.nilsl), .s (st []), .s (SC.nilsl), .s (st [])])]) (by kernel_rfl) ?_ ?_
                        · exact trivial
                        refine AMx.cond (b := decide (s = [])) (by kernel_rfl) (fun hc16 => ?_) (fun hc16 => ?_)
                        · try simp only [decide_eq_true_eq, decide_eq_false_iff_not] at hc16
                          refine AMx.seq ?_
                          refine AMx.region (ces := []) (ks := [6, 7]) (hs := [6]) (cs := []) (s' := AS.lst 122 [(6, vp 6 0), (7, vc (i6 4))] [(6, AObj.row (rwA a))]) (by kernel_rfl) ?_ ?_
                          · exact trivial
                          refine AMx.ret ?_
                          exact RetP.mk (r := AV.tup [TV.agg (rwA a), tc (i6 4)]) (by kernel_rfl) (by rw [show readA a c s = (a, 4) from by first | (subst_vars; rfl) | (subst_vars; exact read_c (by assumption)) | (subst_vars; exact read_k _ _) | (subst_vars; exact read_l (by assumption)) | (subst_vars; exact read_d (by assumption)) | (subst_vars; exact read_r (by assumption) (by assumption)) | (exfalso; unfold LetI at hc; omega)])
                        · try simp only [decide_eq_true_eq, decide_eq_false_iff_not] at hc16
                          refine AMx.skip ?_
                          refine AMx.seq ?_
                          refine AMx.region (ces := []) (ks := [3, 6, 11]) (hs := [3, 6]) (cs := []) (s' := AS.lst 122 [(3, vp 3 0), (6, vp 6 0), (11, vc (i6 ((Policy.parseP s).2)))] [(3, AObj.row [.s (u8 a.op), .s (st a.token), .s (st a.path), .s (st a.other), .s (i6 a.n), .s (i6 a.cas), .s (bo a.flag), .s (AL.Fnv.slI a.ns), .s (st a.data), .s (Policy.slP ((Policy.parseP s).1)), .s (st a.key)]), (6, AObj.row [.s (u8 0), .s (st []), .s (st []), .s (st []), .s (i6 0), .s (i6 0), .s (bo false), .s (SC.nilsl), .s (st []), .s (SC.nilsl), .s (st [])])]) (by kernel_rfl) ?_ ?_
                          · exact trivial
                          refine AMx.seq ?_
                          refine AMx.region (ces := []) (ks := [6, 7]) (hs := [6]) (cs := []) (s' := AS.lst 122 [(6, vp 6 0), (7, vc (i6 ((Policy.parseP s).2)))] [(6, AObj.row [.s (u8 a.op), .s (st a.token), .s (st a.path), .s (st a.other), .s (i6 a.n), .s (i6 a.cas), .s (bo a.flag), .s (AL.Fnv.slI a.ns), .s (st a.data), .s (Policy.slP ((Policy.parseP s).1)), .s (st a.key)])]) (by kernel_rfl) ?_ ?_
                          · exact trivial
                          refine AMx.ret ?_
                          exact RetP.mk (r := AV.tup [TV.agg [.s (u8 a.op), .s (st a.token), .s (st a.path), .s (st a.other), .s (i6 a.n), .s (i6 a.cas), .s (bo a.flag), .s (AL.Fnv.slI a.ns), .s (st a.data), .s (Policy.slP ((Policy.parseP s).1)), .s (st a.key)], tc (i6 ((Policy.parseP s).2))]) (by kernel_rfl) (by rw [show readA a c s = ((⟨a.op, a.token, a.path, a.other, a.n, a.cas, a.flag, a.ns, a.data, (Policy.parseP s).1, a.key⟩ : AskV), (Policy.parseP s).2) from by first | (subst_vars; rfl) | (subst_vars; exact read_c (by assumption)) | (subst_vars; exact read_k _ _) | (subst_vars; exact read_l (by assumption)) | (subst_vars; exact read_d (by assumption)) | (subst_vars; exact read_r (by assumption) (by assumption)) | (exfalso; unfold LetI at hc; omega)])
                    · try simp only [decide_eq_true_eq, decide_eq_false_iff_not] at hc14
                      refine AMx.seq ?_
                      refine AMx.region (ces := []) (ks := [1, 2, 3, 6, 101]) (hs := [3, 6]) (cs := []) (s' := AS.lst 122 [(1, vc (i3 c)), (2, vc (st s)), (3, vp 3 0), (6, vp 6 0), (101, vc (bo (decide (c = 107))))] [(3, AObj.row (rwA a)), (6, AObj.row [.s (u8 0), .s (st []), .s (st []), .s (st []), .s (i6 0), .s (i6 0), .s (bo false), .s (SC.nilsl), .s (st []), .s (SC.nilsl), .s (st [])])]) (by kernel_rfl) ?_ ?_
                      · exact trivial
                      refine AMx.cond (b := decide (c = 107)) (by kernel_rfl) (fun hc17 => ?_) (fun hc17 => ?_)
                      · try simp only [decide_eq_true_eq, decide_eq_false_iff_not] at hc17
                        refine AMx.seq ?_
                        refine AMx.region (ces := [(1, CE.call [] [] (AV.tup [tc (st ((unhexS s).1)), tc (bo ((unhexS s).2))]) [])]) (ks := [3, 6, 9]) (hs := [3, 6]) (cs := [Spec Tryd.prog 7 [tc (st s)] (ofH []) (AV.tup [tc (st ((unhexS s).1)), tc (bo ((unhexS s).2))]) (ofH [])]) (s' := AS.lst 122 [(3, vp 3 0), (6, vp 6 0), (9, vc (bo ((unhexS s).2)))] [(3, AObj.row [.s (u8 a.op), .s (st a.token), .s (st a.path), .s (st a.other), .s (i6 a.n), .s (i6 a.cas), .s (bo a.flag), .s (AL.Fnv.slI a.ns), .s (st a.data), .s (Policy.slP a.rules), .s (st ((unhexS s).1))]), (6, AObj.row [.s (u8 0), .s (st []), .s (st []), .s (st []), .s (i6 0), .s (i6 0), .s (bo false), .s (SC.nilsl), .s (st []), .s (SC.nilsl), .s (st [])])]) (by kernel_rfl) ?_ ?_
                        · exact (Unhex_c s (by omega))
                        refine AMx.seq ?_
                        refine AMx.region_draw (ces := [(8, CE.call [] [] (vc (i6 (fineS (((unhexS s).2) && (decide ((List.length ((unhexS s).1 : List UInt8) : Int) = 16)))))) [])]) (ros := [(0, [3]), (4, [3]), (9, [6])]) (ks := [6, 7]) (hs := [6]) (cs := [(((unhexS s).2) = true) → allP [], (((unhexS s).2) = true) → allP [((unhexS s).2) = true], (((unhexS s).2) = true) → allP [((unhexS s).2) = true], (((unhexS s).2) = true) → allP [((unhexS s).2) = true], ((unhexS s).2) = true → allP [((unhexS s).2) = true], Spec Tryd.prog 32 [tc (bo (((unhexS s).2) && (decide ((List.length ((unhexS s).1 : List UInt8) : Int) = 16))))] (ofH []) (vc (i6 (fineS (((unhexS s).2) && (decide ((List.length ((unhexS s).1 : List UInt8) : Int) = 16)))))) (ofH [])]) (s' := AS.lst 122 [(6, vp 6 0), (7, vc (i6 (fineS (((unhexS s).2) && (decide ((List.length ((unhexS s).1 : List UInt8) : Int) = 16))))))] [(6, AObj.row [.s (u8 a.op), .s (st a.token), .s (st a.path), .s (st a.other), .s (i6 a.n), .s (i6 a.cas), .s (bo a.flag), .s (AL.Fnv.slI a.ns), .s (st a.data), .s (Policy.slP a.rules), .s (st ((unhexS s).1))])]) mixed (by kernel_rfl) ?_ ?_
                        · exact ⟨(fun _ => trivial), (fun hp => hp), (fun hp => hp), (fun hp => hp), (fun hp2 => (by first | exact hp2 | exact ⟨hp, hp2⟩)), (fine_c (((unhexS s).2) && (decide ((List.length ((unhexS s).1 : List UInt8) : Int) = 16))))⟩
                        refine AMx.ret ?_
                        exact RetP.mk (r := AV.tup [TV.agg [.s (u8 a.op), .s (st a.token), .s (st a.path), .s (st a.other), .s (i6 a.n), .s (i6 a.cas), .s (bo a.flag), .s (AL.Fnv.slI a.ns), .s (st a.data), .s (Policy.slP a.rules), .s (st ((unhexS s).1))], tc (i6 (fineS (((unhexS s).2) && (decide ((List.length ((unhexS s).1 : List UInt8) : Int) = 16)))))]) (by kernel_rfl) (by rw [show readA a c s = ((⟨a.op, a.token, a.path, a.other, a.n, a.cas, a.flag, a.ns, a.data, a.rules, (unhexS s).1⟩ : AskV), fineS (((unhexS s).2) && (decide ((List.length ((unhexS s).1 : List UInt8) : Int) = 16)))) from by first | (subst_vars; rfl) | (subst_vars; exact read_c (by assumption)) | (subst_vars; exact read_k _ _) | (subst_vars; exact read_l (by assumption)) | (subst_vars; exact read_d (by assumption)) | (subst_vars; exact read_r (by assumption) (by assumption)) | (exfalso; unfold LetI at hc; omega)])
                      · try simp only [decide_eq_true_eq, decide_eq_false_iff_not] at hc17
                        refine AMx.skip ?_
                        refine AMx.blk ?_
                        refine AMx.seq ?_
                        refine AMx.region_draw (ces := [(3, CE.call [] [] (vc (i6 (fieldS a c))) [])]) (ros := [(0, [3]), (1, [3]), (4, [6])]) (ks := [6, 7]) (hs := [6]) (cs := [Spec Tryd.prog 27 [TV.agg (rwA a), tc (i3 c)] (ofH []) (vc (i6 (fieldS a c))) (ofH [])]) (s' := AS.lst 122 [(6, vp 6 0), (7, vc (i6 (fieldS a c)))] [(6, AObj.row (rwA a))]) mixed (by kernel_rfl) ?_ ?_
                        · exact (field_c a c)
                        refine AMx.ret ?_
                        exact RetP.mk (r := AV.tup [TV.agg (rwA a), tc (i6 (fieldS a c))]) (by kernel_rfl) (by rw [show readA a c s = (a, fieldS a c) from by first | (subst_vars; rfl) | (subst_vars; exact read_c (by assumption)) | (subst_vars; exact read_k _ _) | (subst_vars; exact read_l (by assumption)) | (subst_vars; exact read_d (by assumption)) | (subst_vars; exact read_r (by assumption) (by assumption)) | (exfalso; unfold LetI at hc; omega)])

end AL.Ask
