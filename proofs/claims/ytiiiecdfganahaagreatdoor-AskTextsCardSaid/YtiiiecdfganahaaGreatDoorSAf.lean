/- The proof library and the contracts that the law reaches: joined by a program. No condition. -/
import Derived.Test.YtiiiecdfganahaaGreatDoorSAe
namespace AL.Ask
open Go Go.Proofs AL
set_option linter.unusedVariables false
set_option linter.unusedSimpArgs false
theorem f42_body : Tryz.f42.body = some (.seq (.region 0 (rg Tryz.f42 0) false) (.seq (.region 1 (rg Tryz.f42 1) false) (.seq (.seq (.region 2 (rg Tryz.f42 2) false) (.cond (.tmp 8) (.seq (.region 3 (rg Tryz.f42 3) false) (.ret)) (.skip))) (.seq (.seq (.region 4 (rg Tryz.f42 4) false) (.cond (.tmp 12) (.seq (.region 5 (rg Tryz.f42 5) false) (.ret)) (.skip))) (.seq (.seq (.region 6 (rg Tryz.f42 6) false) (.cond (.tmp 20) (.seq (.region 7 (rg Tryz.f42 7) false) (.ret)) (.skip))) (.seq (.seq (.region 8 (rg Tryz.f42 8) false) (.cond (.tmp 24) (.seq (.region 9 (rg Tryz.f42 9) false) (.ret)) (.skip))) (.seq (.seq (.region 10 (rg Tryz.f42 10) false) (.cond (.tmp 33) (.seq (.region 11 (rg Tryz.f42 11) false) (.ret)) (.skip))) (.seq (.seq (.region 12 (rg Tryz.f42 12) false) (.cond (.tmp 35) (.seq (.region 13 (rg Tryz.f42 13) false) (.ret)) (.skip))) (.seq (.seq (.region 14 (rg Tryz.f42 14) false) (.cond (.tmp 37) (.seq (.region 15 (rg Tryz.f42 15) false) (.ret)) (.skip))) (.seq (.seq (.region 16 (rg Tryz.f42 16) false) (.cond (.tmp 47) (.seq (.region 17 (rg Tryz.f42 17) false) (.ret)) (.skip))) (.seq (.seq (.region 18 (rg Tryz.f42 18) false) (.cond (.tmp 52) (.region 19 (rg Tryz.f42 19) false) (.skip))) (.seq (.seq (.region 20 (rg Tryz.f42 20) false) (.cond (.tmp 57) (.region 21 (rg Tryz.f42 21) false) (.skip))) (.seq (.seq (.region 22 (rg Tryz.f42 22) false) (.cond (.tmp 65) (.seq (.region 23 (rg Tryz.f42 23) false) (.block 0 (.loop (.seq (.seq (.region 24 (rg Tryz.f42 24) false) (.cond (.tmp 70) (.skip) (.exit 0))) (.seq (.block 1 (.seq (.seq (.region 26 (rg Tryz.f42 26) false) (.cond (.tmp 74) (.region 27 (rg Tryz.f42 27) false) (.skip))) (.region 28 (rg Tryz.f42 28) false))) (.region 25 (rg Tryz.f42 25) false)))))) (.skip))) (.seq (.seq (.region 29 (rg Tryz.f42 29) false) (.cond (.tmp 86) (.seq (.region 30 (rg Tryz.f42 30) false) (.ret)) (.skip))) (.seq (.region 31 (rg Tryz.f42 31) false) (.ret)))))))))))))))) := by kernel_rfl
set_option maxRecDepth 100000 in
set_option maxHeartbeats 8000000 in
theorem Rlay_c (a : AskV) (c : Int) (hc : LetI c) (hf : fieldS a c = 0) (hb : a.data.length ≤ 100000) : Pure Tryz.prog 42 [TV.agg (rwA a), tc (u8 c)] (vc (st (layA a c))) := by
 refine Pure.of_body Tryz.func42 f42_body (by kernel_rfl) Tryz.ntmps42 (by kernel_rfl) (by kernel_rfl) ?_
 refine gS [] [] 88 [(1, vc (u8 c)), (2, vp 2 0)] [(2, AObj.row (rwA a))] trivial ?_
 refine gS [] [] 88 [(1, vc (u8 c)), (2, vp 2 0), (5, vc (st []))] [(2, AObj.row (rwA a))] trivial ?_
 refine gQ ?_
 refine gS [] [] 88 [(1, vc (u8 c)), (2, vp 2 0), (5, vc (st [])), (8, vc (bo (decide (c = 116))))] [(2, AObj.row (rwA a))] trivial ?_
 refine gC (c = 116) (fun hc1 => ?_) fun hc1 => ?_
 ·
  refine gS [] [] 88 [(4, vc (st a.token))] [] trivial ?_
  exact gT (vc (st a.token)) (by rw [show layA a c = a.token from by subst_vars; rfl])
 ·
  refine AMx.skip ?_
  refine gQ ?_
  refine gS [] [] 88 [(1, vc (u8 c)), (2, vp 2 0), (5, vc (st [])), (12, vc (bo (decide (c = 112))))] [(2, AObj.row (rwA a))] trivial ?_
  refine gC (c = 112) (fun hc2 => ?_) fun hc2 => ?_
  ·
   refine gS [] [] 88 [(4, vc (st a.path))] [] trivial ?_
   exact gT (vc (st a.path)) (by rw [show layA a c = a.path from by subst_vars; rfl])
  ·
   refine AMx.skip ?_
   refine gQ ?_
   refine gS [] [((decide (c = 109)) = false) → allP [], ((decide (c = 109)) = false) → allP [(decide (c = 109)) = false], (decide (c = 109)) = false → allP [(decide (c = 109)) = false]] 88 [(1, vc (u8 c)), (2, vp 2 0), (5, vc (st [])), (20, vc (bo ((decide (c = 109)) || (decide (c = 113)))))] [(2, AObj.row (rwA a))] ⟨(fun _ => trivial), (fun hp => hp), (fun hp2 => (by first | exact hp2 | exact ⟨hp, hp2⟩))⟩ ?_
   refine gB (((decide (c = 109)) || (decide (c = 113)))) (fun hc3 => ?_) fun hc3 => ?_
   ·
    try simp only [xT, xF, xO, xP] at hc3
    refine gS [] [] 88 [(4, vc (st a.other))] [] trivial ?_
    exact gT (vc (st a.other)) (by rw [show layA a c = a.other from by rcases hc3 with rfl | rfl <;> rfl])
   ·
    try simp only [xT, xF, xO, xP] at hc3
    refine AMx.skip ?_
    refine gQ ?_
    refine gS [] [] 88 [(1, vc (u8 c)), (2, vp 2 0), (5, vc (st [])), (24, vc (bo (decide (c = 110))))] [(2, AObj.row (rwA a))] trivial ?_
    refine gC (c = 110) (fun hc4 => ?_) fun hc4 => ?_
    ·
     refine gS [(2, CE.call [] [] (vc (st (numS a.n))) [])] [Spec Tryz.prog 68 [tc (i6 a.n)] (ofH []) (vc (st (numS a.n))) (ofH [])] 88 [(4, vc (st (numS a.n)))] [] (Rnumber_c a.n (by first | omega | (have z := fld_n hf (by omega); omega) | (have z := fld_c hf (by omega); omega) | (have z := fld_k hf (by unfold LetI at hc; omega); omega) | (have z := (fld_l hf (by omega)).2 _ (Lib.getD_mem 0 a.ns i (by omega)); omega) | (have z := listr_len a.ns i; have z2 := num_le3 (List.getD a.ns i 0); have z3 := (fld_l hf (by omega)).1; (try simp only [List.length_append, List.length_cons, List.length_nil]); omega)) (by first | omega | (have z := fld_n hf (by omega); omega) | (have z := fld_c hf (by omega); omega) | (have z := fld_k hf (by unfold LetI at hc; omega); omega) | (have z := (fld_l hf (by omega)).2 _ (Lib.getD_mem 0 a.ns i (by omega)); omega) | (have z := listr_len a.ns i; have z2 := num_le3 (List.getD a.ns i 0); have z3 := (fld_l hf (by omega)).1; (try simp only [List.length_append, List.length_cons, List.length_nil]); omega))) ?_
     exact gT (vc (st (numS a.n))) (by rw [show layA a c = numS a.n from by subst_vars; rfl])
    ·
     refine AMx.skip ?_
     refine gQ ?_
     refine gS [] [((decide (c = 102)) = true) → allP [], ((decide (c = 102)) = true) → allP [(decide (c = 102)) = true], (decide (c = 102)) = true → allP [(decide (c = 102)) = true]] 88 [(1, vc (u8 c)), (2, vp 2 0), (5, vc (st [])), (33, vc (bo ((decide (c = 102)) && a.flag)))] [(2, AObj.row (rwA a))] ⟨(fun _ => trivial), (fun hp => hp), (fun hp2 => (by first | exact hp2 | exact ⟨hp, hp2⟩))⟩ ?_
     refine gB (((decide (c = 102)) && a.flag)) (fun hc5 => ?_) fun hc5 => ?_
     ·
      try simp only [xT, xF, xA, xB] at hc5
      refine gS [] [] 88 [(4, vc (st [49]))] [] trivial ?_
      exact gT (vc (st [49])) (by rw [show layA a c = [49] from by obtain ⟨rfl, hz⟩ := hc5; show (if a.flag = true then [49] else [48]) = _; exact if_pos hz])
     ·
      try simp only [xT, xF, xA, xB] at hc5
      refine AMx.skip ?_
      refine gQ ?_
      refine gS [] [] 88 [(1, vc (u8 c)), (2, vp 2 0), (5, vc (st [])), (35, vc (bo (decide (c = 102))))] [(2, AObj.row (rwA a))] trivial ?_
      refine gC (c = 102) (fun hc6 => ?_) fun hc6 => ?_
      ·
       refine gS [] [] 88 [(4, vc (st [48]))] [] trivial ?_
       exact gT (vc (st [48])) (by rw [show layA a c = [48] from by obtain rfl : c = 102 := hc6; show (if a.flag = true then [49] else [48]) = _; exact if_neg (by rcases hc5 with q | q; exact absurd rfl q; rw [q]; decide)])
      ·
       refine AMx.skip ?_
       refine gQ ?_
       refine gS [] [] 88 [(1, vc (u8 c)), (2, vp 2 0), (5, vc (st [])), (37, vc (bo (decide (c = 107))))] [(2, AObj.row (rwA a))] trivial ?_
       refine gC (c = 107) (fun hc7 => ?_) fun hc7 => ?_
       ·
        refine gS [(2, CE.call [] [] (vc (st (hexS a.key))) [])] [Spec Tryz.prog 69 [tc (st a.key)] (ofH []) (vc (st (hexS a.key))) (ofH [])] 88 [(4, vc (st (hexS a.key)))] [] (RHex_c a.key (by first | omega | (have z := fld_n hf (by omega); omega) | (have z := fld_c hf (by omega); omega) | (have z := fld_k hf (by unfold LetI at hc; omega); omega) | (have z := (fld_l hf (by omega)).2 _ (Lib.getD_mem 0 a.ns i (by omega)); omega) | (have z := listr_len a.ns i; have z2 := num_le3 (List.getD a.ns i 0); have z3 := (fld_l hf (by omega)).1; (try simp only [List.length_append, List.length_cons, List.length_nil]); omega))) ?_
        exact gT (vc (st (hexS a.key))) (by rw [show layA a c = hexS a.key from by subst_vars; rfl])
       ·
        refine AMx.skip ?_
        refine gQ ?_
        refine gS [] [((decide (c = 99)) = true) → allP [], ((decide (c = 99)) = true) → allP [(decide (c = 99)) = true], ((decide (c = 99)) = true) → allP [(decide (c = 99)) = true], (decide (c = 99)) = true → allP [(decide (c = 99)) = true]] 88 [(1, vc (u8 c)), (2, vp 2 0), (5, vc (st [])), (47, vc (bo ((decide (c = 99)) && (decide (0 ≤ a.cas)))))] [(2, AObj.row (rwA a))] ⟨(fun _ => trivial), (fun hp => hp), (fun hp => hp), (fun hp2 => (by first | exact hp2 | exact ⟨hp, hp2⟩))⟩ ?_
        refine gB (((decide (c = 99)) && (decide (0 ≤ a.cas)))) (fun hc8 => ?_) fun hc8 => ?_
        ·
         try simp only [xT, xF, xA, xB] at hc8
         refine gS [(2, CE.call [] [] (vc (st (numS a.cas))) [])] [Spec Tryz.prog 68 [tc (i6 a.cas)] (ofH []) (vc (st (numS a.cas))) (ofH [])] 88 [(4, vc (st (numS a.cas)))] [] (Rnumber_c a.cas (by omega) (by first | omega | (have z := fld_n hf (by omega); omega) | (have z := fld_c hf (by omega); omega) | (have z := fld_k hf (by unfold LetI at hc; omega); omega) | (have z := (fld_l hf (by omega)).2 _ (Lib.getD_mem 0 a.ns i (by omega)); omega) | (have z := listr_len a.ns i; have z2 := num_le3 (List.getD a.ns i 0); have z3 := (fld_l hf (by omega)).1; (try simp only [List.length_append, List.length_cons, List.length_nil]); omega))) ?_
         exact gT (vc (st (numS a.cas))) (by rw [show layA a c = numS a.cas from by obtain ⟨rfl, hz⟩ := hc8; show (if a.cas = -1 then [45] else numS a.cas) = _; exact if_neg (by omega)])
        ·
         try simp only [xT, xF, xA, xB] at hc8
         refine AMx.skip ?_
         refine gQ ?_
         refine gS [] [] 88 [(1, vc (u8 c)), (2, vp 2 0), (5, vc (st [])), (52, vc (bo (decide (c = 100))))] [(2, AObj.row (rwA a))] trivial ?_
         refine gC (c = 100) (fun hc9 => ?_) fun hc9 => ?_
         ·
          refine gR [(2, CE.call [] [] (vc (st (hexS a.data))) [])] [Spec Tryz.prog 69 [tc (st a.data)] (ofH []) (vc (st (hexS a.data))) (ofH [])] 88 [(1, vc (u8 c)), (2, vp 2 0), (5, vc (st (hexS a.data)))] [(2, AObj.row (rwA a))] (RHex_c a.data (by omega)) ?_
          refine gQ ?_
          refine gS [] [] 88 [(1, vc (u8 c)), (2, vp 2 0), (5, vc (st (hexS a.data))), (57, vc (bo (decide (c = 114))))] [(2, AObj.row (rwA a))] trivial ?_
          refine gC (c = 114) (fun hc10 => ?_) fun hc10 => ?_
          ·
           refine gR [(2, CE.call [] [] (AV.tup [tc (st ((Policy.textP a.rules).1)), tc (i6 ((Policy.textP a.rules).2))]) [])] [Spec Tryz.prog 70 [tc (Policy.slP a.rules)] (ofH []) (AV.tup [tc (st ((Policy.textP a.rules).1)), tc (i6 ((Policy.textP a.rules).2))]) (ofH [])] 88 [(1, vc (u8 c)), (2, vp 2 0), (5, vc (st ((Policy.textP a.rules).1)))] [(2, AObj.row (rwA a))] (Policy.RText_c a.rules) ?_
           refine gQ ?_
           refine gS [] [] 88 [(2, vp 2 0), (5, vc (st ((Policy.textP a.rules).1))), (65, vc (bo (decide (c = 108))))] [(2, AObj.row (rwA a))] trivial ?_
           refine gC (c = 108) (fun hc11 => ?_) fun hc11 => ?_
           ·
            refine gS [] [] 88 [(2, vp 2 0), (5, vc (st ((Policy.textP a.rules).1))), (6, vc (i6 0))] [(2, AObj.row (rwA a))] trivial ?_
            refine AMx.block ?_
            refine AMx.ent (s' := AS.lst 88 [(2, vp 2 0), (5, vc (st ((Policy.textP a.rules).1))), (6, vc (i6 0))] [(2, AObj.row (rwA a))]) (ent_proj [2, 5, 6] [2]) ?_
            refine AMx.loop (fun mm ss => ∃ (i : Nat), (i ≤ a.ns.length) ∧ mm = a.ns.length - i ∧ ss = AS.lst 88 [(2, vp 2 0), (5, vc (st (listS (List.take i a.ns)))), (6, vc (i6 (i : Int)))] [(2, AObj.row (rwA a))]) ⟨0, ?_, rfl, ?_⟩ ?_
            · omega
            · first | (exfalso; omega) | rfl
            rintro mm ss ⟨i, hI, rfl, rfl⟩
            refine gQ ?_
            refine gS [] [] 88 [(2, vp 2 0), (5, vc (st (listS (List.take i a.ns)))), (6, vc (i6 (i : Int))), (70, vc (bo (decide ((i : Int) < (List.length a.ns : Int)))))] [(2, AObj.row (rwA a))] trivial ?_
            refine gC ((i : Int) < (List.length a.ns : Int)) (fun hc12 => ?_) fun hc12 => ?_
            ·
             refine AMx.skip ?_
             refine gQ ?_
             refine AMx.block ?_
             refine gQ ?_
             refine gS [] [] 88 [(2, vp 2 0), (5, vc (st (listS (List.take i a.ns)))), (6, vc (i6 (i : Int))), (74, vc (bo (decide (0 < (i : Int)))))] [(2, AObj.row (rwA a))] trivial ?_
             refine gC (0 < (i : Int)) (fun hc13 => ?_) fun hc13 => ?_
             ·
              refine gR [] [List.length (listS (List.take i a.ns) : List UInt8) + List.length ([44] : List UInt8) ≤ maxLen] 88 [(2, vp 2 0), (5, vc (st ((listS (List.take i a.ns)) ++ [44]))), (6, vc (i6 (i : Int)))] [(2, AObj.row (rwA a))] (show List.length (listS (List.take i a.ns) : List UInt8) + List.length ([44] : List UInt8) ≤ maxLen from (by simp only [List.length_append, List.length_cons, List.length_nil, maxLen]; first | omega | (first | omega | (have z := fld_n hf (by omega); omega) | (have z := fld_c hf (by omega); omega) | (have z := fld_k hf (by unfold LetI at hc; omega); omega) | (have z := (fld_l hf (by omega)).2 _ (Lib.getD_mem 0 a.ns i (by omega)); omega) | (have z := listr_len a.ns i; have z2 := num_le3 (List.getD a.ns i 0); have z3 := (fld_l hf (by omega)).1; (try simp only [List.length_append, List.length_cons, List.length_nil]); omega)))) ?_
              refine gR [(6, CE.call [] [] (vc (st (numS (List.getD a.ns i 0)))) [])] [(0 : Int) ≤ (i : Int), (i : Int) < List.length a.ns, Spec Tryz.prog 68 [tc (i6 (List.getD a.ns i 0))] (ofH []) (vc (st (numS (List.getD a.ns i 0)))) (ofH []), List.length ((listS (List.take i a.ns)) ++ [44] : List UInt8) + List.length (numS (List.getD a.ns i 0) : List UInt8) ≤ maxLen] 88 [(2, vp 2 0), (5, vc (st (((listS (List.take i a.ns)) ++ [44]) ++ (numS (List.getD a.ns i 0))))), (6, vc (i6 (i : Int)))] [(2, AObj.row (rwA a))] ⟨(show (0 : Int) ≤ (i : Int) from (by omega)), (show (i : Int) < List.length a.ns from (by omega)), (Rnumber_c (List.getD a.ns i 0) (by omega) (by omega)), (show List.length ((listS (List.take i a.ns)) ++ [44] : List UInt8) + List.length (numS (List.getD a.ns i 0) : List UInt8) ≤ maxLen from (by simp only [List.length_append, List.length_cons, List.length_nil, maxLen]; first | omega | (first | omega | (have z := fld_n hf (by omega); omega) | (have z := fld_c hf (by omega); omega) | (have z := fld_k hf (by unfold LetI at hc; omega); omega) | (have z := (fld_l hf (by omega)).2 _ (Lib.getD_mem 0 a.ns i (by omega)); omega) | (have z := listr_len a.ns i; have z2 := num_le3 (List.getD a.ns i 0); have z3 := (fld_l hf (by omega)).1; (try simp only [List.length_append, List.length_cons, List.length_nil]); omega))))⟩ ?_
              refine AMx.blk ?_
              refine gR [] [InR .i64 ((i : Int) + 1)] 88 [(2, vp 2 0), (5, vc (st (((listS (List.take i a.ns)) ++ [44]) ++ (numS (List.getD a.ns i 0))))), (6, vc (i6 ((i : Int) + 1)))] [(2, AObj.row (rwA a))] (show InR .i64 ((i : Int) + 1) from (inR64 (by omega) (by omega))) ?_
              refine AMx.ent_inv (s' := AS.lst 88 [(2, vp 2 0), (5, vc (st (((listS (List.take i a.ns)) ++ [44]) ++ (numS (List.getD a.ns i 0))))), (6, vc (i6 ((i : Int) + 1)))] [(2, AObj.row (rwA a))]) (ent_proj [2, 5, 6] [2]) ?_
              refine AMx.inv ⟨_, ?_, i + 1, ?_, rfl, ?_⟩
              rotate_left
              · omega
              · rw [← listr_step a.ns i (by omega) (by omega)]; rfl
              · omega
             ·
              refine AMx.skip ?_
              refine gR [(6, CE.call [] [] (vc (st (numS (List.getD a.ns i 0)))) [])] [(0 : Int) ≤ (i : Int), (i : Int) < List.length a.ns, Spec Tryz.prog 68 [tc (i6 (List.getD a.ns i 0))] (ofH []) (vc (st (numS (List.getD a.ns i 0)))) (ofH []), List.length (listS (List.take i a.ns) : List UInt8) + List.length (numS (List.getD a.ns i 0) : List UInt8) ≤ maxLen] 88 [(2, vp 2 0), (5, vc (st ((listS (List.take i a.ns)) ++ (numS (List.getD a.ns i 0))))), (6, vc (i6 (i : Int)))] [(2, AObj.row (rwA a))] ⟨(show (0 : Int) ≤ (i : Int) from (by omega)), (show (i : Int) < List.length a.ns from (by omega)), (Rnumber_c (List.getD a.ns i 0) (by omega) (by omega)), (show List.length (listS (List.take i a.ns) : List UInt8) + List.length (numS (List.getD a.ns i 0) : List UInt8) ≤ maxLen from (by simp only [List.length_append, List.length_cons, List.length_nil, maxLen]; first | omega | (first | omega | (have z := fld_n hf (by omega); omega) | (have z := fld_c hf (by omega); omega) | (have z := fld_k hf (by unfold LetI at hc; omega); omega) | (have z := (fld_l hf (by omega)).2 _ (Lib.getD_mem 0 a.ns i (by omega)); omega) | (have z := listr_len a.ns i; have z2 := num_le3 (List.getD a.ns i 0); have z3 := (fld_l hf (by omega)).1; (try simp only [List.length_append, List.length_cons, List.length_nil]); omega))))⟩ ?_
              refine AMx.blk ?_
              refine gR [] [InR .i64 ((i : Int) + 1)] 88 [(2, vp 2 0), (5, vc (st ((listS (List.take i a.ns)) ++ (numS (List.getD a.ns i 0))))), (6, vc (i6 ((i : Int) + 1)))] [(2, AObj.row (rwA a))] (show InR .i64 ((i : Int) + 1) from (inR64 (by omega) (by omega))) ?_
              refine AMx.ent_inv (s' := AS.lst 88 [(2, vp 2 0), (5, vc (st ((listS (List.take i a.ns)) ++ (numS (List.getD a.ns i 0))))), (6, vc (i6 ((i : Int) + 1)))] [(2, AObj.row (rwA a))]) (ent_proj [2, 5, 6] [2]) ?_
              refine AMx.inv ⟨_, ?_, i + 1, ?_, rfl, ?_⟩
              rotate_left
              · omega
              · obtain rfl : i = 0 := (by omega); rw [← listr_first a.ns (by omega)]; rfl
              · omega
            ·
             refine AMx.exit ?_
             refine AMx.code_exit ?_
             refine AMx.inv_exit ?_
             refine AMx.blk_exit ?_
             rw [show List.take i a.ns = a.ns from List.take_of_length_le (by omega)]
             refine gQ ?_
             refine gS [] [] 88 [(5, vc (st (listS a.ns))), (86, vc (bo (decide (listS a.ns = []))))] [] trivial ?_
             refine gC (listS a.ns = []) (fun hc14 => ?_) fun hc14 => ?_
             ·
              refine gS [] [] 88 [(4, vc (st [45]))] [] trivial ?_
              exact gT (vc (st [45])) (by rw [show layA a c = [45] from by unfold LetI at hc; rcases hc with rfl | rfl | rfl | rfl | rfl | rfl | rfl | rfl | rfl | rfl | rfl <;> first | (exfalso; omega) | (have z := fld_c hf rfl; show (if a.cas = -1 then [45] else numS a.cas) = _; exact if_pos (by omega)) | (show orN _ = _; unfold orN; exact if_pos (by assumption))])
             ·
              refine AMx.skip ?_
              refine gS [] [] 88 [(4, vc (st (listS a.ns)))] [] trivial ?_
              exact gT (vc (st (listS a.ns))) (by rw [show layA a c = listS a.ns from by first | (exfalso; omega) | (subst_vars; show orN _ = _; unfold orN; exact if_neg (by assumption))])
           ·
            refine AMx.skip ?_
            refine gQ ?_
            refine gS [] [] 88 [(5, vc (st ((Policy.textP a.rules).1))), (86, vc (bo (decide ((Policy.textP a.rules).1 = []))))] [] trivial ?_
            refine gC ((Policy.textP a.rules).1 = []) (fun hc15 => ?_) fun hc15 => ?_
            ·
             refine gS [] [] 88 [(4, vc (st [45]))] [] trivial ?_
             exact gT (vc (st [45])) (by rw [show layA a c = [45] from by unfold LetI at hc; rcases hc with rfl | rfl | rfl | rfl | rfl | rfl | rfl | rfl | rfl | rfl | rfl <;> first | (exfalso; omega) | (have z := fld_c hf rfl; show (if a.cas = -1 then [45] else numS a.cas) = _; exact if_pos (by omega)) | (show orN _ = _; unfold orN; exact if_pos (by assumption))])
            ·
             refine AMx.skip ?_
             refine gS [] [] 88 [(4, vc (st ((Policy.textP a.rules).1)))] [] trivial ?_
             exact gT (vc (st ((Policy.textP a.rules).1))) (by rw [show layA a c = (Policy.textP a.rules).1 from by first | (exfalso; omega) | (subst_vars; show orN _ = _; unfold orN; exact if_neg (by assumption))])
          ·
           refine AMx.skip ?_
           refine gQ ?_
           refine gS [] [] 88 [(2, vp 2 0), (5, vc (st (hexS a.data))), (65, vc (bo (decide (c = 108))))] [(2, AObj.row (rwA a))] trivial ?_
           refine gC (c = 108) (fun hc16 => ?_) fun hc16 => ?_
           ·
            refine gS [] [] 88 [(2, vp 2 0), (5, vc (st (hexS a.data))), (6, vc (i6 0))] [(2, AObj.row (rwA a))] trivial ?_
            refine AMx.block ?_
            refine AMx.ent (s' := AS.lst 88 [(2, vp 2 0), (5, vc (st (hexS a.data))), (6, vc (i6 0))] [(2, AObj.row (rwA a))]) (ent_proj [2, 5, 6] [2]) ?_
            refine AMx.loop (fun mm ss => ∃ (i : Nat), (i ≤ a.ns.length) ∧ mm = a.ns.length - i ∧ ss = AS.lst 88 [(2, vp 2 0), (5, vc (st (listS (List.take i a.ns)))), (6, vc (i6 (i : Int)))] [(2, AObj.row (rwA a))]) ⟨0, ?_, rfl, ?_⟩ ?_
            · omega
            · first | (exfalso; omega) | rfl
            rintro mm ss ⟨i, hI, rfl, rfl⟩
            refine gQ ?_
            refine gS [] [] 88 [(2, vp 2 0), (5, vc (st (listS (List.take i a.ns)))), (6, vc (i6 (i : Int))), (70, vc (bo (decide ((i : Int) < (List.length a.ns : Int)))))] [(2, AObj.row (rwA a))] trivial ?_
            refine gC ((i : Int) < (List.length a.ns : Int)) (fun hc17 => ?_) fun hc17 => ?_
            ·
             refine AMx.skip ?_
             refine gQ ?_
             refine AMx.block ?_
             refine gQ ?_
             refine gS [] [] 88 [(2, vp 2 0), (5, vc (st (listS (List.take i a.ns)))), (6, vc (i6 (i : Int))), (74, vc (bo (decide (0 < (i : Int)))))] [(2, AObj.row (rwA a))] trivial ?_
             refine gC (0 < (i : Int)) (fun hc18 => ?_) fun hc18 => ?_
             ·
              refine gR [] [List.length (listS (List.take i a.ns) : List UInt8) + List.length ([44] : List UInt8) ≤ maxLen] 88 [(2, vp 2 0), (5, vc (st ((listS (List.take i a.ns)) ++ [44]))), (6, vc (i6 (i : Int)))] [(2, AObj.row (rwA a))] (show List.length (listS (List.take i a.ns) : List UInt8) + List.length ([44] : List UInt8) ≤ maxLen from (by simp only [List.length_append, List.length_cons, List.length_nil, maxLen]; first | omega | (first | omega | (have z := fld_n hf (by omega); omega) | (have z := fld_c hf (by omega); omega) | (have z := fld_k hf (by unfold LetI at hc; omega); omega) | (have z := (fld_l hf (by omega)).2 _ (Lib.getD_mem 0 a.ns i (by omega)); omega) | (have z := listr_len a.ns i; have z2 := num_le3 (List.getD a.ns i 0); have z3 := (fld_l hf (by omega)).1; (try simp only [List.length_append, List.length_cons, List.length_nil]); omega)))) ?_
              refine gR [(6, CE.call [] [] (vc (st (numS (List.getD a.ns i 0)))) [])] [(0 : Int) ≤ (i : Int), (i : Int) < List.length a.ns, Spec Tryz.prog 68 [tc (i6 (List.getD a.ns i 0))] (ofH []) (vc (st (numS (List.getD a.ns i 0)))) (ofH []), List.length ((listS (List.take i a.ns)) ++ [44] : List UInt8) + List.length (numS (List.getD a.ns i 0) : List UInt8) ≤ maxLen] 88 [(2, vp 2 0), (5, vc (st (((listS (List.take i a.ns)) ++ [44]) ++ (numS (List.getD a.ns i 0))))), (6, vc (i6 (i : Int)))] [(2, AObj.row (rwA a))] ⟨(show (0 : Int) ≤ (i : Int) from (by omega)), (show (i : Int) < List.length a.ns from (by omega)), (Rnumber_c (List.getD a.ns i 0) (by omega) (by omega)), (show List.length ((listS (List.take i a.ns)) ++ [44] : List UInt8) + List.length (numS (List.getD a.ns i 0) : List UInt8) ≤ maxLen from (by simp only [List.length_append, List.length_cons, List.length_nil, maxLen]; first | omega | (first | omega | (have z := fld_n hf (by omega); omega) | (have z := fld_c hf (by omega); omega) | (have z := fld_k hf (by unfold LetI at hc; omega); omega) | (have z := (fld_l hf (by omega)).2 _ (Lib.getD_mem 0 a.ns i (by omega)); omega) | (have z := listr_len a.ns i; have z2 := num_le3 (List.getD a.ns i 0); have z3 := (fld_l hf (by omega)).1; (try simp only [List.length_append, List.length_cons, List.length_nil]); omega))))⟩ ?_
              refine AMx.blk ?_
              refine gR [] [InR .i64 ((i : Int) + 1)] 88 [(2, vp 2 0), (5, vc (st (((listS (List.take i a.ns)) ++ [44]) ++ (numS (List.getD a.ns i 0))))), (6, vc (i6 ((i : Int) + 1)))] [(2, AObj.row (rwA a))] (show InR .i64 ((i : Int) + 1) from (inR64 (by omega) (by omega))) ?_
              refine AMx.ent_inv (s' := AS.lst 88 [(2, vp 2 0), (5, vc (st (((listS (List.take i a.ns)) ++ [44]) ++ (numS (List.getD a.ns i 0))))), (6, vc (i6 ((i : Int) + 1)))] [(2, AObj.row (rwA a))]) (ent_proj [2, 5, 6] [2]) ?_
              refine AMx.inv ⟨_, ?_, i + 1, ?_, rfl, ?_⟩
              rotate_left
              · omega
              · rw [← listr_step a.ns i (by omega) (by omega)]; rfl
              · omega
             ·
              refine AMx.skip ?_
              refine gR [(6, CE.call [] [] (vc (st (numS (List.getD a.ns i 0)))) [])] [(0 : Int) ≤ (i : Int), (i : Int) < List.length a.ns, Spec Tryz.prog 68 [tc (i6 (List.getD a.ns i 0))] (ofH []) (vc (st (numS (List.getD a.ns i 0)))) (ofH []), List.length (listS (List.take i a.ns) : List UInt8) + List.length (numS (List.getD a.ns i 0) : List UInt8) ≤ maxLen] 88 [(2, vp 2 0), (5, vc (st ((listS (List.take i a.ns)) ++ (numS (List.getD a.ns i 0))))), (6, vc (i6 (i : Int)))] [(2, AObj.row (rwA a))] ⟨(show (0 : Int) ≤ (i : Int) from (by omega)), (show (i : Int) < List.length a.ns from (by omega)), (Rnumber_c (List.getD a.ns i 0) (by omega) (by omega)), (show List.length (listS (List.take i a.ns) : List UInt8) + List.length (numS (List.getD a.ns i 0) : List UInt8) ≤ maxLen from (by simp only [List.length_append, List.length_cons, List.length_nil, maxLen]; first | omega | (first | omega | (have z := fld_n hf (by omega); omega) | (have z := fld_c hf (by omega); omega) | (have z := fld_k hf (by unfold LetI at hc; omega); omega) | (have z := (fld_l hf (by omega)).2 _ (Lib.getD_mem 0 a.ns i (by omega)); omega) | (have z := listr_len a.ns i; have z2 := num_le3 (List.getD a.ns i 0); have z3 := (fld_l hf (by omega)).1; (try simp only [List.length_append, List.length_cons, List.length_nil]); omega))))⟩ ?_
              refine AMx.blk ?_
              refine gR [] [InR .i64 ((i : Int) + 1)] 88 [(2, vp 2 0), (5, vc (st ((listS (List.take i a.ns)) ++ (numS (List.getD a.ns i 0))))), (6, vc (i6 ((i : Int) + 1)))] [(2, AObj.row (rwA a))] (show InR .i64 ((i : Int) + 1) from (inR64 (by omega) (by omega))) ?_
              refine AMx.ent_inv (s' := AS.lst 88 [(2, vp 2 0), (5, vc (st ((listS (List.take i a.ns)) ++ (numS (List.getD a.ns i 0))))), (6, vc (i6 ((i : Int) + 1)))] [(2, AObj.row (rwA a))]) (ent_proj [2, 5, 6] [2]) ?_
              refine AMx.inv ⟨_, ?_, i + 1, ?_, rfl, ?_⟩
              rotate_left
              · omega
              · obtain rfl : i = 0 := (by omega); rw [← listr_first a.ns (by omega)]; rfl
              · omega
            ·
             refine AMx.exit ?_
             refine AMx.code_exit ?_
             refine AMx.inv_exit ?_
             refine AMx.blk_exit ?_
             rw [show List.take i a.ns = a.ns from List.take_of_length_le (by omega)]
             refine gQ ?_
             refine gS [] [] 88 [(5, vc (st (listS a.ns))), (86, vc (bo (decide (listS a.ns = []))))] [] trivial ?_
             refine gC (listS a.ns = []) (fun hc19 => ?_) fun hc19 => ?_
             ·
              refine gS [] [] 88 [(4, vc (st [45]))] [] trivial ?_
              exact gT (vc (st [45])) (by rw [show layA a c = [45] from by unfold LetI at hc; rcases hc with rfl | rfl | rfl | rfl | rfl | rfl | rfl | rfl | rfl | rfl | rfl <;> first | (exfalso; omega) | (have z := fld_c hf rfl; show (if a.cas = -1 then [45] else numS a.cas) = _; exact if_pos (by omega)) | (show orN _ = _; unfold orN; exact if_pos (by assumption))])
             ·
              refine AMx.skip ?_
              refine gS [] [] 88 [(4, vc (st (listS a.ns)))] [] trivial ?_
              exact gT (vc (st (listS a.ns))) (by rw [show layA a c = listS a.ns from by first | (exfalso; omega) | (subst_vars; show orN _ = _; unfold orN; exact if_neg (by assumption))])
           ·
            refine AMx.skip ?_
            refine gQ ?_
            refine gS [] [] 88 [(5, vc (st (hexS a.data))), (86, vc (bo (decide (hexS a.data = []))))] [] trivial ?_
            refine gC (hexS a.data = []) (fun hc20 => ?_) fun hc20 => ?_
            ·
             refine gS [] [] 88 [(4, vc (st [45]))] [] trivial ?_
             exact gT (vc (st [45])) (by rw [show layA a c = [45] from by unfold LetI at hc; rcases hc with rfl | rfl | rfl | rfl | rfl | rfl | rfl | rfl | rfl | rfl | rfl <;> first | (exfalso; omega) | (have z := fld_c hf rfl; show (if a.cas = -1 then [45] else numS a.cas) = _; exact if_pos (by omega)) | (show orN _ = _; unfold orN; exact if_pos (by assumption))])
            ·
             refine AMx.skip ?_
             refine gS [] [] 88 [(4, vc (st (hexS a.data)))] [] trivial ?_
             exact gT (vc (st (hexS a.data))) (by rw [show layA a c = hexS a.data from by first | (exfalso; omega) | (subst_vars; show orN _ = _; unfold orN; exact if_neg (by assumption))])
         ·
          refine AMx.skip ?_
          refine gQ ?_
          refine gS [] [] 88 [(1, vc (u8 c)), (2, vp 2 0), (5, vc (st [])), (57, vc (bo (decide (c = 114))))] [(2, AObj.row (rwA a))] trivial ?_
          refine gC (c = 114) (fun hc21 => ?_) fun hc21 => ?_
          ·
           refine gR [(2, CE.call [] [] (AV.tup [tc (st ((Policy.textP a.rules).1)), tc (i6 ((Policy.textP a.rules).2))]) [])] [Spec Tryz.prog 70 [tc (Policy.slP a.rules)] (ofH []) (AV.tup [tc (st ((Policy.textP a.rules).1)), tc (i6 ((Policy.textP a.rules).2))]) (ofH [])] 88 [(1, vc (u8 c)), (2, vp 2 0), (5, vc (st ((Policy.textP a.rules).1)))] [(2, AObj.row (rwA a))] (Policy.RText_c a.rules) ?_
           refine gQ ?_
           refine gS [] [] 88 [(2, vp 2 0), (5, vc (st ((Policy.textP a.rules).1))), (65, vc (bo (decide (c = 108))))] [(2, AObj.row (rwA a))] trivial ?_
           refine gC (c = 108) (fun hc22 => ?_) fun hc22 => ?_
           ·
            refine gS [] [] 88 [(2, vp 2 0), (5, vc (st ((Policy.textP a.rules).1))), (6, vc (i6 0))] [(2, AObj.row (rwA a))] trivial ?_
            refine AMx.block ?_
            refine AMx.ent (s' := AS.lst 88 [(2, vp 2 0), (5, vc (st ((Policy.textP a.rules).1))), (6, vc (i6 0))] [(2, AObj.row (rwA a))]) (ent_proj [2, 5, 6] [2]) ?_
            refine AMx.loop (fun mm ss => ∃ (i : Nat), (i ≤ a.ns.length) ∧ mm = a.ns.length - i ∧ ss = AS.lst 88 [(2, vp 2 0), (5, vc (st (listS (List.take i a.ns)))), (6, vc (i6 (i : Int)))] [(2, AObj.row (rwA a))]) ⟨0, ?_, rfl, ?_⟩ ?_
            · omega
            · first | (exfalso; omega) | rfl
            rintro mm ss ⟨i, hI, rfl, rfl⟩
            refine gQ ?_
            refine gS [] [] 88 [(2, vp 2 0), (5, vc (st (listS (List.take i a.ns)))), (6, vc (i6 (i : Int))), (70, vc (bo (decide ((i : Int) < (List.length a.ns : Int)))))] [(2, AObj.row (rwA a))] trivial ?_
            refine gC ((i : Int) < (List.length a.ns : Int)) (fun hc23 => ?_) fun hc23 => ?_
            ·
             refine AMx.skip ?_
             refine gQ ?_
             refine AMx.block ?_
             refine gQ ?_
             refine gS [] [] 88 [(2, vp 2 0), (5, vc (st (listS (List.take i a.ns)))), (6, vc (i6 (i : Int))), (74, vc (bo (decide (0 < (i : Int)))))] [(2, AObj.row (rwA a))] trivial ?_
             refine gC (0 < (i : Int)) (fun hc24 => ?_) fun hc24 => ?_
             ·
              refine gR [] [List.length (listS (List.take i a.ns) : List UInt8) + List.length ([44] : List UInt8) ≤ maxLen] 88 [(2, vp 2 0), (5, vc (st ((listS (List.take i a.ns)) ++ [44]))), (6, vc (i6 (i : Int)))] [(2, AObj.row (rwA a))] (show List.length (listS (List.take i a.ns) : List UInt8) + List.length ([44] : List UInt8) ≤ maxLen from (by simp only [List.length_append, List.length_cons, List.length_nil, maxLen]; first | omega | (first | omega | (have z := fld_n hf (by omega); omega) | (have z := fld_c hf (by omega); omega) | (have z := fld_k hf (by unfold LetI at hc; omega); omega) | (have z := (fld_l hf (by omega)).2 _ (Lib.getD_mem 0 a.ns i (by omega)); omega) | (have z := listr_len a.ns i; have z2 := num_le3 (List.getD a.ns i 0); have z3 := (fld_l hf (by omega)).1; (try simp only [List.length_append, List.length_cons, List.length_nil]); omega)))) ?_
              refine gR [(6, CE.call [] [] (vc (st (numS (List.getD a.ns i 0)))) [])] [(0 : Int) ≤ (i : Int), (i : Int) < List.length a.ns, Spec Tryz.prog 68 [tc (i6 (List.getD a.ns i 0))] (ofH []) (vc (st (numS (List.getD a.ns i 0)))) (ofH []), List.length ((listS (List.take i a.ns)) ++ [44] : List UInt8) + List.length (numS (List.getD a.ns i 0) : List UInt8) ≤ maxLen] 88 [(2, vp 2 0), (5, vc (st (((listS (List.take i a.ns)) ++ [44]) ++ (numS (List.getD a.ns i 0))))), (6, vc (i6 (i : Int)))] [(2, AObj.row (rwA a))] ⟨(show (0 : Int) ≤ (i : Int) from (by omega)), (show (i : Int) < List.length a.ns from (by omega)), (Rnumber_c (List.getD a.ns i 0) (by omega) (by omega)), (show List.length ((listS (List.take i a.ns)) ++ [44] : List UInt8) + List.length (numS (List.getD a.ns i 0) : List UInt8) ≤ maxLen from (by simp only [List.length_append, List.length_cons, List.length_nil, maxLen]; first | omega | (first | omega | (have z := fld_n hf (by omega); omega) | (have z := fld_c hf (by omega); omega) | (have z := fld_k hf (by unfold LetI at hc; omega); omega) | (have z := (fld_l hf (by omega)).2 _ (Lib.getD_mem 0 a.ns i (by omega)); omega) | (have z := listr_len a.ns i; have z2 := num_le3 (List.getD a.ns i 0); have z3 := (fld_l hf (by omega)).1; (try simp only [List.length_append, List.length_cons, List.length_nil]); omega))))⟩ ?_
              refine AMx.blk ?_
              refine gR [] [InR .i64 ((i : Int) + 1)] 88 [(2, vp 2 0), (5, vc (st (((listS (List.take i a.ns)) ++ [44]) ++ (numS (List.getD a.ns i 0))))), (6, vc (i6 ((i : Int) + 1)))] [(2, AObj.row (rwA a))] (show InR .i64 ((i : Int) + 1) from (inR64 (by omega) (by omega))) ?_
              refine AMx.ent_inv (s' := AS.lst 88 [(2, vp 2 0), (5, vc (st (((listS (List.take i a.ns)) ++ [44]) ++ (numS (List.getD a.ns i 0))))), (6, vc (i6 ((i : Int) + 1)))] [(2, AObj.row (rwA a))]) (ent_proj [2, 5, 6] [2]) ?_
              refine AMx.inv ⟨_, ?_, i + 1, ?_, rfl, ?_⟩
              rotate_left
              · omega
              · rw [← listr_step a.ns i (by omega) (by omega)]; rfl
              · omega
             ·
              refine AMx.skip ?_
              refine gR [(6, CE.call [] [] (vc (st (numS (List.getD a.ns i 0)))) [])] [(0 : Int) ≤ (i : Int), (i : Int) < List.length a.ns, Spec Tryz.prog 68 [tc (i6 (List.getD a.ns i 0))] (ofH []) (vc (st (numS (List.getD a.ns i 0)))) (ofH []), List.length (listS (List.take i a.ns) : List UInt8) + List.length (numS (List.getD a.ns i 0) : List UInt8) ≤ maxLen] 88 [(2, vp 2 0), (5, vc (st ((listS (List.take i a.ns)) ++ (numS (List.getD a.ns i 0))))), (6, vc (i6 (i : Int)))] [(2, AObj.row (rwA a))] ⟨(show (0 : Int) ≤ (i : Int) from (by omega)), (show (i : Int) < List.length a.ns from (by omega)), (Rnumber_c (List.getD a.ns i 0) (by omega) (by omega)), (show List.length (listS (List.take i a.ns) : List UInt8) + List.length (numS (List.getD a.ns i 0) : List UInt8) ≤ maxLen from (by simp only [List.length_append, List.length_cons, List.length_nil, maxLen]; first | omega | (first | omega | (have z := fld_n hf (by omega); omega) | (have z := fld_c hf (by omega); omega) | (have z := fld_k hf (by unfold LetI at hc; omega); omega) | (have z := (fld_l hf (by omega)).2 _ (Lib.getD_mem 0 a.ns i (by omega)); omega) | (have z := listr_len a.ns i; have z2 := num_le3 (List.getD a.ns i 0); have z3 := (fld_l hf (by omega)).1; (try simp only [List.length_append, List.length_cons, List.length_nil]); omega))))⟩ ?_
              refine AMx.blk ?_
              refine gR [] [InR .i64 ((i : Int) + 1)] 88 [(2, vp 2 0), (5, vc (st ((listS (List.take i a.ns)) ++ (numS (List.getD a.ns i 0))))), (6, vc (i6 ((i : Int) + 1)))] [(2, AObj.row (rwA a))] (show InR .i64 ((i : Int) + 1) from (inR64 (by omega) (by omega))) ?_
              refine AMx.ent_inv (s' := AS.lst 88 [(2, vp 2 0), (5, vc (st ((listS (List.take i a.ns)) ++ (numS (List.getD a.ns i 0))))), (6, vc (i6 ((i : Int) + 1)))] [(2, AObj.row (rwA a))]) (ent_proj [2, 5, 6] [2]) ?_
              refine AMx.inv ⟨_, ?_, i + 1, ?_, rfl, ?_⟩
              rotate_left
              · omega
              · obtain rfl : i = 0 := (by omega); rw [← listr_first a.ns (by omega)]; rfl
              · omega
            ·
             refine AMx.exit ?_
             refine AMx.code_exit ?_
             refine AMx.inv_exit ?_
             refine AMx.blk_exit ?_
             rw [show List.take i a.ns = a.ns from List.take_of_length_le (by omega)]
             refine gQ ?_
             refine gS [] [] 88 [(5, vc (st (listS a.ns))), (86, vc (bo (decide (listS a.ns = []))))] [] trivial ?_
             refine gC (listS a.ns = []) (fun hc25 => ?_) fun hc25 => ?_
             ·
              refine gS [] [] 88 [(4, vc (st [45]))] [] trivial ?_
              exact gT (vc (st [45])) (by rw [show layA a c = [45] from by unfold LetI at hc; rcases hc with rfl | rfl | rfl | rfl | rfl | rfl | rfl | rfl | rfl | rfl | rfl <;> first | (exfalso; omega) | (have z := fld_c hf rfl; show (if a.cas = -1 then [45] else numS a.cas) = _; exact if_pos (by omega)) | (show orN _ = _; unfold orN; exact if_pos (by assumption))])
             ·
              refine AMx.skip ?_
              refine gS [] [] 88 [(4, vc (st (listS a.ns)))] [] trivial ?_
              exact gT (vc (st (listS a.ns))) (by rw [show layA a c = listS a.ns from by first | (exfalso; omega) | (subst_vars; show orN _ = _; unfold orN; exact if_neg (by assumption))])
           ·
            refine AMx.skip ?_
            refine gQ ?_
            refine gS [] [] 88 [(5, vc (st ((Policy.textP a.rules).1))), (86, vc (bo (decide ((Policy.textP a.rules).1 = []))))] [] trivial ?_
            refine gC ((Policy.textP a.rules).1 = []) (fun hc26 => ?_) fun hc26 => ?_
            ·
             refine gS [] [] 88 [(4, vc (st [45]))] [] trivial ?_
             exact gT (vc (st [45])) (by rw [show layA a c = [45] from by unfold LetI at hc; rcases hc with rfl | rfl | rfl | rfl | rfl | rfl | rfl | rfl | rfl | rfl | rfl <;> first | (exfalso; omega) | (have z := fld_c hf rfl; show (if a.cas = -1 then [45] else numS a.cas) = _; exact if_pos (by omega)) | (show orN _ = _; unfold orN; exact if_pos (by assumption))])
            ·
             refine AMx.skip ?_
             refine gS [] [] 88 [(4, vc (st ((Policy.textP a.rules).1)))] [] trivial ?_
             exact gT (vc (st ((Policy.textP a.rules).1))) (by rw [show layA a c = (Policy.textP a.rules).1 from by first | (exfalso; omega) | (subst_vars; show orN _ = _; unfold orN; exact if_neg (by assumption))])
          ·
           refine AMx.skip ?_
           refine gQ ?_
           refine gS [] [] 88 [(2, vp 2 0), (5, vc (st [])), (65, vc (bo (decide (c = 108))))] [(2, AObj.row (rwA a))] trivial ?_
           refine gC (c = 108) (fun hc27 => ?_) fun hc27 => ?_
           ·
            refine gS [] [] 88 [(2, vp 2 0), (5, vc (st [])), (6, vc (i6 0))] [(2, AObj.row (rwA a))] trivial ?_
            refine AMx.block ?_
            refine AMx.ent (s' := AS.lst 88 [(2, vp 2 0), (5, vc (st [])), (6, vc (i6 0))] [(2, AObj.row (rwA a))]) (ent_proj [2, 5, 6] [2]) ?_
            refine AMx.loop (fun mm ss => ∃ (i : Nat), (i ≤ a.ns.length) ∧ mm = a.ns.length - i ∧ ss = AS.lst 88 [(2, vp 2 0), (5, vc (st (listS (List.take i a.ns)))), (6, vc (i6 (i : Int)))] [(2, AObj.row (rwA a))]) ⟨0, ?_, rfl, ?_⟩ ?_
            · omega
            · first | (exfalso; omega) | rfl
            rintro mm ss ⟨i, hI, rfl, rfl⟩
            refine gQ ?_
            refine gS [] [] 88 [(2, vp 2 0), (5, vc (st (listS (List.take i a.ns)))), (6, vc (i6 (i : Int))), (70, vc (bo (decide ((i : Int) < (List.length a.ns : Int)))))] [(2, AObj.row (rwA a))] trivial ?_
            refine gC ((i : Int) < (List.length a.ns : Int)) (fun hc28 => ?_) fun hc28 => ?_
            ·
             refine AMx.skip ?_
             refine gQ ?_
             refine AMx.block ?_
             refine gQ ?_
             refine gS [] [] 88 [(2, vp 2 0), (5, vc (st (listS (List.take i a.ns)))), (6, vc (i6 (i : Int))), (74, vc (bo (decide (0 < (i : Int)))))] [(2, AObj.row (rwA a))] trivial ?_
             refine gC (0 < (i : Int)) (fun hc29 => ?_) fun hc29 => ?_
             ·
              refine gR [] [List.length (listS (List.take i a.ns) : List UInt8) + List.length ([44] : List UInt8) ≤ maxLen] 88 [(2, vp 2 0), (5, vc (st ((listS (List.take i a.ns)) ++ [44]))), (6, vc (i6 (i : Int)))] [(2, AObj.row (rwA a))] (show List.length (listS (List.take i a.ns) : List UInt8) + List.length ([44] : List UInt8) ≤ maxLen from (by simp only [List.length_append, List.length_cons, List.length_nil, maxLen]; first | omega | (first | omega | (have z := fld_n hf (by omega); omega) | (have z := fld_c hf (by omega); omega) | (have z := fld_k hf (by unfold LetI at hc; omega); omega) | (have z := (fld_l hf (by omega)).2 _ (Lib.getD_mem 0 a.ns i (by omega)); omega) | (have z := listr_len a.ns i; have z2 := num_le3 (List.getD a.ns i 0); have z3 := (fld_l hf (by omega)).1; (try simp only [List.length_append, List.length_cons, List.length_nil]); omega)))) ?_
              refine gR [(6, CE.call [] [] (vc (st (numS (List.getD a.ns i 0)))) [])] [(0 : Int) ≤ (i : Int), (i : Int) < List.length a.ns, Spec Tryz.prog 68 [tc (i6 (List.getD a.ns i 0))] (ofH []) (vc (st (numS (List.getD a.ns i 0)))) (ofH []), List.length ((listS (List.take i a.ns)) ++ [44] : List UInt8) + List.length (numS (List.getD a.ns i 0) : List UInt8) ≤ maxLen] 88 [(2, vp 2 0), (5, vc (st (((listS (List.take i a.ns)) ++ [44]) ++ (numS (List.getD a.ns i 0))))), (6, vc (i6 (i : Int)))] [(2, AObj.row (rwA a))] ⟨(show (0 : Int) ≤ (i : Int) from (by omega)), (show (i : Int) < List.length a.ns from (by omega)), (Rnumber_c (List.getD a.ns i 0) (by first | omega | (have z := fld_n hf (by omega); omega) | (have z := fld_c hf (by omega); omega) | (have z := fld_k hf (by unfold LetI at hc; omega); omega) | (have z := (fld_l hf (by omega)).2 _ (Lib.getD_mem 0 a.ns i (by omega)); omega) | (have z := listr_len a.ns i; have z2 := num_le3 (List.getD a.ns i 0); have z3 := (fld_l hf (by omega)).1; (try simp only [List.length_append, List.length_cons, List.length_nil]); omega)) (by first | omega | (have z := fld_n hf (by omega); omega) | (have z := fld_c hf (by omega); omega) | (have z := fld_k hf (by unfold LetI at hc; omega); omega) | (have z := (fld_l hf (by omega)).2 _ (Lib.getD_mem 0 a.ns i (by omega)); omega) | (have z := listr_len a.ns i; have z2 := num_le3 (List.getD a.ns i 0); have z3 := (fld_l hf (by omega)).1; (try simp only [List.length_append, List.length_cons, List.length_nil]); omega))), (show List.length ((listS (List.take i a.ns)) ++ [44] : List UInt8) + List.length (numS (List.getD a.ns i 0) : List UInt8) ≤ maxLen from (by simp only [List.length_append, List.length_cons, List.length_nil, maxLen]; first | omega | (first | omega | (have z := fld_n hf (by omega); omega) | (have z := fld_c hf (by omega); omega) | (have z := fld_k hf (by unfold LetI at hc; omega); omega) | (have z := (fld_l hf (by omega)).2 _ (Lib.getD_mem 0 a.ns i (by omega)); omega) | (have z := listr_len a.ns i; have z2 := num_le3 (List.getD a.ns i 0); have z3 := (fld_l hf (by omega)).1; (try simp only [List.length_append, List.length_cons, List.length_nil]); omega))))⟩ ?_
              refine AMx.blk ?_
              refine gR [] [InR .i64 ((i : Int) + 1)] 88 [(2, vp 2 0), (5, vc (st (((listS (List.take i a.ns)) ++ [44]) ++ (numS (List.getD a.ns i 0))))), (6, vc (i6 ((i : Int) + 1)))] [(2, AObj.row (rwA a))] (show InR .i64 ((i : Int) + 1) from (inR64 (by omega) (by first | omega | (have z := fld_n hf (by omega); omega) | (have z := fld_c hf (by omega); omega) | (have z := fld_k hf (by unfold LetI at hc; omega); omega) | (have z := (fld_l hf (by omega)).2 _ (Lib.getD_mem 0 a.ns i (by omega)); omega) | (have z := listr_len a.ns i; have z2 := num_le3 (List.getD a.ns i 0); have z3 := (fld_l hf (by omega)).1; (try simp only [List.length_append, List.length_cons, List.length_nil]); omega)))) ?_
              refine AMx.ent_inv (s' := AS.lst 88 [(2, vp 2 0), (5, vc (st (((listS (List.take i a.ns)) ++ [44]) ++ (numS (List.getD a.ns i 0))))), (6, vc (i6 ((i : Int) + 1)))] [(2, AObj.row (rwA a))]) (ent_proj [2, 5, 6] [2]) ?_
              refine AMx.inv ⟨_, ?_, i + 1, ?_, rfl, ?_⟩
              rotate_left
              · omega
              · rw [← listr_step a.ns i (by omega) (by omega)]; rfl
              · omega
             ·
              refine AMx.skip ?_
              refine gR [(6, CE.call [] [] (vc (st (numS (List.getD a.ns i 0)))) [])] [(0 : Int) ≤ (i : Int), (i : Int) < List.length a.ns, Spec Tryz.prog 68 [tc (i6 (List.getD a.ns i 0))] (ofH []) (vc (st (numS (List.getD a.ns i 0)))) (ofH []), List.length (listS (List.take i a.ns) : List UInt8) + List.length (numS (List.getD a.ns i 0) : List UInt8) ≤ maxLen] 88 [(2, vp 2 0), (5, vc (st ((listS (List.take i a.ns)) ++ (numS (List.getD a.ns i 0))))), (6, vc (i6 (i : Int)))] [(2, AObj.row (rwA a))] ⟨(show (0 : Int) ≤ (i : Int) from (by omega)), (show (i : Int) < List.length a.ns from (by omega)), (Rnumber_c (List.getD a.ns i 0) (by first | omega | (have z := fld_n hf (by omega); omega) | (have z := fld_c hf (by omega); omega) | (have z := fld_k hf (by unfold LetI at hc; omega); omega) | (have z := (fld_l hf (by omega)).2 _ (Lib.getD_mem 0 a.ns i (by omega)); omega) | (have z := listr_len a.ns i; have z2 := num_le3 (List.getD a.ns i 0); have z3 := (fld_l hf (by omega)).1; (try simp only [List.length_append, List.length_cons, List.length_nil]); omega)) (by first | omega | (have z := fld_n hf (by omega); omega) | (have z := fld_c hf (by omega); omega) | (have z := fld_k hf (by unfold LetI at hc; omega); omega) | (have z := (fld_l hf (by omega)).2 _ (Lib.getD_mem 0 a.ns i (by omega)); omega) | (have z := listr_len a.ns i; have z2 := num_le3 (List.getD a.ns i 0); have z3 := (fld_l hf (by omega)).1; (try simp only [List.length_append, List.length_cons, List.length_nil]); omega))), (show List.length (listS (List.take i a.ns) : List UInt8) + List.length (numS (List.getD a.ns i 0) : List UInt8) ≤ maxLen from (by simp only [List.length_append, List.length_cons, List.length_nil, maxLen]; first | omega | (first | omega | (have z := fld_n hf (by omega); omega) | (have z := fld_c hf (by omega); omega) | (have z := fld_k hf (by unfold LetI at hc; omega); omega) | (have z := (fld_l hf (by omega)).2 _ (Lib.getD_mem 0 a.ns i (by omega)); omega) | (have z := listr_len a.ns i; have z2 := num_le3 (List.getD a.ns i 0); have z3 := (fld_l hf (by omega)).1; (try simp only [List.length_append, List.length_cons, List.length_nil]); omega))))⟩ ?_
              refine AMx.blk ?_
              refine gR [] [InR .i64 ((i : Int) + 1)] 88 [(2, vp 2 0), (5, vc (st ((listS (List.take i a.ns)) ++ (numS (List.getD a.ns i 0))))), (6, vc (i6 ((i : Int) + 1)))] [(2, AObj.row (rwA a))] (show InR .i64 ((i : Int) + 1) from (inR64 (by omega) (by omega))) ?_
              refine AMx.ent_inv (s' := AS.lst 88 [(2, vp 2 0), (5, vc (st ((listS (List.take i a.ns)) ++ (numS (List.getD a.ns i 0))))), (6, vc (i6 ((i : Int) + 1)))] [(2, AObj.row (rwA a))]) (ent_proj [2, 5, 6] [2]) ?_
              refine AMx.inv ⟨_, ?_, i + 1, ?_, rfl, ?_⟩
              rotate_left
              · omega
              · obtain rfl : i = 0 := (by omega); rw [← listr_first a.ns (by omega)]; rfl
              · omega
            ·
             refine AMx.exit ?_
             refine AMx.code_exit ?_
             refine AMx.inv_exit ?_
             refine AMx.blk_exit ?_
             rw [show List.take i a.ns = a.ns from List.take_of_length_le (by omega)]
             refine gQ ?_
             refine gS [] [] 88 [(5, vc (st (listS a.ns))), (86, vc (bo (decide (listS a.ns = []))))] [] trivial ?_
             refine gC (listS a.ns = []) (fun hc30 => ?_) fun hc30 => ?_
             ·
              refine gS [] [] 88 [(4, vc (st [45]))] [] trivial ?_
              exact gT (vc (st [45])) (by rw [show layA a c = [45] from by unfold LetI at hc; rcases hc with rfl | rfl | rfl | rfl | rfl | rfl | rfl | rfl | rfl | rfl | rfl <;> first | (exfalso; omega) | (have z := fld_c hf rfl; show (if a.cas = -1 then [45] else numS a.cas) = _; exact if_pos (by omega)) | (show orN _ = _; unfold orN; exact if_pos (by assumption))])
             ·
              refine AMx.skip ?_
              refine gS [] [] 88 [(4, vc (st (listS a.ns)))] [] trivial ?_
              exact gT (vc (st (listS a.ns))) (by rw [show layA a c = listS a.ns from by first | (exfalso; omega) | (subst_vars; show orN _ = _; unfold orN; exact if_neg (by assumption))])
           ·
            refine AMx.skip ?_
            refine gQ ?_
            refine gS [] [] 88 [(5, vc (st [])), (86, vc (bo true))] [] trivial ?_
            refine gBt ?_
            refine gS [] [] 88 [(4, vc (st [45]))] [] trivial ?_
            exact gT (vc (st [45])) (by rw [show layA a c = [45] from by unfold LetI at hc; rcases hc with rfl | rfl | rfl | rfl | rfl | rfl | rfl | rfl | rfl | rfl | rfl <;> first | (exfalso; omega) | (have z := fld_c hf rfl; show (if a.cas = -1 then [45] else numS a.cas) = _; exact if_pos (by omega)) | (show orN _ = _; unfold orN; exact if_pos (by assumption))])
end AL.Ask
namespace AL.Ask
open Go Go.Proofs AL
set_option linter.unusedVariables false
set_option linter.unusedSimpArgs false
theorem f22_body : Tryz.f22.body = some (.seq (.region 0 (rg Tryz.f22 0) false) (.seq (.region 1 (rg Tryz.f22 1) false) (.seq (.region 2 (rg Tryz.f22 2) false) (.seq (.seq (.region 3 (rg Tryz.f22 3) false) (.block 0 (.loop (.seq (.seq (.region 4 (rg Tryz.f22 4) false) (.cond (.tmp 17) (.skip) (.exit 0))) (.seq (.block 1 (.region 6 (rg Tryz.f22 6) true)) (.region 5 (rg Tryz.f22 5) false)))))) (.seq (.region 7 (rg Tryz.f22 7) false) (.ret)))))) := by kernel_rfl
set_option maxRecDepth 100000 in
set_option maxHeartbeats 8000000 in
theorem words_c (a : AskV) (h0 : 1 ≤ a.op) (h1 : a.op ≤ 18) (hf : fieldsC a (kindS a.op) = 0) (hb : a.data.length ≤ 100000) : Pure Tryz.prog 22 [TV.agg (rwA a)] (vc (st (lineA a))) := by
 refine Pure.of_body Tryz.func22 f22_body (by kernel_rfl) Tryz.ntmps22 (by kernel_rfl) (by kernel_rfl) ?_
 refine gS [] [] 29 [(1, vp 1 0)] [(1, AObj.row (rwA a))] trivial ?_
 refine gS [(3, CE.call [] [] (vc (st (wordS a.op))) [])] [Spec Tryz.prog 37 [tc (i6 a.op)] (ofH []) (vc (st (wordS a.op))) (ofH [])] 29 [(1, vp 1 0), (3, vc (st (wordS a.op)))] [(1, AObj.row (rwA a))] (Rword_c a.op (by omega) (by omega)) ?_
 refine gS [(3, CE.call [] [] (vc (st (kindS a.op))) [])] [Spec Tryz.prog 26 [tc (i6 a.op)] (ofH []) (vc (st (kindS a.op))) (ofH [])] 29 [(1, vp 1 0), (3, vc (st (wordS a.op))), (4, vc (st (kindS a.op)))] [(1, AObj.row (rwA a))] (Rkinds_c a.op (by omega) (by omega)) ?_
 refine gQ ?_
 refine gS [] [] 29 [(1, vp 1 0), (3, vc (st (wordS a.op))), (4, vc (st (kindS a.op))), (5, vc (i6 0))] [(1, AObj.row (rwA a))] trivial ?_
 refine AMx.block ?_
 refine AMx.ent (s' := AS.lst 29 [(1, vp 1 0), (3, vc (st (wordS a.op))), (4, vc (st (kindS a.op))), (5, vc (i6 0))] [(1, AObj.row (rwA a))]) (ent_proj [1, 3, 4, 5] [1]) ?_
 refine AMx.loop (fun mm ss => ∃ (i : Nat), (i ≤ (kindS a.op).length) ∧ mm = (kindS a.op).length - i ∧ ss = AS.lst 29 [(1, vp 1 0), (3, vc (st (lineF a (List.take i (kindS a.op))))), (4, vc (st (kindS a.op))), (5, vc (i6 (i : Int)))] [(1, AObj.row (rwA a))]) ⟨0, ?_, rfl, ?_⟩ ?_
 · omega
 · rw [line_0]; rfl
 rintro mm ss ⟨i, hI, rfl, rfl⟩
 refine gQ ?_
 refine gS [] [] 29 [(1, vp 1 0), (3, vc (st (lineF a (List.take i (kindS a.op))))), (4, vc (st (kindS a.op))), (5, vc (i6 (i : Int))), (17, vc (bo (decide ((i : Int) < (List.length (kindS a.op : List UInt8) : Int)))))] [(1, AObj.row (rwA a))] trivial ?_
 refine gC ((i : Int) < (List.length (kindS a.op : List UInt8) : Int)) (fun hc1 => ?_) fun hc1 => ?_
 ·
  refine AMx.skip ?_
  refine gQ ?_
  refine AMx.block ?_
  refine gX [(6, CE.call [] [] (vc (st (layA a ((List.getD (kindS a.op) i 0).toNat : Int)))) [])] [(2, [1])] [List.length (lineF a (List.take i (kindS a.op)) : List UInt8) + List.length ([32] : List UInt8) ≤ maxLen, (0 : Int) ≤ (i : Int), (i : Int) < List.length (kindS a.op : List UInt8), Spec Tryz.prog 42 [TV.agg (rwA a), tc (u8 ((List.getD (kindS a.op) i 0).toNat : Int))] (ofH []) (vc (st (layA a ((List.getD (kindS a.op) i 0).toNat : Int)))) (ofH []), List.length ((lineF a (List.take i (kindS a.op))) ++ [32] : List UInt8) + List.length (layA a ((List.getD (kindS a.op) i 0).toNat : Int) : List UInt8) ≤ maxLen] 29 [(1, vp 1 0), (3, vc (st (((lineF a (List.take i (kindS a.op))) ++ [32]) ++ (layA a ((List.getD (kindS a.op) i 0).toNat : Int))))), (4, vc (st (kindS a.op))), (5, vc (i6 (i : Int)))] [(1, AObj.row (rwA a))] mixed ⟨(show List.length (lineF a (List.take i (kindS a.op)) : List UInt8) + List.length ([32] : List UInt8) ≤ maxLen from (by simp only [List.length_append, List.length_cons, List.length_nil, maxLen]; first | omega | (first | omega | (have z := (kind_len a.op).1; omega) | (have z1 := line_len hf i; have z2 := lay_len ((kind_let a.op).1 _ (Lib.getD_mem 0 _ i (by omega))) (fields_all hf _ (Lib.getD_mem 0 _ i (by omega))); (try simp only [List.length_append, List.length_cons, List.length_nil]); omega)))), (show (0 : Int) ≤ (i : Int) from (by omega)), (show (i : Int) < List.length (kindS a.op : List UInt8) from (by omega)), (Rlay_c a ((List.getD (kindS a.op) i 0).toNat : Int) (by exact (kind_let a.op).1 _ (Lib.getD_mem 0 _ i (by omega))) (by exact fields_all hf _ (Lib.getD_mem 0 _ i (by omega))) (by omega)), (show List.length ((lineF a (List.take i (kindS a.op))) ++ [32] : List UInt8) + List.length (layA a ((List.getD (kindS a.op) i 0).toNat : Int) : List UInt8) ≤ maxLen from (by simp only [List.length_append, List.length_cons, List.length_nil, maxLen]; first | omega | (first | omega | (have z := (kind_len a.op).1; omega) | (have z1 := line_len hf i; have z2 := lay_len ((kind_let a.op).1 _ (Lib.getD_mem 0 _ i (by omega))) (fields_all hf _ (Lib.getD_mem 0 _ i (by omega))); (try simp only [List.length_append, List.length_cons, List.length_nil]); omega))))⟩ ?_
  refine AMx.blk ?_
  refine gR [] [InR .i64 ((i : Int) + 1)] 29 [(1, vp 1 0), (3, vc (st (((lineF a (List.take i (kindS a.op))) ++ [32]) ++ (layA a ((List.getD (kindS a.op) i 0).toNat : Int))))), (4, vc (st (kindS a.op))), (5, vc (i6 ((i : Int) + 1)))] [(1, AObj.row (rwA a))] (show InR .i64 ((i : Int) + 1) from (inR64 (by omega) (by first | omega | (have z := (kind_len a.op).1; omega) | (have z1 := line_len hf i; have z2 := lay_len ((kind_let a.op).1 _ (Lib.getD_mem 0 _ i (by omega))) (fields_all hf _ (Lib.getD_mem 0 _ i (by omega))); (try simp only [List.length_append, List.length_cons, List.length_nil]); omega)))) ?_
  refine AMx.ent_inv (s' := AS.lst 29 [(1, vp 1 0), (3, vc (st (((lineF a (List.take i (kindS a.op))) ++ [32]) ++ (layA a ((List.getD (kindS a.op) i 0).toNat : Int))))), (4, vc (st (kindS a.op))), (5, vc (i6 ((i : Int) + 1)))] [(1, AObj.row (rwA a))]) (ent_proj [1, 3, 4, 5] [1]) ?_
  refine AMx.inv ⟨_, ?_, i + 1, ?_, rfl, ?_⟩
  rotate_left
  · omega
  · rw [← line_step a (kindS a.op) i (by omega), ← List.append_assoc]; rfl
  · omega
 ·
  refine AMx.exit ?_
  refine AMx.code_exit ?_
  refine AMx.inv_exit ?_
  refine AMx.blk_exit ?_
  rw [show List.take i (kindS a.op) = kindS a.op from List.take_of_length_le (by omega)]
  refine gS [] [] 29 [(2, vc (st (lineF a (kindS a.op))))] [] trivial ?_
  exact gT (vc (st (lineF a (kindS a.op)))) rfl
end AL.Ask
namespace AL.Ask
open Go Go.Proofs AL
set_option linter.unusedVariables false
set_option linter.unusedSimpArgs false
theorem f11_body : Tryz.f11.body = some (.seq (.region 0 (rg Tryz.f11 0) false) (.seq (.seq (.region 1 (rg Tryz.f11 1) false) (.cond (.tmp 13) (.seq (.region 2 (rg Tryz.f11 2) false) (.ret)) (.skip))) (.seq (.region 3 (rg Tryz.f11 3) false) (.seq (.seq (.region 4 (rg Tryz.f11 4) false) (.block 0 (.loop (.seq (.seq (.region 5 (rg Tryz.f11 5) false) (.cond (.tmp 21) (.skip) (.exit 0))) (.seq (.block 1 (.seq (.region 7 (rg Tryz.f11 7) true) (.seq (.region 8 (rg Tryz.f11 8) false) (.cond (.tmp 30) (.seq (.region 9 (rg Tryz.f11 9) false) (.ret)) (.skip))))) (.region 6 (rg Tryz.f11 6) false)))))) (.seq (.seq (.region 10 (rg Tryz.f11 10) false) (.cond (.tmp 34) (.seq (.region 11 (rg Tryz.f11 11) false) (.ret)) (.skip))) (.seq (.seq (.region 12 (rg Tryz.f11 12) false) (.cond (.tmp 38) (.seq (.region 13 (rg Tryz.f11 13) false) (.ret)) (.skip))) (.seq (.region 14 (rg Tryz.f11 14) false) (.ret)))))))) := by kernel_rfl
set_option maxRecDepth 100000 in
set_option maxHeartbeats 8000000 in
theorem RCheck_c (a : AskV) (hb : a.data.length ≤ 100000) : Pure Tryz.prog 11 [TV.agg (rwA a)] (vc (i6 (checkA a))) := by
 refine Pure.of_body Tryz.func11 f11_body (by kernel_rfl) Tryz.ntmps11 (by kernel_rfl) (by kernel_rfl) ?_
 refine gS [] [] 39 [(1, vp 1 0)] [(1, AObj.row (rwA a))] trivial ?_
 refine gQ ?_
 refine gS [] [((decide (a.op < 1)) = false) → allP [], ((decide (a.op < 1)) = false) → allP [(decide (a.op < 1)) = false], ((decide (a.op < 1)) = false) → allP [(decide (a.op < 1)) = false], (decide (a.op < 1)) = false → allP [(decide (a.op < 1)) = false]] 39 [(1, vp 1 0), (13, vc (bo ((decide (a.op < 1)) || (decide (18 < a.op)))))] [(1, AObj.row (rwA a))] ⟨(fun _ => trivial), (fun hp => hp), (fun hp => hp), (fun hp2 => (by first | exact hp2 | exact ⟨hp, hp2⟩))⟩ ?_
 refine gB (((decide (a.op < 1)) || (decide (18 < a.op)))) (fun hc1 => ?_) fun hc1 => ?_
 ·
  try simp only [xT, xF, xO, xP] at hc1
  refine gS [] [] 39 [(2, vc (i6 22))] [] trivial ?_
  exact gT (vc (i6 22)) (by rw [show checkA a = 22 from check_22 (word_nil.2 (by omega))])
 ·
  try simp only [xT, xF, xO, xP] at hc1
  refine AMx.skip ?_
  refine gS [(3, CE.call [] [] (vc (st (kindS a.op))) [])] [Spec Tryz.prog 26 [tc (i6 a.op)] (ofH []) (vc (st (kindS a.op))) (ofH [])] 39 [(1, vp 1 0), (3, vc (st (kindS a.op)))] [(1, AObj.row (rwA a))] (Rkinds_c a.op (by omega) (by omega)) ?_
  refine gQ ?_
  refine gS [] [] 39 [(1, vp 1 0), (3, vc (st (kindS a.op))), (4, vc (i6 0))] [(1, AObj.row (rwA a))] trivial ?_
  refine AMx.block ?_
  refine AMx.ent (s' := AS.lst 39 [(1, vp 1 0), (3, vc (st (kindS a.op))), (4, vc (i6 0))] [(1, AObj.row (rwA a))]) (ent_proj [1, 3, 4] [1]) ?_
  refine AMx.loop (fun mm ss => ∃ (i : Nat), (i ≤ (kindS a.op).length ∧ FieldsAt a (kindS a.op) i) ∧ mm = (kindS a.op).length - i ∧ ss = AS.lst 39 [(1, vp 1 0), (3, vc (st (kindS a.op))), (4, vc (i6 (i : Int)))] [(1, AObj.row (rwA a))]) ⟨0, ?_, rfl, ?_⟩ ?_
  · exact ⟨Nat.zero_le _, fields_0 a _⟩
  · rfl
  rintro mm ss ⟨i, ⟨hI, hN⟩, rfl, rfl⟩
  refine gQ ?_
  refine gS [] [] 39 [(1, vp 1 0), (3, vc (st (kindS a.op))), (4, vc (i6 (i : Int))), (21, vc (bo (decide ((i : Int) < (List.length (kindS a.op : List UInt8) : Int)))))] [(1, AObj.row (rwA a))] trivial ?_
  refine gC ((i : Int) < (List.length (kindS a.op : List UInt8) : Int)) (fun hc2 => ?_) fun hc2 => ?_
  ·
   refine AMx.skip ?_
   refine gQ ?_
   refine AMx.block ?_
   refine gY [(4, CE.call [] [] (vc (i6 (fieldS a ((List.getD (kindS a.op) i 0).toNat : Int)))) [])] [(0, [1])] [(0 : Int) ≤ (i : Int), (i : Int) < List.length (kindS a.op : List UInt8), Spec Tryz.prog 27 [TV.agg (rwA a), tc (u8 ((List.getD (kindS a.op) i 0).toNat : Int))] (ofH []) (vc (i6 (fieldS a ((List.getD (kindS a.op) i 0).toNat : Int)))) (ofH [])] 39 [(1, vp 1 0), (3, vc (st (kindS a.op))), (4, vc (i6 (i : Int))), (5, vc (i6 (fieldS a ((List.getD (kindS a.op) i 0).toNat : Int))))] [(1, AObj.row (rwA a))] mixed ⟨(show (0 : Int) ≤ (i : Int) from (by omega)), (show (i : Int) < List.length (kindS a.op : List UInt8) from (by omega)), (Rfield_c a ((List.getD (kindS a.op) i 0).toNat : Int))⟩ ?_
   refine gS [] [] 39 [(1, vp 1 0), (3, vc (st (kindS a.op))), (4, vc (i6 (i : Int))), (5, vc (i6 (fieldS a ((List.getD (kindS a.op) i 0).toNat : Int)))), (30, vc (bo (!decide (fieldS a ((List.getD (kindS a.op) i 0).toNat : Int) = 0))))] [(1, AObj.row (rwA a))] trivial ?_
   refine gN (fieldS a ((List.getD (kindS a.op) i 0).toNat : Int) = 0) (fun hc3 => ?_) fun hc3 => ?_
   ·
    refine gS [] [] 39 [(2, vc (i6 (fieldS a ((List.getD (kindS a.op) i 0).toNat : Int))))] [] trivial ?_
    exact gT (vc (i6 (fieldS a ((List.getD (kindS a.op) i 0).toNat : Int)))) (by rw [show checkA a = fieldS a ((List.getD (kindS a.op) i 0).toNat : Int) from by have hz := fun q => fields_end (a := a) (l := kindS a.op) (k := i) q hN; first | exact check_22 (word_nil.2 (by omega)) | exact check_f (fun q => by have z := word_nil.1 q; omega) (by omega) hN (by assumption) | exact check_2 (fun q => by have z := word_nil.1 q; omega) (hz (by omega)) (by assumption) | exact check_5 (fun q => by have z := word_nil.1 q; omega) (hz (by omega)) (by assumption) (by assumption) | exact check_0 (fun q => by have z := word_nil.1 q; omega) (hz (by omega)) (by assumption) (by assumption)])
   ·
    refine AMx.skip ?_
    refine AMx.blk ?_
    refine gR [] [InR .i64 ((i : Int) + 1)] 39 [(1, vp 1 0), (3, vc (st (kindS a.op))), (4, vc (i6 ((i : Int) + 1)))] [(1, AObj.row (rwA a))] (show InR .i64 ((i : Int) + 1) from (inR64 (by omega) (by first | omega | (have z := (kind_len a.op).1; omega)))) ?_
    refine AMx.ent_inv (s' := AS.lst 39 [(1, vp 1 0), (3, vc (st (kindS a.op))), (4, vc (i6 ((i : Int) + 1)))] [(1, AObj.row (rwA a))]) (ent_proj [1, 3, 4] [1]) ?_
    refine AMx.inv ⟨_, ?_, i + 1, ?_, rfl, ?_⟩
    rotate_left
    · exact ⟨by omega, fields_step (by omega) hN (by omega)⟩
    · rfl
    · omega
  ·
   refine AMx.exit ?_
   refine AMx.code_exit ?_
   refine AMx.inv_exit ?_
   refine AMx.blk_exit ?_
   refine gQ ?_
   refine gS [(1, CE.call [] [] (vc (bo (decide (bareF a (kindS a.op) = askd)))) [])] [Spec Tryz.prog 28 [TV.agg (rwA a)] (ofH []) (vc (bo (decide (bareF a (kindS a.op) = askd)))) (ofH [])] 39 [(1, vp 1 0), (34, vc (bo (!(decide (bareF a (kindS a.op) = askd)))))] [(1, AObj.row (rwA a))] (bare_c a (by omega) (by omega)) ?_
   refine gB (!(decide (bareF a (kindS a.op) = askd))) (fun hc4 => ?_) fun hc4 => ?_
   ·
    try simp only [xT, xF, xN, xM] at hc4
    refine gS [] [] 39 [(2, vc (i6 2))] [] trivial ?_
    exact gT (vc (i6 2)) (by rw [show checkA a = 2 from by have hz := fun q => fields_end (a := a) (l := kindS a.op) (k := i) q hN; first | exact check_22 (word_nil.2 (by omega)) | exact check_f (fun q => by have z := word_nil.1 q; omega) (by omega) hN (by assumption) | exact check_2 (fun q => by have z := word_nil.1 q; omega) (hz (by omega)) (by assumption) | exact check_5 (fun q => by have z := word_nil.1 q; omega) (hz (by omega)) (by assumption) (by assumption) | exact check_0 (fun q => by have z := word_nil.1 q; omega) (hz (by omega)) (by assumption) (by assumption)])
   ·
    try simp only [xT, xF, xN, xM] at hc4
    refine AMx.skip ?_
    refine gQ ?_
    refine gS [(1, CE.call [] [] (vc (st (lineA a))) [])] [Spec Tryz.prog 22 [TV.agg (rwA a)] (ofH []) (vc (st (lineA a))) (ofH [])] 39 [(38, vc (bo (decide (400 < (List.length (lineA a : List UInt8) : Int)))))] [] (words_c a (by omega) (by omega) (by exact fields_end (by omega) hN) (by omega)) ?_
    refine gC (400 < (List.length (lineA a : List UInt8) : Int)) (fun hc5 => ?_) fun hc5 => ?_
    ·
     refine gS [] [] 39 [(2, vc (i6 5))] [] trivial ?_
     exact gT (vc (i6 5)) (by rw [show checkA a = 5 from by have hz := fun q => fields_end (a := a) (l := kindS a.op) (k := i) q hN; first | exact check_22 (word_nil.2 (by omega)) | exact check_f (fun q => by have z := word_nil.1 q; omega) (by omega) hN (by assumption) | exact check_2 (fun q => by have z := word_nil.1 q; omega) (hz (by omega)) (by assumption) | exact check_5 (fun q => by have z := word_nil.1 q; omega) (hz (by omega)) (by assumption) (by assumption) | exact check_0 (fun q => by have z := word_nil.1 q; omega) (hz (by omega)) (by assumption) (by assumption)])
    ·
     refine AMx.skip ?_
     refine gS [] [] 39 [(2, vc (i6 0))] [] trivial ?_
     exact gT (vc (i6 0)) (by rw [show checkA a = 0 from by have hz := fun q => fields_end (a := a) (l := kindS a.op) (k := i) q hN; first | exact check_22 (word_nil.2 (by omega)) | exact check_f (fun q => by have z := word_nil.1 q; omega) (by omega) hN (by assumption) | exact check_2 (fun q => by have z := word_nil.1 q; omega) (hz (by omega)) (by assumption) | exact check_5 (fun q => by have z := word_nil.1 q; omega) (hz (by omega)) (by assumption) (by assumption) | exact check_0 (fun q => by have z := word_nil.1 q; omega) (hz (by omega)) (by assumption) (by assumption)])
theorem f9_body : Tryz.f9.body = some (.seq (.region 0 (rg Tryz.f9 0) false) (.seq (.region 1 (rg Tryz.f9 1) false) (.seq (.seq (.region 2 (rg Tryz.f9 2) false) (.cond (.tmp 8) (.seq (.region 3 (rg Tryz.f9 3) false) (.ret)) (.skip))) (.seq (.region 4 (rg Tryz.f9 4) false) (.ret))))) := by kernel_rfl
set_option maxRecDepth 100000 in
set_option maxHeartbeats 8000000 in
theorem RText_c (a : AskV) (hb : a.data.length ≤ 100000) : Pure Tryz.prog 9 [TV.agg (rwA a)] (AV.tup [tc (st ((textA a).1)), tc (i6 ((textA a).2))]) := by
 refine Pure.of_body Tryz.func9 f9_body (by kernel_rfl) Tryz.ntmps9 (by kernel_rfl) (by kernel_rfl) ?_
 refine gS [] [] 12 [(1, vp 1 0)] [(1, AObj.row (rwA a))] trivial ?_
 refine gS [(1, CE.call [] [] (vc (i6 (checkA a))) [])] [Spec Tryz.prog 11 [TV.agg (rwA a)] (ofH []) (vc (i6 (checkA a))) (ofH [])] 12 [(1, vp 1 0), (4, vc (i6 (checkA a)))] [(1, AObj.row (rwA a))] (RCheck_c a (by omega)) ?_
 refine gQ ?_
 refine gS [] [] 12 [(1, vp 1 0), (4, vc (i6 (checkA a))), (8, vc (bo (!decide (checkA a = 0))))] [(1, AObj.row (rwA a))] trivial ?_
 refine gN (checkA a = 0) (fun hc1 => ?_) fun hc1 => ?_
 ·
  refine gS [] [] 12 [(2, vc (st [])), (3, vc (i6 (checkA a)))] [] trivial ?_
  exact gT (AV.tup [tc (st []), tc (i6 (checkA a))]) (by rw [show textA a = ([], checkA a) from by first | rw [text_no (by assumption)] | rw [text_ok (by assumption)]])
 ·
  refine AMx.skip ?_
  refine gS [(1, CE.call [] [] (vc (st (lineA a))) [])] [Spec Tryz.prog 22 [TV.agg (rwA a)] (ofH []) (vc (st (lineA a))) (ofH [])] 12 [(2, vc (st (lineA a))), (3, vc (i6 0))] [] (words_c a (by first | omega | (have z := (check_ok (by assumption)).1; omega)) (by first | omega | (have z := (check_ok (by assumption)).1; omega)) (by exact (check_ok (by assumption)).2.1) (by omega)) ?_
  exact gT (AV.tup [tc (st (lineA a)), tc (i6 0)]) (by rw [show textA a = (lineA a, 0) from by first | rw [text_no (by assumption)] | rw [text_ok (by assumption)]])
end AL.Ask
namespace AL.Ask
open Go Go.Proofs AL
set_option linter.unusedVariables false
set_option linter.unusedSimpArgs false
theorem f3_body : Tryz.f3.body = some (.seq (.region 0 (rg Tryz.f3 0) false) (.seq (.seq (.region 1 (rg Tryz.f3 1) false) (.cond (.tmp 16) (.seq (.region 2 (rg Tryz.f3 2) false) (.ret)) (.skip))) (.seq (.region 3 (rg Tryz.f3 3) false) (.seq (.region 4 (rg Tryz.f3 4) false) (.seq (.region 5 (rg Tryz.f3 5) true) (.ret)))))) := by kernel_rfl
set_option maxRecDepth 100000 in
set_option maxHeartbeats 8000000 in
theorem AskTexts_c (a b : AskV) : Pure Tryz.prog 3 [TV.agg (rwA a), TV.agg (rwA b)] (vc (bo true)) := by
 refine Pure.of_body Tryz.func3 f3_body (by kernel_rfl) Tryz.ntmps3 (by kernel_rfl) (by kernel_rfl) ?_
 refine gS [] [] 59 [(2, vp 2 0), (3, vp 3 0)] [(2, AObj.row (rwA a)), (3, AObj.row (rwA b))] trivial ?_
 refine gQ ?_
 refine gS [(1, CE.call [] [] (vc (i6 (overA a))) []), (5, CE.call [] [] (vc (i6 (overA b))) [])] [Spec Tryz.prog 5 [TV.agg (rwA a)] (ofH []) (vc (i6 (overA a))) (ofH []), ((decide (0 < overA a)) = false) → allP [], ((decide (0 < overA a)) = false) → allP [(decide (0 < overA a)) = false, Spec Tryz.prog 5 [TV.agg (rwA b)] (ofH []) (vc (i6 (overA b))) (ofH [])], ((decide (0 < overA a)) = false) → allP [(decide (0 < overA a)) = false], (decide (0 < overA a)) = false → allP [(decide (0 < overA a)) = false]] 59 [(2, vp 2 0), (3, vp 3 0), (16, vc (bo ((decide (0 < overA a)) || (decide (0 < overA b)))))] [(2, AObj.row (rwA a)), (3, AObj.row (rwA b))] ⟨(Over_c a), (fun _ => trivial), (fun hp => by have hq := hp; (try simp only [decide_eq_true_eq, decide_eq_false_iff_not, Bool.and_eq_true, Bool.or_eq_true, Bool.and_eq_false_iff, Bool.or_eq_false_iff, Bool.not_eq_true', Bool.not_eq_false', Bool.not_eq_true, Bool.not_eq_false] at hq); exact ⟨hp, (Over_c b)⟩), (fun hp => hp), (fun hp2 => (by first | exact hp2 | exact ⟨hp, hp2⟩))⟩ ?_
 refine gB (((decide (0 < overA a)) || (decide (0 < overA b)))) (fun hc1 => ?_) fun hc1 => ?_
 ·
  try simp only [xT, xF, xO, xP] at hc1
  refine gS [(0, CE.call [] [] (vc (bo true)) [])] [Spec Tryz.prog 6 [] (ofH []) (vc (bo true)) (ofH [])] 59 [(4, vc (bo true))] [] (awake_c) ?_
  exact gT (vc (bo true)) rfl
 ·
  try simp only [xT, xF, xO, xP] at hc1
  refine AMx.skip ?_
  refine gS [(1, CE.call [] [] (AV.t (TV.agg (rwA a))) []), (2, CE.call [] [] (AV.tup [tc (st ((textA a).1)), tc (i6 ((textA a).2))]) [])] [Spec Tryz.prog 8 [TV.agg (rwA a)] (ofH []) (AV.t (TV.agg (rwA a))) (ofH []), Spec Tryz.prog 7 [TV.agg (rwA a)] (ofH []) (AV.tup [tc (st ((textA a).1)), tc (i6 ((textA a).2))]) (ofH [])] 59 [(2, vp 2 0), (3, vp 3 0), (5, vc (st ((textA a).1))), (6, vc (i6 ((textA a).2)))] [(2, AObj.row (rwA a)), (3, AObj.row (rwA b))] ⟨(Own_c a (by first | omega | (have q1 := overA_ok (a := a) (by omega); have q2 := (Policy.over_ok q1.2.2.2.2.2.1).1; omega) | (have q1 := overA_ok (a := b) (by omega); have q2 := (Policy.over_ok q1.2.2.2.2.2.1).1; omega))), (Text_c a (by first | omega | (have q1 := overA_ok (a := a) (by omega); have q2 := (Policy.over_ok q1.2.2.2.2.2.1).1; omega) | (have q1 := overA_ok (a := b) (by omega); have q2 := (Policy.over_ok q1.2.2.2.2.2.1).1; omega)))⟩ ?_
  refine gS [(1, CE.call [] [] (AV.tup [tc (st ((textA a).1)), tc (i6 ((textA a).2))]) [])] [Spec Tryz.prog 9 [TV.agg (rwA a)] (ofH []) (AV.tup [tc (st ((textA a).1)), tc (i6 ((textA a).2))]) (ofH [])] 59 [(2, vp 2 0), (3, vp 3 0), (5, vc (st ((textA a).1))), (6, vc (i6 ((textA a).2))), (7, vc (st ((textA a).1))), (8, vc (i6 ((textA a).2)))] [(2, AObj.row (rwA a)), (3, AObj.row (rwA b))] (RText_c a (by first | omega | (have q1 := overA_ok (a := a) (by omega); have q2 := (Policy.over_ok q1.2.2.2.2.2.1).1; omega) | (have q1 := overA_ok (a := b) (by omega); have q2 := (Policy.over_ok q1.2.2.2.2.2.1).1; omega))) ?_
  refine gY [(1, CE.call [] [] (AV.t (TV.agg (rwA a))) []), (2, CE.call [] [] (vc (i6 (checkA a))) []), (4, CE.call [] [] (vc (i6 (checkA a))) []), (18, CE.call [] [] (AV.t (TV.agg (rwA a))) []), (20, CE.call [] [] (AV.t (TV.agg (rwA b))) []), (21, CE.call [] [] (vc (bo (decide (a = b)))) []), (24, CE.call [] [] (vc (bo (decide (a = b)))) []), (28, CE.call [] [] (vc (bo true)) [])] [(0, [2]), (3, [2]), (17, [2]), (19, [3]), (22, [2]), (23, [3])] [Spec Tryz.prog 8 [TV.agg (rwA a)] (ofH []) (AV.t (TV.agg (rwA a))) (ofH []), Spec Tryz.prog 10 [TV.agg (rwA a)] (ofH []) (vc (i6 (checkA a))) (ofH []), Spec Tryz.prog 11 [TV.agg (rwA a)] (ofH []) (vc (i6 (checkA a))) (ofH []), ((decide (checkA a = checkA a)) = true) → allP [], ((decide (checkA a = checkA a)) = true) → allP [], ((decide (checkA a = checkA a)) = true) → allP [(decide (checkA a = checkA a)) = true, (decide (checkA a = checkA a)) = true], (decide (checkA a = checkA a)) = true → allP [(decide (checkA a = checkA a)) = true], (((decide (checkA a = checkA a)) && (decide ((textA a).1 = (textA a).1))) = true) → allP [], (((decide (checkA a = checkA a)) && (decide ((textA a).1 = (textA a).1))) = true) → allP [], (((decide (checkA a = checkA a)) && (decide ((textA a).1 = (textA a).1))) = true) → allP [((decide (checkA a = checkA a)) && (decide ((textA a).1 = (textA a).1))) = true, ((decide (checkA a = checkA a)) && (decide ((textA a).1 = (textA a).1))) = true], ((decide (checkA a = checkA a)) && (decide ((textA a).1 = (textA a).1))) = true → allP [((decide (checkA a = checkA a)) && (decide ((textA a).1 = (textA a).1))) = true], ((((decide (checkA a = checkA a)) && (decide ((textA a).1 = (textA a).1))) && (decide ((textA a).2 = (textA a).2))) = true) → allP [], ((((decide (checkA a = checkA a)) && (decide ((textA a).1 = (textA a).1))) && (decide ((textA a).2 = (textA a).2))) = true) → allP [(((decide (checkA a = checkA a)) && (decide ((textA a).1 = (textA a).1))) && (decide ((textA a).2 = (textA a).2))) = true, Spec Tryz.prog 8 [TV.agg (rwA a)] (ofH []) (AV.t (TV.agg (rwA a))) (ofH [])], ((((decide (checkA a = checkA a)) && (decide ((textA a).1 = (textA a).1))) && (decide ((textA a).2 = (textA a).2))) = true) → allP [], ((((decide (checkA a = checkA a)) && (decide ((textA a).1 = (textA a).1))) && (decide ((textA a).2 = (textA a).2))) = true) → allP [(((decide (checkA a = checkA a)) && (decide ((textA a).1 = (textA a).1))) && (decide ((textA a).2 = (textA a).2))) = true, Spec Tryz.prog 8 [TV.agg (rwA b)] (ofH []) (AV.t (TV.agg (rwA b))) (ofH [])], ((((decide (checkA a = checkA a)) && (decide ((textA a).1 = (textA a).1))) && (decide ((textA a).2 = (textA a).2))) = true) → allP [(((decide (checkA a = checkA a)) && (decide ((textA a).1 = (textA a).1))) && (decide ((textA a).2 = (textA a).2))) = true, (((decide (checkA a = checkA a)) && (decide ((textA a).1 = (textA a).1))) && (decide ((textA a).2 = (textA a).2))) = true, Spec Tryz.prog 12 [TV.agg (rwA a), TV.agg (rwA b)] (ofH []) (vc (bo (decide (a = b)))) (ofH [])], ((((decide (checkA a = checkA a)) && (decide ((textA a).1 = (textA a).1))) && (decide ((textA a).2 = (textA a).2))) = true) → allP [], ((((decide (checkA a = checkA a)) && (decide ((textA a).1 = (textA a).1))) && (decide ((textA a).2 = (textA a).2))) = true) → allP [], ((((decide (checkA a = checkA a)) && (decide ((textA a).1 = (textA a).1))) && (decide ((textA a).2 = (textA a).2))) = true) → allP [(((decide (checkA a = checkA a)) && (decide ((textA a).1 = (textA a).1))) && (decide ((textA a).2 = (textA a).2))) = true, (((decide (checkA a = checkA a)) && (decide ((textA a).1 = (textA a).1))) && (decide ((textA a).2 = (textA a).2))) = true, Spec Tryz.prog 13 [TV.agg (rwA a), TV.agg (rwA b)] (ofH []) (vc (bo (decide (a = b)))) (ofH [])], ((((decide (checkA a = checkA a)) && (decide ((textA a).1 = (textA a).1))) && (decide ((textA a).2 = (textA a).2))) = true) → allP [(((decide (checkA a = checkA a)) && (decide ((textA a).1 = (textA a).1))) && (decide ((textA a).2 = (textA a).2))) = true, (((decide (checkA a = checkA a)) && (decide ((textA a).1 = (textA a).1))) && (decide ((textA a).2 = (textA a).2))) = true], (((decide (checkA a = checkA a)) && (decide ((textA a).1 = (textA a).1))) && (decide ((textA a).2 = (textA a).2))) = true → allP [(((decide (checkA a = checkA a)) && (decide ((textA a).1 = (textA a).1))) && (decide ((textA a).2 = (textA a).2))) = true], (((((decide (checkA a = checkA a)) && (decide ((textA a).1 = (textA a).1))) && (decide ((textA a).2 = (textA a).2))) && ((decide (a = b)) == (decide (a = b)))) = true) → allP [Spec Tryz.prog 6 [] (ofH []) (vc (bo true)) (ofH [])], ((((decide (checkA a = checkA a)) && (decide ((textA a).1 = (textA a).1))) && (decide ((textA a).2 = (textA a).2))) && ((decide (a = b)) == (decide (a = b)))) = true → allP [((((decide (checkA a = checkA a)) && (decide ((textA a).1 = (textA a).1))) && (decide ((textA a).2 = (textA a).2))) && ((decide (a = b)) == (decide (a = b)))) = true]] 59 [(4, vc (bo (((((decide (checkA a = checkA a)) && (decide ((textA a).1 = (textA a).1))) && (decide ((textA a).2 = (textA a).2))) && ((decide (a = b)) == (decide (a = b)))) && true)))] [] mixed ⟨(Own_c a (by first | omega | (have q1 := overA_ok (a := a) (by omega); have q2 := (Policy.over_ok q1.2.2.2.2.2.1).1; omega) | (have q1 := overA_ok (a := b) (by omega); have q2 := (Policy.over_ok q1.2.2.2.2.2.1).1; omega))), (Check_c a (by first | omega | (have q1 := overA_ok (a := a) (by omega); have q2 := (Policy.over_ok q1.2.2.2.2.2.1).1; omega) | (have q1 := overA_ok (a := b) (by omega); have q2 := (Policy.over_ok q1.2.2.2.2.2.1).1; omega))), (RCheck_c a (by first | omega | (have q1 := overA_ok (a := a) (by omega); have q2 := (Policy.over_ok q1.2.2.2.2.2.1).1; omega) | (have q1 := overA_ok (a := b) (by omega); have q2 := (Policy.over_ok q1.2.2.2.2.2.1).1; omega))), (fun _ => trivial), (fun _ => trivial), (fun hp => ⟨hp, hp⟩), (fun hp2 => (by first | exact hp2 | exact ⟨hp, hp2⟩)), (fun _ => trivial), (fun _ => trivial), (fun hp => ⟨hp, hp⟩), (fun hp2 => (by first | exact hp2 | exact ⟨hp, hp2⟩)), (fun _ => trivial), (fun hp => by have hq := hp; (try simp only [decide_eq_true_eq, decide_eq_false_iff_not, Bool.and_eq_true, Bool.or_eq_true, Bool.and_eq_false_iff, Bool.or_eq_false_iff, Bool.not_eq_true', Bool.not_eq_false', Bool.not_eq_true, Bool.not_eq_false] at hq); exact ⟨hp, (Own_c a (by first | omega | (have q1 := overA_ok (a := a) (by omega); have q2 := (Policy.over_ok q1.2.2.2.2.2.1).1; omega) | (have q1 := overA_ok (a := b) (by omega); have q2 := (Policy.over_ok q1.2.2.2.2.2.1).1; omega)))⟩), (fun _ => trivial), (fun hp => by have hq := hp; (try simp only [decide_eq_true_eq, decide_eq_false_iff_not, Bool.and_eq_true, Bool.or_eq_true, Bool.and_eq_false_iff, Bool.or_eq_false_iff, Bool.not_eq_true', Bool.not_eq_false', Bool.not_eq_true, Bool.not_eq_false] at hq); exact ⟨hp, (Own_c b (by first | omega | (have q1 := overA_ok (a := a) (by omega); have q2 := (Policy.over_ok q1.2.2.2.2.2.1).1; omega) | (have q1 := overA_ok (a := b) (by omega); have q2 := (Policy.over_ok q1.2.2.2.2.2.1).1; omega)))⟩), (fun hp => by have hq := hp; (try simp only [decide_eq_true_eq, decide_eq_false_iff_not, Bool.and_eq_true, Bool.or_eq_true, Bool.and_eq_false_iff, Bool.or_eq_false_iff, Bool.not_eq_true', Bool.not_eq_false', Bool.not_eq_true, Bool.not_eq_false] at hq); exact ⟨hp, hp, (Same_c a b)⟩), (fun _ => trivial), (fun _ => trivial), (fun hp => by have hq := hp; (try simp only [decide_eq_true_eq, decide_eq_false_iff_not, Bool.and_eq_true, Bool.or_eq_true, Bool.and_eq_false_iff, Bool.or_eq_false_iff, Bool.not_eq_true', Bool.not_eq_false', Bool.not_eq_true, Bool.not_eq_false] at hq); exact ⟨hp, hp, (RSame_c a b)⟩), (fun hp => ⟨hp, hp⟩), (fun hp2 => (by first | exact hp2 | exact ⟨hp, hp2⟩)), (fun hp => by have hq := hp; (try simp only [decide_eq_true_eq, decide_eq_false_iff_not, Bool.and_eq_true, Bool.or_eq_true, Bool.and_eq_false_iff, Bool.or_eq_false_iff, Bool.not_eq_true', Bool.not_eq_false', Bool.not_eq_true, Bool.not_eq_false] at hq); exact (awake_c)), (fun hp2 => (by first | exact hp2 | exact ⟨hp, hp2⟩))⟩ ?_
  exact gT (vc (bo (((((decide (checkA a = checkA a)) && (decide ((textA a).1 = (textA a).1))) && (decide ((textA a).2 = (textA a).2))) && ((decide (a = b)) == (decide (a = b)))) && true))) (congrArg (fun b => vc (bo b)) (show (((((decide (checkA a = checkA a)) && (decide ((textA a).1 = (textA a).1))) && (decide ((textA a).2 = (textA a).2))) && ((decide (a = b)) == (decide (a = b)))) && true) = true from by simp))
end AL.Ask
namespace AL
open Go Go.Proofs
set_option linter.unusedVariables false
theorem pMaps : mapsRowed Tryz.prog = true := by kernel_rfl
theorem pStops : (Tryz.prog.stops == []) = true := by kernel_rfl
theorem pKnobs : (Tryz.prog.stopKnobs == []) = true := by kernel_rfl
theorem pHeard : Tryz.prog.stopsHeard = true := by kernel_rfl
theorem pEnter : Tryz.prog.mayEnter = true := by kernel_rfl
theorem pLifts : (false == Tryz.prog.liftsFinal) = true := by kernel_rfl
theorem pMake : (Tryz.prog.make == some .cut) = true := by kernel_rfl
end AL
namespace AL
open Go Go.Proofs
set_option linter.unusedVariables false
def closureFacts (P : Program) (f : FuncId) (c : OpenClaim) : Bool :=
  (c.inPlace == P.inPlace f) && (c.unfollowed == P.unfollowed f) && (c.recurses == P.recurses f) && (c.named == P.varsNamed f)
def rowFacts (P : Program) (fn : Func) (s : ChangeSpec) (c : OpenClaim) : Bool :=
  c.wf (OpenSpec.ofChange s) && fn.params.all (P.readableRec ·) && namedTie P c.named s.vars && (c.stops == []) && (c.knobs == []) &&
  (c.maps == (fn.params.toList ++ s.plain.varTypes P).any (P.mapsRec ·)) && (c.ifaces == (fn.params.toList ++ s.plain.varTypes P).any (P.ifacesRec ·)) && (c.mapsOut == P.mapsAmong fn.resultTypes.toList) &&
  (c.loops == (fn.params.toList ++ s.plain.varTypes P).any (P.loopsFrom ·)) && (c.wideKeys == (fn.params.toList ++ s.plain.varTypes P ++ fn.resultTypes.toList).any (P.wideKeysFrom ·)) &&
  s.vars.all (P.varReadable ·) && fn.resultTypes.all (fun t => P.readableRec t && decide (t < P.types.size)) && (c.ifacesOut == fn.resultTypes.toList.any (P.ifacesRec ·)) && (c.loopsOut == fn.resultTypes.toList.any (P.loopsFrom ·)) && (c.plainKeys == P.plainKeys) && c.shortTexts.isNone &&
  (c.kinds == (if c.domain.isEmpty then [] else fn.params.toList.map fun t => match P.underlying t with | some (.int k) => some k | _ => none)) && (c.pinned == c.pinnedBy) &&
  (c.veiled == (fn.params.toList ++ s.plain.varTypes P ++ fn.resultTypes.toList).any (P.veiledRec ·)) && c.veiledFits P fn.params.toList (fn.params.toList ++ s.plain.varTypes P ++ fn.resultTypes.toList)
set_option maxRecDepth 100000 in
theorem joined {f : FuncId} {fn : Func} {s : ChangeSpec} {c : OpenClaim} (h1 : closureFacts Tryz.prog f c = true) (h2 : rowFacts Tryz.prog fn s c = true) (hl : c.lifted = false) (hm : c.make = .cut) :
    joinedFacts Tryz.prog f fn s c = true := by
  have g1 := laidOut
  have g2 := pMaps
  have g3 := pStops
  have g4 := pKnobs
  have g5 := pHeard
  have g6 := pEnter
  have g7 := pLifts
  have g8 := pMake
  unfold closureFacts at h1
  unfold rowFacts at h2
  unfold joinedFacts
  rw [hl, hm]
  simp only [Bool.and_eq_true] at h1 h2 ⊢
  obtain ⟨⟨⟨a1, a2⟩, a3⟩, a4⟩ := h1
  obtain ⟨⟨⟨⟨⟨⟨⟨⟨⟨⟨⟨⟨⟨⟨⟨⟨⟨⟨⟨b1, b2⟩, b3⟩, b4⟩, b5⟩, b6⟩, b7⟩, b8⟩, b9⟩, b10⟩, b11⟩, b12⟩, b13⟩, b14⟩, b15⟩, b16⟩, b17⟩, b18⟩, b19⟩, b20⟩ := h2
  exact ⟨⟨⟨⟨⟨⟨⟨⟨⟨⟨⟨⟨⟨⟨⟨⟨⟨⟨⟨⟨⟨⟨⟨⟨⟨⟨⟨⟨⟨⟨⟨b1, g1⟩, g2⟩, b2⟩, b3⟩, b4⟩, g3⟩, b5⟩, g4⟩, a1⟩, a2⟩, a3⟩, a4⟩, b6⟩, b7⟩, b8⟩, b9⟩, b10⟩, b11⟩, b12⟩, b13⟩, b14⟩, b15⟩, b16⟩, g5⟩, g6⟩, g7⟩, g8⟩, b17⟩, b18⟩, b19⟩, b20⟩
end AL
namespace AL
open Go Go.Proofs Go.RowKit
set_option linter.unusedVariables false
theorem x8 : U8Extra Tryz.prog Tryz.lays260_ren := ⟨by kernel_rfl, by kernel_rfl, by kernel_rfl, by kernel_rfl, by kernel_rfl, by kernel_rfl, by kernel_rfl⟩
theorem acc_eq : (Go.Proofs.YtiiiecdfganahaaGreatDoor.Rows.laid_unicode_utf8_acceptRanges : DataW Unit) = Go.Lib.acceptData := by kernel_rfl
theorem first_eq : (Go.Proofs.YtiiiecdfganahaaGreatDoor.Rows.laid_unicode_utf8_first : DataW Unit) = Go.Lib.firstData := by kernel_rfl
theorem glob_of {W : World} (hT : Go.Lib.Utf8Tabs (Tryz.lays260_ren.g 3) (Tryz.lays260_ren.g 4) W) : GlobOk (Iw W) W :=
  ⟨cell_lt (hT.1 0 (by decide)), cell_lt (hT.2 0 (by decide)).1, hT⟩
end AL
