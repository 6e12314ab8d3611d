/- ask: the contracts of its functions, by their walks. No condition. -/
import Derived.Test.YtiiiecdfganahaaDoorAskW
namespace AL.Ask
open Go Go.Proofs AL
set_option linter.unusedVariables false
set_option linter.unusedSimpArgs false

theorem f19_body : Tryd.f19.body = some (.seq (.region 0 (rg Tryd.f19 0) false) (.seq (.region 1 (rg Tryd.f19 1) false) (.seq (.region 2 (rg Tryd.f19 2) false) (.seq (.seq (.region 3 (rg Tryd.f19 3) false) (.block 0 (.loop (.seq (.region 4 (rg Tryd.f19 4) false) (.seq (.cond (.tmp 16) (.skip) (.exit 0)) (.block 1 (.seq (.region 5 (rg Tryd.f19 5) false) (.region 6 (rg Tryd.f19 6) false)))))))) (.seq (.region 7 (rg Tryd.f19 7) false) (.ret)))))) := by kernel_rfl

set_option maxRecDepth 100000 in
set_option maxHeartbeats 8000000 in
theorem line_c (a : AskV) (hf : fieldsC a (kindS a.op) = 0) (hb : a.data.length ≤ 100000) : Pure Tryd.prog 19 [TV.agg (rwA a)] (vc (st (lineA a))) := by
  refine Pure.of_body Tryd.func19 f19_body (by kernel_rfl) Tryd.ntmps19 (by kernel_rfl) (by kernel_rfl) ?_
  refine AMx.seq ?_
  refine AMx.region (ces := []) (ks := [1]) (hs := [1]) (cs := []) (s' := AS.lst 25 [(1, vp 1 0)] [(1, AObj.row (rwA a))]) (by kernel_rfl) ?_ ?_
  · exact trivial
  refine AMx.seq ?_
  refine AMx.region (ces := [(2, CE.call [] [] (AV.t (TV.agg [.s (st (wordS a.op)), .s (st (kindS a.op))])) [])]) (ks := [1, 3]) (hs := [1, 3]) (cs := [Spec Tryd.prog 23 [tc (u8 a.op)] (ofH []) (AV.t (TV.agg [.s (st (wordS a.op)), .s (st (kindS a.op))])) (ofH [])]) (s' := AS.lst 25 [(1, vp 1 0), (3, vp 3 0)] [(1, AObj.row (rwA a)), (3, AObj.row [.s (st (wordS a.op)), .s (st (kindS a.op))])]) (by kernel_rfl) ?_ ?_
  · exact (formOf_c a.op)
  refine AMx.seq ?_
  refine AMx.region (ces := []) (ks := [1, 3, 4]) (hs := [1, 3]) (cs := []) (s' := AS.lst 25 [(1, vp 1 0), (3, vp 3 0), (4, vc (st (wordS a.op)))] [(1, AObj.row (rwA a)), (3, AObj.row [.s (st (wordS a.op)), .s (st (kindS a.op))])]) (by kernel_rfl) ?_ ?_
  · exact trivial
  refine AMx.seq ?_
  refine AMx.seq ?_
  refine AMx.region (ces := []) (ks := [1, 4, 14]) (hs := [1, 14]) (cs := []) (s' := AS.lst 25 [(1, vp 1 0), (4, vc (st (wordS a.op))), (14, vp 14 0)] [(1, AObj.row (rwA a)), (14, AObj.iter (kindS a.op) 0)]) (by kernel_rfl) ?_ ?_
  · exact trivial
  refine AMx.block ?_
  refine AMx.ent (s' := AS.lst 25 [(1, vp 1 0), (4, vc (st (wordS a.op))), (14, vp 14 0)] [(1, AObj.row (rwA a)), (14, AObj.iter (kindS a.op) 0)]) (ent_proj [1, 4, 14] [1, 14]) ?_
  refine AMx.loop (fun mm ss => ∃ (pos : Nat), (pos ≤ (kindS a.op).length) ∧ mm = (kindS a.op).length - pos ∧ ss = AS.lst 25 [(1, vp 1 0), (4, vc (st (lineF a (List.take pos (kindS a.op))))), (14, vp 14 0)] [(1, AObj.row (rwA a)), (14, AObj.iter (kindS a.op) pos)]) ⟨0, ?_, rfl, ?_⟩ ?_
  · omega
  · rw [line_0]
  rintro mm ss ⟨pos, hI, rfl, rfl⟩
  refine AMx.seq ?_
  rcases Nat.lt_or_ge pos (List.length (kindS a.op : List UInt8)) with hn1 | hn1
  · have hd1 := AL.Rune.dec_ok hn1
    refine AMx.region (ces := [(0, CE.str [])]) (ks := [1, 4, 14, 15, 16]) (hs := [1, 14]) (cs := [pos < List.length (kindS a.op : List UInt8), ((pos : Nat) : Int) ≤ 9223372036854775807]) (s' := AS.lst 25 [(1, vp 1 0), (4, vc (st (lineF a (List.take pos (kindS a.op))))), (14, vp 14 0), (15, AV.tup [tc (bo true), tc (i6 (pos : Int)), tc (i3 ((decS (kindS a.op) pos).1 : Int))]), (16, vc (bo true))] [(1, AObj.row (rwA a)), (14, AObj.iter (kindS a.op) (pos + (decS (kindS a.op) pos).2))]) (by kernel_rfl) ?_ ?_
    · exact ⟨(show pos < List.length (kindS a.op : List UInt8) from (by first | omega | (have z := (kind_len a.op).1; omega) | (have z1 := line_len hf pos; have z2 := lay_len ((kind_let a.op).1 _ (Lib.getD_mem 0 _ pos (by omega))) (fields_all hf _ (Lib.getD_mem 0 _ pos (by omega))); (try simp only [List.length_append, List.length_cons, List.length_nil]); omega))), (show ((pos : Nat) : Int) ≤ 9223372036854775807 from (by first | omega | (have z := (kind_len a.op).1; omega) | (have z1 := line_len hf pos; have z2 := lay_len ((kind_let a.op).1 _ (Lib.getD_mem 0 _ pos (by omega))) (fields_all hf _ (Lib.getD_mem 0 _ pos (by omega))); (try simp only [List.length_append, List.length_cons, List.length_nil]); omega)))⟩
    rw [show pos + (decS (kindS a.op) pos).2 = pos + 1 from by rw [kind_dec a.op (by omega)]]
    rw [show (decS (kindS a.op) pos).1 = (List.getD (kindS a.op) pos 0).toNat from by rw [kind_dec a.op (by omega)]]
    refine AMx.seq ?_
    refine AMx.cond (b := true) (by kernel_rfl) (fun hc1 => ?_) (fun hc1 => ?_)
    · skip
      refine AMx.skip ?_
      refine AMx.block ?_
      refine AMx.seq ?_
      refine AMx.region (ces := []) (ks := [1, 4, 6, 14]) (hs := [1, 14]) (cs := []) (s' := AS.lst 25 [(1, vp 1 0), (4, vc (st (lineF a (List.take pos (kindS a.op))))), (6, vc (i3 ((List.getD (kindS a.op) pos 0).toNat : Int))), (14, vp 14 0)] [(1, AObj.row (rwA a)), (14, AObj.iter (kindS a.op) (pos + 1))]) (by kernel_rfl) ?_ ?_
      · exact trivial
      refine AMx.region (ces := [(3, CE.call [] [] (vc (st (layA a ((List.getD (kindS a.op) pos 0).toNat : Int)))) [])]) (ks := [1, 4, 14]) (hs := [1, 14]) (cs := [Spec Tryd.prog 29 [TV.agg (rwA a), tc (i3 ((List.getD (kindS a.op) pos 0).toNat : Int))] (ofH []) (vc (st (layA a ((List.getD (kindS a.op) pos 0).toNat : Int)))) (ofH []), List.length ([32] : List UInt8) + List.length (layA a ((List.getD (kindS a.op) pos 0).toNat : Int) : List UInt8) ≤ maxLen, List.length (lineF a (List.take pos (kindS a.op)) : List UInt8) + List.length ([32] ++ (layA a ((List.getD (kindS a.op) pos 0).toNat : Int)) : List UInt8) ≤ maxLen]) (s' := AS.lst 25 [(1, vp 1 0), (4, vc (st ((lineF a (List.take pos (kindS a.op))) ++ ([32] ++ (layA a ((List.getD (kindS a.op) pos 0).toNat : Int)))))), (14, vp 14 0)] [(1, AObj.row (rwA a)), (14, AObj.iter (kindS a.op) (pos + 1))]) (by kernel_rfl) ?_ ?_
      · exact ⟨(lay_c a ((List.getD (kindS a.op) pos 0).toNat : Int) (by exact (kind_let a.op).1 _ (Lib.getD_mem 0 _ pos (by omega))) (by exact fields_all hf _ (Lib.getD_mem 0 _ pos (by omega))) (by first | omega | (have z := (kind_len a.op).1; omega) | (have z1 := line_len hf pos; have z2 := lay_len ((kind_let a.op).1 _ (Lib.getD_mem 0 _ pos (by omega))) (fields_all hf _ (Lib.getD_mem 0 _ pos (by omega))); (try simp only [List.length_append, List.length_cons, List.length_nil]); omega))), (show List.length ([32] : List UInt8) + List.length (layA a ((List.getD (kindS a.op) pos 0).toNat : Int) : List UInt8) ≤ maxLen from (by simp only [List.length_append, List.length_cons, List.length_nil, maxLen]; first | omega | (first | omega | (have z := (kind_len a.op).1; omega) | (have z1 := line_len hf pos; have z2 := lay_len ((kind_let a.op).1 _ (Lib.getD_mem 0 _ pos (by omega))) (fields_all hf _ (Lib.getD_mem 0 _ pos (by omega))); (try simp only [List.length_append, List.length_cons, List.length_nil]); omega)))), (show List.length (lineF a (List.take pos (kindS a.op)) : List UInt8) + List.length ([32] ++ (layA a ((List.getD (kindS a.op) pos 0).toNat : Int)) : List UInt8) ≤ maxLen from (by simp only [List.length_append, List.length_cons, List.length_nil, maxLen]; first | omega | (first | omega | (have z := (kind_len a.op).1; omega) | (have z1 := line_len hf pos; have z2 := lay_len ((kind_let a.op).1 _ (Lib.getD_mem 0 _ pos (by omega))) (fields_all hf _ (Lib.getD_mem 0 _ pos (by omega))); (try simp only [List.length_append, List.length_cons, List.length_nil]); omega))))⟩
      refine AMx.blk ?_
      refine AMx.ent_inv (s' := AS.lst 25 [(1, vp 1 0), (4, vc (st ((lineF a (List.take pos (kindS a.op))) ++ ([32] ++ (layA a ((List.getD (kindS a.op) pos 0).toNat : Int)))))), (14, vp 14 0)] [(1, AObj.row (rwA a)), (14, AObj.iter (kindS a.op) (pos + 1))]) (ent_proj [1, 4, 14] [1, 14]) ?_
      refine AMx.inv ⟨_, ?_, pos + 1, ?_, rfl, ?_⟩
      rotate_left
      · omega
      · rw [← line_step a (kindS a.op) pos (by omega)]
      · omega
    · skip
      cases hc1
  · skip
    refine AMx.region (ces := []) (ks := [1, 4, 14, 15, 16]) (hs := [1, 14]) (cs := [List.length (kindS a.op : List UInt8) ≤ pos]) (s' := AS.lst 25 [(1, vp 1 0), (4, vc (st (lineF a (List.take pos (kindS a.op))))), (14, vp 14 0), (15, AV.tup [tc (bo false)]), (16, vc (bo false))] [(1, AObj.row (rwA a)), (14, AObj.iter (kindS a.op) pos)]) (by kernel_rfl) ?_ ?_
    · exact (show List.length (kindS a.op : List UInt8) ≤ pos from (by first | omega | (have z := (kind_len a.op).1; omega) | (have z1 := line_len hf pos; have z2 := lay_len ((kind_let a.op).1 _ (Lib.getD_mem 0 _ pos (by omega))) (fields_all hf _ (Lib.getD_mem 0 _ pos (by omega))); (try simp only [List.length_append, List.length_cons, List.length_nil]); omega)))
    refine AMx.seq ?_
    refine AMx.cond (b := false) (by kernel_rfl) (fun hc2 => ?_) (fun hc2 => ?_)
    · skip
      cases hc2
    · skip
      refine AMx.exit ?_
      refine AMx.code_exit ?_
      refine AMx.inv_exit ?_
      refine AMx.blk_exit ?_
      rw [show List.take pos (kindS a.op) = kindS a.op from List.take_of_length_le (by omega)]
      refine AMx.seq ?_
      refine AMx.region (ces := []) (ks := [2]) (hs := []) (cs := []) (s' := AS.lst 25 [(2, vc (st (lineF a (kindS a.op))))] []) (by kernel_rfl) ?_ ?_
      · exact trivial
      refine AMx.ret ?_
      exact RetP.mk (r := vc (st (lineF a (kindS a.op)))) (by kernel_rfl) rfl

theorem f16_body : Tryd.f16.body = some (.seq (.region 0 (rg Tryd.f16 0) false) (.seq (.region 1 (rg Tryd.f16 1) false) (.seq (.seq (.region 2 (rg Tryd.f16 2) false) (.cond (.tmp 13) (.seq (.region 3 (rg Tryd.f16 3) false) (.ret)) (.skip))) (.seq (.region 4 (rg Tryd.f16 4) false) (.seq (.region 5 (rg Tryd.f16 5) false) (.seq (.seq (.region 6 (rg Tryd.f16 6) false) (.block 0 (.loop (.seq (.region 7 (rg Tryd.f16 7) false) (.seq (.cond (.tmp 20) (.skip) (.exit 0)) (.block 1 (.seq (.region 8 (rg Tryd.f16 8) false) (.seq (.seq (.region 9 (rg Tryd.f16 9) false) (.seq (.region 10 (rg Tryd.f16 10) false) (.cond (.tmp 26) (.seq (.region 11 (rg Tryd.f16 11) false) (.ret)) (.skip)))) (.region 12 (rg Tryd.f16 12) false))))))))) (.seq (.seq (.region 13 (rg Tryd.f16 13) false) (.cond (.tmp 34) (.seq (.region 14 (rg Tryd.f16 14) false) (.ret)) (.skip))) (.seq (.seq (.region 15 (rg Tryd.f16 15) false) (.cond (.tmp 38) (.seq (.region 16 (rg Tryd.f16 16) false) (.ret)) (.skip))) (.seq (.region 17 (rg Tryd.f16 17) false) (.ret)))))))))) := by kernel_rfl

set_option maxRecDepth 100000 in
set_option maxHeartbeats 8000000 in
theorem Check_c (a : AskV) (hb : a.data.length ≤ 100000) : Pure Tryd.prog 16 [TV.agg (rwA a)] (vc (i6 (checkA a))) := by
  refine Pure.of_body Tryd.func16 f16_body (by kernel_rfl) Tryd.ntmps16 (by kernel_rfl) (by kernel_rfl) ?_
  refine AMx.seq ?_
  refine AMx.region (ces := []) (ks := [1]) (hs := [1]) (cs := []) (s' := AS.lst 39 [(1, vp 1 0)] [(1, AObj.row (rwA a))]) (by kernel_rfl) ?_ ?_
  · exact trivial
  refine AMx.seq ?_
  refine AMx.region (ces := [(2, CE.call [] [] (AV.t (TV.agg [.s (st (wordS a.op)), .s (st (kindS a.op))])) [])]) (ks := [1, 3]) (hs := [1, 3]) (cs := [Spec Tryd.prog 23 [tc (u8 a.op)] (ofH []) (AV.t (TV.agg [.s (st (wordS a.op)), .s (st (kindS a.op))])) (ofH [])]) (s' := AS.lst 39 [(1, vp 1 0), (3, vp 3 0)] [(1, AObj.row (rwA a)), (3, AObj.row [.s (st (wordS a.op)), .s (st (kindS a.op))])]) (by kernel_rfl) ?_ ?_
  · exact (formOf_c a.op)
  refine AMx.seq ?_
  refine AMx.seq ?_
  refine AMx.region (ces := []) (ks := [1, 3, 13]) (hs := [1, 3]) (cs := []) (s' := AS.lst 39 [(1, vp 1 0), (3, vp 3 0), (13, vc (bo (decide (wordS a.op = []))))] [(1, AObj.row (rwA a)), (3, AObj.row [.s (st (wordS a.op)), .s (st (kindS a.op))])]) (by kernel_rfl) ?_ ?_
  · exact trivial
  refine AMx.cond (b := decide (wordS a.op = [])) (by kernel_rfl) (fun hc1 => ?_) (fun hc1 => ?_)
  · try simp only [decide_eq_true_eq, decide_eq_false_iff_not] at hc1
    refine AMx.seq ?_
    refine AMx.region (ces := []) (ks := [2]) (hs := []) (cs := []) (s' := AS.lst 39 [(2, vc (i6 22))] []) (by kernel_rfl) ?_ ?_
    · exact trivial
    refine AMx.ret ?_
    exact RetP.mk (r := vc (i6 22)) (by kernel_rfl) (by rw [show checkA a = 22 from check_22 hc1])
  · try simp only [decide_eq_true_eq, decide_eq_false_iff_not] at hc1
    refine AMx.skip ?_
    refine AMx.seq ?_
    refine AMx.region (ces := []) (ks := [1, 3, 4]) (hs := [1, 3, 4]) (cs := []) (s' := AS.lst 39 [(1, vp 1 0), (3, vp 3 0), (4, vp 4 0)] [(1, AObj.row (rwA a)), (3, AObj.row [.s (st (wordS a.op)), .s (st (kindS a.op))]), (4, AObj.row (rwA a))]) (by kernel_rfl) ?_ ?_
    · exact trivial
    refine AMx.seq ?_
    refine AMx.region (ces := []) (ks := [1, 3, 4]) (hs := [1, 3, 4]) (cs := []) (s' := AS.lst 39 [(1, vp 1 0), (3, vp 3 0), (4, vp 4 0)] [(1, AObj.row (rwA a)), (3, AObj.row [.s (st (wordS a.op)), .s (st (kindS a.op))]), (4, AObj.row [.s (u8 0), .s (st a.token), .s (st a.path), .s (st a.other), .s (i6 a.n), .s (i6 a.cas), .s (bo a.flag), .s (AL.Fnv.slI a.ns), .s (st a.data), .s (Policy.slP a.rules), .s (st a.key)])]) (by kernel_rfl) ?_ ?_
    · exact trivial
    refine AMx.seq ?_
    refine AMx.seq ?_
    refine AMx.region (ces := []) (ks := [1, 4, 18]) (hs := [1, 4, 18]) (cs := []) (s' := AS.lst 39 [(1, vp 1 0), (4, vp 4 0), (18, vp 18 0)] [(1, AObj.row (rwA a)), (4, AObj.row [.s (u8 0), .s (st a.token), .s (st a.path), .s (st a.other), .s (i6 a.n), .s (i6 a.cas), .s (bo a.flag), .s (AL.Fnv.slI a.ns), .s (st a.data), .s (Policy.slP a.rules), .s (st a.key)]), (18, AObj.iter (kindS a.op) 0)]) (by kernel_rfl) ?_ ?_
    · exact trivial
    refine AMx.block ?_
    refine AMx.ent (s' := AS.lst 39 [(1, vp 1 0), (4, vp 4 0), (18, vp 18 0)] [(1, AObj.row (rwA a)), (4, AObj.row [.s (u8 0), .s (st a.token), .s (st a.path), .s (st a.other), .s (i6 a.n), .s (i6 a.cas), .s (bo a.flag), .s (AL.Fnv.slI a.ns), .s (st a.data), .s (Policy.slP a.rules), .s (st a.key)]), (18, AObj.iter (kindS a.op) 0)]) (ent_proj [1, 4, 18] [1, 4, 18]) ?_
    refine AMx.loop (fun mm ss => ∃ (pos : Nat), (pos ≤ (kindS a.op).length ∧ FieldsAt a (kindS a.op) pos) ∧ mm = (kindS a.op).length - pos ∧ ss = AS.lst 39 [(1, vp 1 0), (4, vp 4 0), (18, vp 18 0)] [(1, AObj.row (rwA a)), (4, AObj.row (rwA (bareF a (List.take pos (kindS a.op))))), (18, AObj.iter (kindS a.op) pos)]) ⟨0, ?_, rfl, ?_⟩ ?_
    · exact ⟨Nat.zero_le _, fields_0 a _⟩
    · rfl
    rintro mm ss ⟨pos, ⟨hI, hN⟩, rfl, rfl⟩
    refine AMx.seq ?_
    rcases Nat.lt_or_ge pos (List.length (kindS a.op : List UInt8)) with hn1 | hn1
    · have hd1 := AL.Rune.dec_ok hn1
      refine AMx.region (ces := [(0, CE.str [])]) (ks := [1, 4, 18, 19, 20]) (hs := [1, 4, 18]) (cs := [pos < List.length (kindS a.op : List UInt8), ((pos : Nat) : Int) ≤ 9223372036854775807]) (s' := AS.lst 39 [(1, vp 1 0), (4, vp 4 0), (18, vp 18 0), (19, AV.tup [tc (bo true), tc (i6 (pos : Int)), tc (i3 ((decS (kindS a.op) pos).1 : Int))]), (20, vc (bo true))] [(1, AObj.row (rwA a)), (4, AObj.row (rwA (bareF a (List.take pos (kindS a.op))))), (18, AObj.iter (kindS a.op) (pos + (decS (kindS a.op) pos).2))]) (by kernel_rfl) ?_ ?_
      · exact ⟨(show pos < List.length (kindS a.op : List UInt8) from (by first | omega | (have z := (kind_len a.op).1; omega))), (show ((pos : Nat) : Int) ≤ 9223372036854775807 from (by first | omega | (have z := (kind_len a.op).1; omega)))⟩
      rw [show pos + (decS (kindS a.op) pos).2 = pos + 1 from by rw [kind_dec a.op (by omega)]]
      rw [show (decS (kindS a.op) pos).1 = (List.getD (kindS a.op) pos 0).toNat from by rw [kind_dec a.op (by omega)]]
      refine AMx.seq ?_
      refine AMx.cond (b := true) (by kernel_rfl) (fun hc2 => ?_) (fun hc2 => ?_)
      · skip
        refine AMx.skip ?_
        refine AMx.block ?_
        refine AMx.seq ?_
        refine AMx.region (ces := []) (ks := [1, 4, 6, 18]) (hs := [1, 4, 18]) (cs := []) (s' := AS.lst 39 [(1, vp 1 0), (4, vp 4 0), (6, vc (i3 ((List.getD (kindS a.op) pos 0).toNat : Int))), (18, vp 18 0)] [(1, AObj.row (rwA a)), (4, AObj.row (rwA (bareF a (List.take pos (kindS a.op))))), (18, AObj.iter (kindS a.op) (pos + 1))]) (by kernel_rfl) ?_ ?_
        · exact trivial
        refine AMx.seq ?_
        refine AMx.seq ?_
        refine AMx.region (ces := [(2, CE.call [] [] (vc (i6 (fieldS a ((List.getD (kindS a.op) pos 0).toNat : Int)))) [])]) (ks := [1, 4, 6, 7, 18]) (hs := [1, 4, 18]) (cs := [Spec Tryd.prog 27 [TV.agg (rwA a), tc (i3 ((List.getD (kindS a.op) pos 0).toNat : Int))] (ofH []) (vc (i6 (fieldS a ((List.getD (kindS a.op) pos 0).toNat : Int)))) (ofH [])]) (s' := AS.lst 39 [(1, vp 1 0), (4, vp 4 0), (6, vc (i3 ((List.getD (kindS a.op) pos 0).toNat : Int))), (7, vc (i6 (fieldS a ((List.getD (kindS a.op) pos 0).toNat : Int)))), (18, vp 18 0)] [(1, AObj.row (rwA a)), (4, AObj.row (rwA (bareF a (List.take pos (kindS a.op))))), (18, AObj.iter (kindS a.op) (pos + 1))]) (by kernel_rfl) ?_ ?_
        · exact (field_c a ((List.getD (kindS a.op) pos 0).toNat : Int))
        refine AMx.seq ?_
        refine AMx.region (ces := []) (ks := [1, 4, 6, 7, 18, 26]) (hs := [1, 4, 18]) (cs := []) (s' := AS.lst 39 [(1, vp 1 0), (4, vp 4 0), (6, vc (i3 ((List.getD (kindS a.op) pos 0).toNat : Int))), (7, vc (i6 (fieldS a ((List.getD (kindS a.op) pos 0).toNat : Int)))), (18, vp 18 0), (26, vc (bo (!decide (fieldS a ((List.getD (kindS a.op) pos 0).toNat : Int) = 0))))] [(1, AObj.row (rwA a)), (4, AObj.row (rwA (bareF a (List.take pos (kindS a.op))))), (18, AObj.iter (kindS a.op) (pos + 1))]) (by kernel_rfl) ?_ ?_
        · exact trivial
        refine AMx.cond (b := !decide (fieldS a ((List.getD (kindS a.op) pos 0).toNat : Int) = 0)) (by kernel_rfl) (fun hc3 => ?_) (fun hc3 => ?_)
        · try simp only [decide_eq_true_eq, decide_eq_false_iff_not, Bool.not_eq_true', Bool.not_eq_false'] at hc3
          refine AMx.seq ?_
          refine AMx.region (ces := []) (ks := [2]) (hs := []) (cs := []) (s' := AS.lst 39 [(2, vc (i6 (fieldS a ((List.getD (kindS a.op) pos 0).toNat : Int))))] []) (by kernel_rfl) ?_ ?_
          · exact trivial
          refine AMx.ret ?_
          exact RetP.mk (r := vc (i6 (fieldS a ((List.getD (kindS a.op) pos 0).toNat : Int)))) (by kernel_rfl) (by rw [show checkA a = fieldS a ((List.getD (kindS a.op) pos 0).toNat : Int) from by have hz := fun q => fields_end (a := a) (l := kindS a.op) (k := pos) q hN; first | exact check_22 hc1 | exact check_f hc1 (by omega) hN (by assumption) | exact check_2 hc1 (hz (by omega)) (by assumption) | exact check_5 hc1 (hz (by omega)) (by assumption) (by assumption) | exact check_0 hc1 (hz (by omega)) (by assumption) (by assumption)])
        · try simp only [decide_eq_true_eq, decide_eq_false_iff_not, Bool.not_eq_true', Bool.not_eq_false'] at hc3
          refine AMx.skip ?_
          refine AMx.region (ces := [(2, CE.call [] [] (AV.t (TV.agg (rwA (withoutS (bareF a (List.take pos (kindS a.op))) ((List.getD (kindS a.op) pos 0).toNat : Int))))) [])]) (ks := [1, 4, 18]) (hs := [1, 4, 18]) (cs := [Spec Tryd.prog 28 [TV.agg (rwA (bareF a (List.take pos (kindS a.op)))), tc (i3 ((List.getD (kindS a.op) pos 0).toNat : Int))] (ofH []) (AV.t (TV.agg (rwA (withoutS (bareF a (List.take pos (kindS a.op))) ((List.getD (kindS a.op) pos 0).toNat : Int))))) (ofH [])]) (s' := AS.lst 39 [(1, vp 1 0), (4, vp 4 0), (18, vp 18 0)] [(1, AObj.row (rwA a)), (4, AObj.row (rwA (withoutS (bareF a (List.take pos (kindS a.op))) ((List.getD (kindS a.op) pos 0).toNat : Int)))), (18, AObj.iter (kindS a.op) (pos + 1))]) (by kernel_rfl) ?_ ?_
          · exact (without_c (bareF a (List.take pos (kindS a.op))) ((List.getD (kindS a.op) pos 0).toNat : Int))
          refine AMx.blk ?_
          refine AMx.ent_inv (s' := AS.lst 39 [(1, vp 1 0), (4, vp 4 0), (18, vp 18 0)] [(1, AObj.row (rwA a)), (4, AObj.row (rwA (withoutS (bareF a (List.take pos (kindS a.op))) ((List.getD (kindS a.op) pos 0).toNat : Int)))), (18, AObj.iter (kindS a.op) (pos + 1))]) (ent_proj [1, 4, 18] [1, 4, 18]) ?_
          refine AMx.inv ⟨_, ?_, pos + 1, ?_, rfl, ?_⟩
          rotate_left
          · exact ⟨by omega, fields_step (by omega) hN (by assumption)⟩
          · rw [← bare_step a (kindS a.op) pos (by omega)]
          · omega
      · skip
        cases hc2
    · skip
      refine AMx.region (ces := []) (ks := [1, 4, 18, 19, 20]) (hs := [1, 4, 18]) (cs := [List.length (kindS a.op : List UInt8) ≤ pos]) (s' := AS.lst 39 [(1, vp 1 0), (4, vp 4 0), (18, vp 18 0), (19, AV.tup [tc (bo false)]), (20, vc (bo false))] [(1, AObj.row (rwA a)), (4, AObj.row (rwA (bareF a (List.take pos (kindS a.op))))), (18, AObj.iter (kindS a.op) pos)]) (by kernel_rfl) ?_ ?_
      · exact (show List.length (kindS a.op : List UInt8) ≤ pos from (by first | omega | (have z := (kind_len a.op).1; omega)))
      refine AMx.seq ?_
      refine AMx.cond (b := false) (by kernel_rfl) (fun hc4 => ?_) (fun hc4 => ?_)
      · skip
        cases hc4
      · skip
        refine AMx.exit ?_
        refine AMx.code_exit ?_
        refine AMx.inv_exit ?_
        refine AMx.blk_exit ?_
        rw [show List.take pos (kindS a.op) = kindS a.op from List.take_of_length_le (by omega)]
        refine AMx.seq ?_
        refine AMx.seq ?_
        refine AMx.region (ces := [(2, CE.call [] [] (vc (bo (decide ((bareF a (kindS a.op)) = (⟨0, [], [], [], 0, 0, false, [], [], [], []⟩ : AskV))))) [])]) (ks := [1, 34]) (hs := [1]) (cs := [Spec Tryd.prog 15 [TV.agg (rwA (bareF a (kindS a.op))), TV.agg [.s (u8 0), .s (st []), .s (st []), .s (st []), .s (i6 0), .s (i6 0), .s (bo false), .s (SC.nilsl), .s (st []), .s (SC.nilsl), .s (st [])]] (ofH []) (vc (bo (decide ((bareF a (kindS a.op)) = (⟨0, [], [], [], 0, 0, false, [], [], [], []⟩ : AskV))))) (ofH [])]) (s' := AS.lst 39 [(1, vp 1 0), (34, vc (bo (!(decide ((bareF a (kindS a.op)) = (⟨0, [], [], [], 0, 0, false, [], [], [], []⟩ : AskV))))))] [(1, AObj.row (rwA a))]) (by kernel_rfl) ?_ ?_
        · exact (Spec.weak (args' := [TV.agg (rwA (bareF a (kindS a.op))), TV.agg [.s (u8 0), .s (st []), .s (st []), .s (st []), .s (i6 0), .s (i6 0), .s (bo false), .s (AL.Fnv.slI []), .s (st []), .s (Policy.slP []), .s (st [])]]) ⟨TV.le_rfl, (TV.le_agg (l := [.s (u8 0), .s (st []), .s (st []), .s (st []), .s (i6 0), .s (i6 0), .s (bo false), .s (SC.nilsl), .s (st []), .s (SC.nilsl), .s (st [])]) (m := [.s (u8 ((⟨0, [], [], [], 0, 0, false, [], [], [], []⟩ : AskV).op)), .s (st ((⟨0, [], [], [], 0, 0, false, [], [], [], []⟩ : AskV).token)), .s (st ((⟨0, [], [], [], 0, 0, false, [], [], [], []⟩ : AskV).path)), .s (st ((⟨0, [], [], [], 0, 0, false, [], [], [], []⟩ : AskV).other)), .s (i6 ((⟨0, [], [], [], 0, 0, false, [], [], [], []⟩ : AskV).n)), .s (i6 ((⟨0, [], [], [], 0, 0, false, [], [], [], []⟩ : AskV).cas)), .s (bo ((⟨0, [], [], [], 0, 0, false, [], [], [], []⟩ : AskV).flag)), .s (AL.Fnv.slI ((⟨0, [], [], [], 0, 0, false, [], [], [], []⟩ : AskV).ns)), .s (st ((⟨0, [], [], [], 0, 0, false, [], [], [], []⟩ : AskV).data)), .s (Policy.slP ((⟨0, [], [], [], 0, 0, false, [], [], [], []⟩ : AskV).rules)), .s (st ((⟨0, [], [], [], 0, 0, false, [], [], [], []⟩ : AskV).key))]) ⟨AC.le_rfl, AC.le_rfl, AC.le_rfl, AC.le_rfl, AC.le_rfl, AC.le_rfl, AC.le_rfl, AC.le_nil, AC.le_rfl, AC.le_nil, AC.le_rfl, trivial⟩), trivial⟩ (Same_c (bareF a (kindS a.op)) (⟨0, [], [], [], 0, 0, false, [], [], [], []⟩ : AskV)))
        refine AMx.cond (b := !(decide ((bareF a (kindS a.op)) = (⟨0, [], [], [], 0, 0, false, [], [], [], []⟩ : AskV)))) (by kernel_rfl) (fun hc5 => ?_) (fun hc5 => ?_)
        · try simp only [decide_eq_true_eq, decide_eq_false_iff_not, Bool.not_eq_true', Bool.not_eq_false'] at hc5
          refine AMx.seq ?_
          refine AMx.region (ces := []) (ks := [2]) (hs := []) (cs := []) (s' := AS.lst 39 [(2, vc (i6 2))] []) (by kernel_rfl) ?_ ?_
          · exact trivial
          refine AMx.ret ?_
          exact RetP.mk (r := vc (i6 2)) (by kernel_rfl) (by rw [show checkA a = 2 from by have hz := fun q => fields_end (a := a) (l := kindS a.op) (k := pos) q hN; first | exact check_22 hc1 | exact check_f hc1 (by omega) hN (by assumption) | exact check_2 hc1 (hz (by omega)) (by assumption) | exact check_5 hc1 (hz (by omega)) (by assumption) (by assumption) | exact check_0 hc1 (hz (by omega)) (by assumption) (by assumption)])
        · try simp only [decide_eq_true_eq, decide_eq_false_iff_not, Bool.not_eq_true', Bool.not_eq_false'] at hc5
          refine AMx.skip ?_
          refine AMx.seq ?_
          refine AMx.seq ?_
          refine AMx.region (ces := [(1, CE.call [] [] (vc (st (lineA a))) [])]) (ks := [38]) (hs := []) (cs := [Spec Tryd.prog 19 [TV.agg (rwA a)] (ofH []) (vc (st (lineA a))) (ofH [])]) (s' := AS.lst 39 [(38, vc (bo (decide (400 < (List.length (lineA a : List UInt8) : Int)))))] []) (by kernel_rfl) ?_ ?_
          · exact (line_c a (by exact fields_end (by omega) hN) (by first | omega | (have z := (kind_len a.op).1; omega)))
          refine AMx.cond (b := decide (400 < (List.length (lineA a : List UInt8) : Int))) (by kernel_rfl) (fun hc6 => ?_) (fun hc6 => ?_)
          · try simp only [decide_eq_true_eq, decide_eq_false_iff_not] at hc6
            refine AMx.seq ?_
            refine AMx.region (ces := []) (ks := [2]) (hs := []) (cs := []) (s' := AS.lst 39 [(2, vc (i6 5))] []) (by kernel_rfl) ?_ ?_
            · exact trivial
            refine AMx.ret ?_
            exact RetP.mk (r := vc (i6 5)) (by kernel_rfl) (by rw [show checkA a = 5 from by have hz := fun q => fields_end (a := a) (l := kindS a.op) (k := pos) q hN; first | exact check_22 hc1 | exact check_f hc1 (by omega) hN (by assumption) | exact check_2 hc1 (hz (by omega)) (by assumption) | exact check_5 hc1 (hz (by omega)) (by assumption) (by assumption) | exact check_0 hc1 (hz (by omega)) (by assumption) (by assumption)])
          · try simp only [decide_eq_true_eq, decide_eq_false_iff_not] at hc6
            refine AMx.skip ?_
            refine AMx.seq ?_
            refine AMx.region (ces := []) (ks := [2]) (hs := []) (cs := []) (s' := AS.lst 39 [(2, vc (i6 0))] []) (by kernel_rfl) ?_ ?_
            · exact trivial
            refine AMx.ret ?_
            exact RetP.mk (r := vc (i6 0)) (by kernel_rfl) (by rw [show checkA a = 0 from by have hz := fun q => fields_end (a := a) (l := kindS a.op) (k := pos) q hN; first | exact check_22 hc1 | exact check_f hc1 (by omega) hN (by assumption) | exact check_2 hc1 (hz (by omega)) (by assumption) | exact check_5 hc1 (hz (by omega)) (by assumption) (by assumption) | exact check_0 hc1 (hz (by omega)) (by assumption) (by assumption)])

theorem f12_body : Tryd.f12.body = some (.seq (.region 0 (rg Tryd.f12 0) false) (.seq (.seq (.region 1 (rg Tryd.f12 1) false) (.seq (.region 2 (rg Tryd.f12 2) false) (.cond (.tmp 8) (.seq (.region 3 (rg Tryd.f12 3) false) (.ret)) (.skip)))) (.seq (.region 4 (rg Tryd.f12 4) false) (.ret)))) := by kernel_rfl

set_option maxRecDepth 100000 in
set_option maxHeartbeats 8000000 in
theorem Text_c (a : AskV) (hb : a.data.length ≤ 100000) : Pure Tryd.prog 12 [TV.agg (rwA a)] (AV.tup [tc (st ((textA a).1)), tc (i6 ((textA a).2))]) := by
  refine Pure.of_body Tryd.func12 f12_body (by kernel_rfl) Tryd.ntmps12 (by kernel_rfl) (by kernel_rfl) ?_
  refine AMx.seq ?_
  refine AMx.region (ces := []) (ks := [1]) (hs := [1]) (cs := []) (s' := AS.lst 12 [(1, vp 1 0)] [(1, AObj.row (rwA a))]) (by kernel_rfl) ?_ ?_
  · exact trivial
  refine AMx.seq ?_
  refine AMx.seq ?_
  refine AMx.region (ces := [(1, CE.call [] [] (vc (i6 (checkA a))) [])]) (ks := [1, 4]) (hs := [1]) (cs := [Spec Tryd.prog 16 [TV.agg (rwA a)] (ofH []) (vc (i6 (checkA a))) (ofH [])]) (s' := AS.lst 12 [(1, vp 1 0), (4, vc (i6 (checkA a)))] [(1, AObj.row (rwA a))]) (by kernel_rfl) ?_ ?_
  · exact (Check_c a (by omega))
  refine AMx.seq ?_
  refine AMx.region (ces := []) (ks := [1, 4, 8]) (hs := [1]) (cs := []) (s' := AS.lst 12 [(1, vp 1 0), (4, vc (i6 (checkA a))), (8, vc (bo (!decide (checkA a = 0))))] [(1, AObj.row (rwA a))]) (by kernel_rfl) ?_ ?_
  · exact trivial
  refine AMx.cond (b := !decide (checkA a = 0)) (by kernel_rfl) (fun hc1 => ?_) (fun hc1 => ?_)
  · try simp only [decide_eq_true_eq, decide_eq_false_iff_not, Bool.not_eq_true', Bool.not_eq_false'] at hc1
    refine AMx.seq ?_
    refine AMx.region (ces := []) (ks := [2, 3]) (hs := []) (cs := []) (s' := AS.lst 12 [(2, vc (st [])), (3, vc (i6 (checkA a)))] []) (by kernel_rfl) ?_ ?_
    · exact trivial
    refine AMx.ret ?_
    exact RetP.mk (r := AV.tup [tc (st []), tc (i6 (checkA a))]) (by kernel_rfl) (by rw [show textA a = ([], checkA a) from by first | rw [text_no (by assumption)] | rw [text_ok (by assumption)]])
  · try simp only [decide_eq_true_eq, decide_eq_false_iff_not, Bool.not_eq_true', Bool.not_eq_false'] at hc1
    refine AMx.skip ?_
    refine AMx.seq ?_
    refine AMx.region (ces := [(1, CE.call [] [] (vc (st (lineA a))) [])]) (ks := [2, 3]) (hs := []) (cs := [Spec Tryd.prog 19 [TV.agg (rwA a)] (ofH []) (vc (st (lineA a))) (ofH [])]) (s' := AS.lst 12 [(2, vc (st (lineA a))), (3, vc (i6 0))] []) (by kernel_rfl) ?_ ?_
    · exact (line_c a (by exact (check_ok (by assumption)).2.1) (by omega))
    refine AMx.ret ?_
    exact RetP.mk (r := AV.tup [tc (st (lineA a)), tc (i6 0)]) (by kernel_rfl) (by rw [show textA a = (lineA a, 0) from by first | rw [text_no (by assumption)] | rw [text_ok (by assumption)]])

end AL.Ask
