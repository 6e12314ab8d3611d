/- ask: the contracts of its functions, by their walks. No condition. -/
import Derived.Test.YtiiiecdfganahaaDoorAskW
namespace AL.Ask
open Go Go.Proofs AL
set_option linter.unusedVariables false
set_option linter.unusedSimpArgs false

theorem f14_body : Tryd.f14.body = some (.seq (.region 0 (rg Tryd.f14 0) false) (.seq (.seq (.region 1 (rg Tryd.f14 1) false) (.cond (.tmp 12) (.seq (.region 2 (rg Tryd.f14 2) false) (.ret)) (.skip))) (.seq (.region 3 (rg Tryd.f14 3) false) (.seq (.region 4 (rg Tryd.f14 4) false) (.seq (.seq (.region 5 (rg Tryd.f14 5) false) (.cond (.tmp 23) (.seq (.region 6 (rg Tryd.f14 6) false) (.ret)) (.skip))) (.seq (.region 7 (rg Tryd.f14 7) false) (.seq (.seq (.region 8 (rg Tryd.f14 8) false) (.cond (.tmp 34) (.seq (.region 9 (rg Tryd.f14 9) false) (.ret)) (.skip))) (.seq (.seq (.region 10 (rg Tryd.f14 10) false) (.block 0 (.loop (.seq (.region 11 (rg Tryd.f14 11) false) (.seq (.cond (.tmp 39) (.skip) (.exit 0)) (.block 1 (.seq (.region 12 (rg Tryd.f14 12) false) (.seq (.region 13 (rg Tryd.f14 13) false) (.seq (.region 14 (rg Tryd.f14 14) true) (.seq (.region 15 (rg Tryd.f14 15) false) (.cond (.tmp 54) (.seq (.region 16 (rg Tryd.f14 16) false) (.ret)) (.skip)))))))))))) (.seq (.region 17 (rg Tryd.f14 17) false) (.ret)))))))))) := by kernel_rfl

set_option maxRecDepth 100000 in
set_option maxHeartbeats 8000000 in
theorem Parse_c (s : Bytes) : Pure Tryd.prog 14 [tc (st s)] (AV.tup [TV.agg (rwA ((parseA s).1)), tc (i6 ((parseA s).2))]) := by
  refine Pure.of_body Tryd.func14 f14_body (by kernel_rfl) Tryd.ntmps14 (by kernel_rfl) (by kernel_rfl) ?_
  obtain ⟨op, hop⟩ : ∃ op, op = opS (List.getD (AL.Sep.splitC 32 s) 0 []) := ⟨_, rfl⟩
  have hsl := Sep.split_len 32 s
  have hor := op_rng (List.getD (AL.Sep.splitC 32 s) 0 [])
  rw [← hop] at hor
  refine AMx.seq ?_
  refine AMx.region (ces := []) (ks := [0, 2]) (hs := [2]) (cs := []) (s' := AS.lst 58 [(0, vc (st s)), (2, vp 2 0)] [(2, AObj.row [.s (u8 0), .s (st []), .s (st []), .s (st []), .s (i6 0), .s (i6 0), .s (bo false), .s (SC.nilsl), .s (st []), .s (SC.nilsl), .s (st [])])]) (by kernel_rfl) ?_ ?_
  · exact trivial
  refine AMx.seq ?_
  refine AMx.seq ?_
  refine AMx.region (ces := []) (ks := [0, 2, 12]) (hs := [2]) (cs := []) (s' := AS.lst 58 [(0, vc (st s)), (2, vp 2 0), (12, vc (bo (decide (400 < (List.length s : Int)))))] [(2, AObj.row [.s (u8 0), .s (st []), .s (st []), .s (st []), .s (i6 0), .s (i6 0), .s (bo false), .s (SC.nilsl), .s (st []), .s (SC.nilsl), .s (st [])])]) (by kernel_rfl) ?_ ?_
  · exact trivial
  refine AMx.cond (b := decide (400 < (List.length s : Int))) (by kernel_rfl) (fun hc1 => ?_) (fun hc1 => ?_)
  · try simp only [decide_eq_true_eq, decide_eq_false_iff_not] at hc1
    refine AMx.seq ?_
    refine AMx.region (ces := []) (ks := [2, 3]) (hs := [2]) (cs := []) (s' := AS.lst 58 [(2, vp 2 0), (3, vc (i6 5))] [(2, AObj.row [.s (u8 0), .s (st []), .s (st []), .s (st []), .s (i6 0), .s (i6 0), .s (bo false), .s (SC.nilsl), .s (st []), .s (SC.nilsl), .s (st [])])]) (by kernel_rfl) ?_ ?_
    · exact trivial
    refine AMx.ent (ent_row 2 (l := [.s (u8 0), .s (st []), .s (st []), .s (st []), .s (i6 0), .s (i6 0), .s (bo false), .s (SC.nilsl), .s (st []), .s (SC.nilsl), .s (st [])]) (m := [.s (u8 0), .s (st []), .s (st []), .s (st []), .s (i6 0), .s (i6 0), .s (bo false), .s (AL.Fnv.slI []), .s (st []), .s (Policy.slP []), .s (st [])]) (by kernel_rfl) ⟨AC.le_rfl, AC.le_rfl, AC.le_rfl, AC.le_rfl, AC.le_rfl, AC.le_rfl, AC.le_rfl, AC.le_nil, AC.le_rfl, AC.le_nil, AC.le_rfl, trivial⟩) ?_
    refine AMx.ret ?_
    exact RetP.mk (r := AV.tup [TV.agg [.s (u8 0), .s (st []), .s (st []), .s (st []), .s (i6 0), .s (i6 0), .s (bo false), .s (AL.Fnv.slI []), .s (st []), .s (Policy.slP []), .s (st [])], tc (i6 5)]) (by kernel_rfl) (by rw [show parseA s = ((⟨0, [], [], [], 0, 0, false, [], [], [], []⟩ : AskV), 5) from by first | exact parse_5 (by omega) | exact parse_22 hop (by omega) (by assumption) | exact parse_4 hop (by omega) (by assumption) (by assumption) | exact parse_e hop (by omega) (by assumption) (by omega) (by omega) hN (by assumption) | exact parse_0 hop (by omega) (by assumption) (by omega) (by omega) hN])
  · try simp only [decide_eq_true_eq, decide_eq_false_iff_not] at hc1
    refine AMx.skip ?_
    refine AMx.seq ?_
    refine AMx.region (ces := [(1, CE.call [] [] (vc (AL.Fnv.slS (AL.Sep.splitC 32 s))) [])]) (ks := [2, 4]) (hs := [2]) (cs := [Spec Tryd.prog 21 [tc (st s), tc (st [32])] (ofH []) (vc (AL.Fnv.slS (AL.Sep.splitC 32 s))) (ofH [])]) (s' := AS.lst 58 [(2, vp 2 0), (4, vc (AL.Fnv.slS (AL.Sep.splitC 32 s)))] [(2, AObj.row [.s (u8 0), .s (st []), .s (st []), .s (st []), .s (i6 0), .s (i6 0), .s (bo false), .s (SC.nilsl), .s (st []), .s (SC.nilsl), .s (st [])])]) (by kernel_rfl) ?_ ?_
    · exact (AL.Sep.Split_c 32 s (by first | omega | (have z := (kind_len op).1; omega) | (have z := Sep.mem_len (Lib.getD_mem [] (AL.Sep.splitC 32 s) (1 + pos) (by omega)); omega)))
    refine AMx.seq ?_
    refine AMx.region (ces := [(3, CE.call [] [] (vc (u8 (opS (List.getD (AL.Sep.splitC 32 s) 0 [])))) [])]) (ks := [2, 4, 5]) (hs := [2, 5]) (cs := [(0 : Int) ≤ 0, (0 : Int) < List.length (AL.Sep.splitC 32 s : List Bytes), Spec Tryd.prog 22 [tc (st (List.getD (AL.Sep.splitC 32 s) 0 []))] (ofH []) (vc (u8 (opS (List.getD (AL.Sep.splitC 32 s) 0 [])))) (ofH [])]) (s' := AS.lst 58 [(2, vp 2 0), (4, vc (AL.Fnv.slS (AL.Sep.splitC 32 s))), (5, vp 5 0)] [(2, AObj.row [.s (u8 0), .s (st []), .s (st []), .s (st []), .s (i6 0), .s (i6 0), .s (bo false), .s (SC.nilsl), .s (st []), .s (SC.nilsl), .s (st [])]), (5, AObj.row [.s (u8 (opS (List.getD (AL.Sep.splitC 32 s) 0 []))), .s (st []), .s (st []), .s (st []), .s (i6 0), .s (i6 0), .s (bo false), .s (SC.nilsl), .s (st []), .s (SC.nilsl), .s (st [])])]) (by kernel_rfl) ?_ ?_
    · exact ⟨(show (0 : Int) ≤ 0 from (by first | omega | (have z := (kind_len op).1; omega) | (have z := Sep.mem_len (Lib.getD_mem [] (AL.Sep.splitC 32 s) (1 + pos) (by omega)); omega))), (show (0 : Int) < List.length (AL.Sep.splitC 32 s : List Bytes) from (by first | omega | (have z := (kind_len op).1; omega) | (have z := Sep.mem_len (Lib.getD_mem [] (AL.Sep.splitC 32 s) (1 + pos) (by omega)); omega))), (opOf_c (List.getD (AL.Sep.splitC 32 s) 0 []))⟩
    rw [show opS (List.getD (AL.Sep.splitC 32 s) 0 []) = op from hop.symm]
    refine AMx.seq ?_
    refine AMx.seq ?_
    refine AMx.region (ces := []) (ks := [2, 4, 5, 23]) (hs := [2, 5]) (cs := []) (s' := AS.lst 58 [(2, vp 2 0), (4, vc (AL.Fnv.slS (AL.Sep.splitC 32 s))), (5, vp 5 0), (23, vc (bo (decide (op = 0))))] [(2, AObj.row [.s (u8 0), .s (st []), .s (st []), .s (st []), .s (i6 0), .s (i6 0), .s (bo false), .s (SC.nilsl), .s (st []), .s (SC.nilsl), .s (st [])]), (5, AObj.row [.s (u8 op), .s (st []), .s (st []), .s (st []), .s (i6 0), .s (i6 0), .s (bo false), .s (SC.nilsl), .s (st []), .s (SC.nilsl), .s (st [])])]) (by kernel_rfl) ?_ ?_
    · exact trivial
    refine AMx.cond (b := decide (op = 0)) (by kernel_rfl) (fun hc2 => ?_) (fun hc2 => ?_)
    · try simp only [decide_eq_true_eq, decide_eq_false_iff_not] at hc2
      refine AMx.seq ?_
      refine AMx.region (ces := []) (ks := [2, 3]) (hs := [2]) (cs := []) (s' := AS.lst 58 [(2, vp 2 0), (3, vc (i6 22))] [(2, AObj.row [.s (u8 0), .s (st []), .s (st []), .s (st []), .s (i6 0), .s (i6 0), .s (bo false), .s (SC.nilsl), .s (st []), .s (SC.nilsl), .s (st [])])]) (by kernel_rfl) ?_ ?_
      · exact trivial
      refine AMx.ent (ent_row 2 (l := [.s (u8 0), .s (st []), .s (st []), .s (st []), .s (i6 0), .s (i6 0), .s (bo false), .s (SC.nilsl), .s (st []), .s (SC.nilsl), .s (st [])]) (m := [.s (u8 0), .s (st []), .s (st []), .s (st []), .s (i6 0), .s (i6 0), .s (bo false), .s (AL.Fnv.slI []), .s (st []), .s (Policy.slP []), .s (st [])]) (by kernel_rfl) ⟨AC.le_rfl, AC.le_rfl, AC.le_rfl, AC.le_rfl, AC.le_rfl, AC.le_rfl, AC.le_rfl, AC.le_nil, AC.le_rfl, AC.le_nil, AC.le_rfl, trivial⟩) ?_
      refine AMx.ret ?_
      exact RetP.mk (r := AV.tup [TV.agg [.s (u8 0), .s (st []), .s (st []), .s (st []), .s (i6 0), .s (i6 0), .s (bo false), .s (AL.Fnv.slI []), .s (st []), .s (Policy.slP []), .s (st [])], tc (i6 22)]) (by kernel_rfl) (by rw [show parseA s = ((⟨0, [], [], [], 0, 0, false, [], [], [], []⟩ : AskV), 22) from by first | exact parse_5 (by omega) | exact parse_22 hop (by omega) (by assumption) | exact parse_4 hop (by omega) (by assumption) (by assumption) | exact parse_e hop (by omega) (by assumption) (by omega) (by omega) hN (by assumption) | exact parse_0 hop (by omega) (by assumption) (by omega) (by omega) hN])
    · try simp only [decide_eq_true_eq, decide_eq_false_iff_not] at hc2
      refine AMx.skip ?_
      refine AMx.seq ?_
      refine AMx.region (ces := [(2, CE.call [] [] (AV.t (TV.agg [.s (st (wordS op)), .s (st (kindS op))])) [])]) (ks := [2, 4, 5, 6]) (hs := [2, 5]) (cs := [Spec Tryd.prog 23 [tc (u8 op)] (ofH []) (AV.t (TV.agg [.s (st (wordS op)), .s (st (kindS op))])) (ofH [])]) (s' := AS.lst 58 [(2, vp 2 0), (4, vc (AL.Fnv.slS (AL.Sep.splitC 32 s))), (5, vp 5 0), (6, vc (st (kindS op)))] [(2, AObj.row [.s (u8 0), .s (st []), .s (st []), .s (st []), .s (i6 0), .s (i6 0), .s (bo false), .s (SC.nilsl), .s (st []), .s (SC.nilsl), .s (st [])]), (5, AObj.row [.s (u8 op), .s (st []), .s (st []), .s (st []), .s (i6 0), .s (i6 0), .s (bo false), .s (SC.nilsl), .s (st []), .s (SC.nilsl), .s (st [])])]) (by kernel_rfl) ?_ ?_
      · exact (formOf_c op)
      refine AMx.seq ?_
      refine AMx.seq ?_
      refine AMx.region (ces := []) (ks := [2, 4, 5, 6, 34]) (hs := [2, 5]) (cs := [InR .i64 (1 + (List.length (kindS op : List UInt8) : Int))]) (s' := AS.lst 58 [(2, vp 2 0), (4, vc (AL.Fnv.slS (AL.Sep.splitC 32 s))), (5, vp 5 0), (6, vc (st (kindS op))), (34, vc (bo (!decide ((List.length (AL.Sep.splitC 32 s : List Bytes) : Int) = 1 + (List.length (kindS op : List UInt8) : Int)))))] [(2, AObj.row [.s (u8 0), .s (st []), .s (st []), .s (st []), .s (i6 0), .s (i6 0), .s (bo false), .s (SC.nilsl), .s (st []), .s (SC.nilsl), .s (st [])]), (5, AObj.row [.s (u8 op), .s (st []), .s (st []), .s (st []), .s (i6 0), .s (i6 0), .s (bo false), .s (SC.nilsl), .s (st []), .s (SC.nilsl), .s (st [])])]) (by kernel_rfl) ?_ ?_
      · exact (show InR .i64 (1 + (List.length (kindS op : List UInt8) : Int)) from (inR64 (by first | omega | (have z := (kind_len op).1; omega) | (have z := Sep.mem_len (Lib.getD_mem [] (AL.Sep.splitC 32 s) (1 + pos) (by omega)); omega)) (by first | omega | (have z := (kind_len op).1; omega) | (have z := Sep.mem_len (Lib.getD_mem [] (AL.Sep.splitC 32 s) (1 + pos) (by omega)); omega))))
      refine AMx.cond (b := !decide ((List.length (AL.Sep.splitC 32 s : List Bytes) : Int) = 1 + (List.length (kindS op : List UInt8) : Int))) (by kernel_rfl) (fun hc3 => ?_) (fun hc3 => ?_)
      · try simp only [decide_eq_true_eq, decide_eq_false_iff_not, Bool.not_eq_true', Bool.not_eq_false'] at hc3
        refine AMx.seq ?_
        refine AMx.region (ces := []) (ks := [2, 3]) (hs := [2]) (cs := []) (s' := AS.lst 58 [(2, vp 2 0), (3, vc (i6 4))] [(2, AObj.row [.s (u8 0), .s (st []), .s (st []), .s (st []), .s (i6 0), .s (i6 0), .s (bo false), .s (SC.nilsl), .s (st []), .s (SC.nilsl), .s (st [])])]) (by kernel_rfl) ?_ ?_
        · exact trivial
        refine AMx.ent (ent_row 2 (l := [.s (u8 0), .s (st []), .s (st []), .s (st []), .s (i6 0), .s (i6 0), .s (bo false), .s (SC.nilsl), .s (st []), .s (SC.nilsl), .s (st [])]) (m := [.s (u8 0), .s (st []), .s (st []), .s (st []), .s (i6 0), .s (i6 0), .s (bo false), .s (AL.Fnv.slI []), .s (st []), .s (Policy.slP []), .s (st [])]) (by kernel_rfl) ⟨AC.le_rfl, AC.le_rfl, AC.le_rfl, AC.le_rfl, AC.le_rfl, AC.le_rfl, AC.le_rfl, AC.le_nil, AC.le_rfl, AC.le_nil, AC.le_rfl, trivial⟩) ?_
        refine AMx.ret ?_
        exact RetP.mk (r := AV.tup [TV.agg [.s (u8 0), .s (st []), .s (st []), .s (st []), .s (i6 0), .s (i6 0), .s (bo false), .s (AL.Fnv.slI []), .s (st []), .s (Policy.slP []), .s (st [])], tc (i6 4)]) (by kernel_rfl) (by rw [show parseA s = ((⟨0, [], [], [], 0, 0, false, [], [], [], []⟩ : AskV), 4) from by first | exact parse_5 (by omega) | exact parse_22 hop (by omega) (by assumption) | exact parse_4 hop (by omega) (by assumption) (by assumption) | exact parse_e hop (by omega) (by assumption) (by omega) (by omega) hN (by assumption) | exact parse_0 hop (by omega) (by assumption) (by omega) (by omega) hN])
      · try simp only [decide_eq_true_eq, decide_eq_false_iff_not, Bool.not_eq_true', Bool.not_eq_false'] at hc3
        refine AMx.skip ?_
        refine AMx.seq ?_
        refine AMx.seq ?_
        refine AMx.region (ces := []) (ks := [2, 4, 5, 37]) (hs := [2, 5, 37]) (cs := []) (s' := AS.lst 58 [(2, vp 2 0), (4, vc (AL.Fnv.slS (AL.Sep.splitC 32 s))), (5, vp 5 0), (37, vp 37 0)] [(2, AObj.row [.s (u8 0), .s (st []), .s (st []), .s (st []), .s (i6 0), .s (i6 0), .s (bo false), .s (SC.nilsl), .s (st []), .s (SC.nilsl), .s (st [])]), (5, AObj.row [.s (u8 op), .s (st []), .s (st []), .s (st []), .s (i6 0), .s (i6 0), .s (bo false), .s (SC.nilsl), .s (st []), .s (SC.nilsl), .s (st [])]), (37, AObj.iter (kindS op) 0)]) (by kernel_rfl) ?_ ?_
        · exact trivial
        refine AMx.block ?_
        refine AMx.ent (ent_row 5 (l := [.s (u8 op), .s (st []), .s (st []), .s (st []), .s (i6 0), .s (i6 0), .s (bo false), .s (SC.nilsl), .s (st []), .s (SC.nilsl), .s (st [])]) (m := [.s (u8 op), .s (st []), .s (st []), .s (st []), .s (i6 0), .s (i6 0), .s (bo false), .s (AL.Fnv.slI []), .s (st []), .s (Policy.slP []), .s (st [])]) (by kernel_rfl) ⟨AC.le_rfl, AC.le_rfl, AC.le_rfl, AC.le_rfl, AC.le_rfl, AC.le_rfl, AC.le_rfl, AC.le_nil, AC.le_rfl, AC.le_nil, AC.le_rfl, trivial⟩) ?_
        refine AMx.ent (s' := AS.lst 58 [(2, vp 2 0), (4, vc (AL.Fnv.slS (AL.Sep.splitC 32 s))), (5, vp 5 0), (37, vp 37 0)] [(2, AObj.row [.s (u8 0), .s (st []), .s (st []), .s (st []), .s (i6 0), .s (i6 0), .s (bo false), .s (SC.nilsl), .s (st []), .s (SC.nilsl), .s (st [])]), (5, AObj.row [.s (u8 op), .s (st []), .s (st []), .s (st []), .s (i6 0), .s (i6 0), .s (bo false), .s (AL.Fnv.slI []), .s (st []), .s (Policy.slP []), .s (st [])]), (37, AObj.iter (kindS op) 0)]) (ent_proj [2, 4, 5, 37] [2, 5, 37]) ?_
        refine AMx.loop (fun mm ss => ∃ (pos : Nat) (b : AskV), (pos ≤ (kindS op).length ∧ ReadAt ({ askd with op := op } : AskV) (kindS op) (List.drop 1 (AL.Sep.splitC 32 s)) pos b) ∧ mm = (kindS op).length - pos ∧ ss = AS.lst 58 [(2, vp 2 0), (4, vc (AL.Fnv.slS (AL.Sep.splitC 32 s))), (5, vp 5 0), (37, vp 37 0)] [(2, AObj.row [.s (u8 0), .s (st []), .s (st []), .s (st []), .s (i6 0), .s (i6 0), .s (bo false), .s (SC.nilsl), .s (st []), .s (SC.nilsl), .s (st [])]), (5, AObj.row (rwA b)), (37, AObj.iter (kindS op) pos)]) ⟨0, ({ askd with op := op } : AskV), ?_, rfl, ?_⟩ ?_
        · exact ⟨Nat.zero_le _, readat_0 _ _ _⟩
        · rfl
        rintro mm ss ⟨pos, b, ⟨hI, hN⟩, rfl, rfl⟩
        refine AMx.seq ?_
        rcases Nat.lt_or_ge pos (List.length (kindS op : List UInt8)) with hn1 | hn1
        · have hd1 := AL.Rune.dec_ok hn1
          refine AMx.region (ces := [(0, CE.str [])]) (ks := [2, 4, 5, 37, 38, 39]) (hs := [2, 5, 37]) (cs := [pos < List.length (kindS op : List UInt8), ((pos : Nat) : Int) ≤ 9223372036854775807]) (s' := AS.lst 58 [(2, vp 2 0), (4, vc (AL.Fnv.slS (AL.Sep.splitC 32 s))), (5, vp 5 0), (37, vp 37 0), (38, AV.tup [tc (bo true), tc (i6 (pos : Int)), tc (i3 ((decS (kindS op) pos).1 : Int))]), (39, vc (bo true))] [(2, AObj.row [.s (u8 0), .s (st []), .s (st []), .s (st []), .s (i6 0), .s (i6 0), .s (bo false), .s (SC.nilsl), .s (st []), .s (SC.nilsl), .s (st [])]), (5, AObj.row (rwA b)), (37, AObj.iter (kindS op) (pos + (decS (kindS op) pos).2))]) (by kernel_rfl) ?_ ?_
          · exact ⟨(show pos < List.length (kindS op : List UInt8) from (by first | omega | (have z := (kind_len op).1; omega) | (have z := Sep.mem_len (Lib.getD_mem [] (AL.Sep.splitC 32 s) (1 + pos) (by omega)); omega))), (show ((pos : Nat) : Int) ≤ 9223372036854775807 from (by first | omega | (have z := (kind_len op).1; omega) | (have z := Sep.mem_len (Lib.getD_mem [] (AL.Sep.splitC 32 s) (1 + pos) (by omega)); omega)))⟩
          rw [show pos + (decS (kindS op) pos).2 = pos + 1 from by rw [kind_dec op (by omega)]]
          rw [show (decS (kindS op) pos).1 = (List.getD (kindS op) pos 0).toNat from by rw [kind_dec op (by omega)]]
          refine AMx.seq ?_
          refine AMx.cond (b := true) (by kernel_rfl) (fun hc4 => ?_) (fun hc4 => ?_)
          · skip
            refine AMx.skip ?_
            refine AMx.block ?_
            refine AMx.seq ?_
            refine AMx.region (ces := []) (ks := [2, 4, 5, 7, 8, 37]) (hs := [2, 5, 37]) (cs := []) (s' := AS.lst 58 [(2, vp 2 0), (4, vc (AL.Fnv.slS (AL.Sep.splitC 32 s))), (5, vp 5 0), (7, vc (i6 (pos : Int))), (8, vc (i3 ((List.getD (kindS op) pos 0).toNat : Int))), (37, vp 37 0)] [(2, AObj.row [.s (u8 0), .s (st []), .s (st []), .s (st []), .s (i6 0), .s (i6 0), .s (bo false), .s (SC.nilsl), .s (st []), .s (SC.nilsl), .s (st [])]), (5, AObj.row (rwA b)), (37, AObj.iter (kindS op) (pos + 1))]) (by kernel_rfl) ?_ ?_
            · exact trivial
            refine AMx.seq ?_
            refine AMx.region (ces := []) (ks := [2, 4, 5, 7, 8, 37]) (hs := [2, 5, 37]) (cs := []) (s' := AS.lst 58 [(2, vp 2 0), (4, vc (AL.Fnv.slS (AL.Sep.splitC 32 s))), (5, vp 5 0), (7, vc (i6 (pos : Int))), (8, vc (i3 ((List.getD (kindS op) pos 0).toNat : Int))), (37, vp 37 0)] [(2, AObj.row [.s (u8 0), .s (st []), .s (st []), .s (st []), .s (i6 0), .s (i6 0), .s (bo false), .s (SC.nilsl), .s (st []), .s (SC.nilsl), .s (st [])]), (5, AObj.row (rwA b)), (37, AObj.iter (kindS op) (pos + 1))]) (by kernel_rfl) ?_ ?_
            · exact trivial
            refine AMx.seq ?_
            refine AMx.region_draw (ces := [(7, CE.call [] [] (AV.tup [TV.agg (rwA ((readA b ((List.getD (kindS op) pos 0).toNat : Int) (List.getD (AL.Sep.splitC 32 s) (1 + pos) [])).1)), tc (i6 ((readA b ((List.getD (kindS op) pos 0).toNat : Int) (List.getD (AL.Sep.splitC 32 s) (1 + pos) [])).2))]) [])]) (ros := [(0, [5]), (11, [5])]) (ks := [2, 4, 5, 9, 37]) (hs := [2, 5, 37]) (cs := [InR .i64 (1 + (pos : Int)), (0 : Int) ≤ 1 + (pos : Int), 1 + (pos : Int) < List.length (AL.Sep.splitC 32 s : List Bytes), Spec Tryd.prog 24 [TV.agg (rwA b), tc (i3 ((List.getD (kindS op) pos 0).toNat : Int)), tc (st (List.getD (AL.Sep.splitC 32 s) (1 + pos) []))] (ofH []) (AV.tup [TV.agg (rwA ((readA b ((List.getD (kindS op) pos 0).toNat : Int) (List.getD (AL.Sep.splitC 32 s) (1 + pos) [])).1)), tc (i6 ((readA b ((List.getD (kindS op) pos 0).toNat : Int) (List.getD (AL.Sep.splitC 32 s) (1 + pos) [])).2))]) (ofH [])]) (s' := AS.lst 58 [(2, vp 2 0), (4, vc (AL.Fnv.slS (AL.Sep.splitC 32 s))), (5, vp 5 0), (9, vc (i6 ((readA b ((List.getD (kindS op) pos 0).toNat : Int) (List.getD (AL.Sep.splitC 32 s) (1 + pos) [])).2))), (37, vp 37 0)] [(2, AObj.row [.s (u8 0), .s (st []), .s (st []), .s (st []), .s (i6 0), .s (i6 0), .s (bo false), .s (SC.nilsl), .s (st []), .s (SC.nilsl), .s (st [])]), (5, AObj.row (rwA ((readA b ((List.getD (kindS op) pos 0).toNat : Int) (List.getD (AL.Sep.splitC 32 s) (1 + pos) [])).1))), (37, AObj.iter (kindS op) (pos + 1))]) mixed (by kernel_rfl) ?_ ?_
            · exact ⟨(show InR .i64 (1 + (pos : Int)) from (inR64 (by first | omega | (have z := (kind_len op).1; omega) | (have z := Sep.mem_len (Lib.getD_mem [] (AL.Sep.splitC 32 s) (1 + pos) (by omega)); omega)) (by first | omega | (have z := (kind_len op).1; omega) | (have z := Sep.mem_len (Lib.getD_mem [] (AL.Sep.splitC 32 s) (1 + pos) (by omega)); omega)))), (show (0 : Int) ≤ 1 + (pos : Int) from (by first | omega | (have z := (kind_len op).1; omega) | (have z := Sep.mem_len (Lib.getD_mem [] (AL.Sep.splitC 32 s) (1 + pos) (by omega)); omega))), (show 1 + (pos : Int) < List.length (AL.Sep.splitC 32 s : List Bytes) from (by first | omega | (have z := (kind_len op).1; omega) | (have z := Sep.mem_len (Lib.getD_mem [] (AL.Sep.splitC 32 s) (1 + pos) (by omega)); omega))), (read_c2 b ((List.getD (kindS op) pos 0).toNat : Int) (List.getD (AL.Sep.splitC 32 s) (1 + pos) []) (by exact (kind_let op).1 _ (Lib.getD_mem 0 _ pos (by omega))) (by first | omega | (have z := (kind_len op).1; omega) | (have z := Sep.mem_len (Lib.getD_mem [] (AL.Sep.splitC 32 s) (1 + pos) (by omega)); omega)))⟩
            refine AMx.seq ?_
            refine AMx.region (ces := []) (ks := [2, 4, 5, 9, 37, 54]) (hs := [2, 5, 37]) (cs := []) (s' := AS.lst 58 [(2, vp 2 0), (4, vc (AL.Fnv.slS (AL.Sep.splitC 32 s))), (5, vp 5 0), (9, vc (i6 ((readA b ((List.getD (kindS op) pos 0).toNat : Int) (List.getD (AL.Sep.splitC 32 s) (1 + pos) [])).2))), (37, vp 37 0), (54, vc (bo (!decide ((readA b ((List.getD (kindS op) pos 0).toNat : Int) (List.getD (AL.Sep.splitC 32 s) (1 + pos) [])).2 = 0))))] [(2, AObj.row [.s (u8 0), .s (st []), .s (st []), .s (st []), .s (i6 0), .s (i6 0), .s (bo false), .s (SC.nilsl), .s (st []), .s (SC.nilsl), .s (st [])]), (5, AObj.row (rwA ((readA b ((List.getD (kindS op) pos 0).toNat : Int) (List.getD (AL.Sep.splitC 32 s) (1 + pos) [])).1))), (37, AObj.iter (kindS op) (pos + 1))]) (by kernel_rfl) ?_ ?_
            · exact trivial
            refine AMx.cond (b := !decide ((readA b ((List.getD (kindS op) pos 0).toNat : Int) (List.getD (AL.Sep.splitC 32 s) (1 + pos) [])).2 = 0)) (by kernel_rfl) (fun hc5 => ?_) (fun hc5 => ?_)
            · try simp only [decide_eq_true_eq, decide_eq_false_iff_not, Bool.not_eq_true', Bool.not_eq_false'] at hc5
              refine AMx.seq ?_
              refine AMx.region (ces := []) (ks := [2, 3]) (hs := [2]) (cs := []) (s' := AS.lst 58 [(2, vp 2 0), (3, vc (i6 ((readA b ((List.getD (kindS op) pos 0).toNat : Int) (List.getD (AL.Sep.splitC 32 s) (1 + pos) [])).2)))] [(2, AObj.row [.s (u8 0), .s (st []), .s (st []), .s (st []), .s (i6 0), .s (i6 0), .s (bo false), .s (SC.nilsl), .s (st []), .s (SC.nilsl), .s (st [])])]) (by kernel_rfl) ?_ ?_
              · exact trivial
              refine AMx.ent (ent_row 2 (l := [.s (u8 0), .s (st []), .s (st []), .s (st []), .s (i6 0), .s (i6 0), .s (bo false), .s (SC.nilsl), .s (st []), .s (SC.nilsl), .s (st [])]) (m := [.s (u8 0), .s (st []), .s (st []), .s (st []), .s (i6 0), .s (i6 0), .s (bo false), .s (AL.Fnv.slI []), .s (st []), .s (Policy.slP []), .s (st [])]) (by kernel_rfl) ⟨AC.le_rfl, AC.le_rfl, AC.le_rfl, AC.le_rfl, AC.le_rfl, AC.le_rfl, AC.le_rfl, AC.le_nil, AC.le_rfl, AC.le_nil, AC.le_rfl, trivial⟩) ?_
              refine AMx.ret ?_
              exact RetP.mk (r := AV.tup [TV.agg [.s (u8 0), .s (st []), .s (st []), .s (st []), .s (i6 0), .s (i6 0), .s (bo false), .s (AL.Fnv.slI []), .s (st []), .s (Policy.slP []), .s (st [])], tc (i6 ((readA b ((List.getD (kindS op) pos 0).toNat : Int) (List.getD (AL.Sep.splitC 32 s) (1 + pos) [])).2))]) (by kernel_rfl) (by rw [show parseA s = ((⟨0, [], [], [], 0, 0, false, [], [], [], []⟩ : AskV), (readA b ((List.getD (kindS op) pos 0).toNat : Int) (List.getD (AL.Sep.splitC 32 s) (1 + pos) [])).2) from by first | exact parse_5 (by omega) | exact parse_22 hop (by omega) (by assumption) | exact parse_4 hop (by omega) (by assumption) (by assumption) | exact parse_e hop (by omega) (by assumption) (by omega) (by omega) hN (by assumption) | exact parse_0 hop (by omega) (by assumption) (by omega) (by omega) hN])
            · try simp only [decide_eq_true_eq, decide_eq_false_iff_not, Bool.not_eq_true', Bool.not_eq_false'] at hc5
              refine AMx.skip ?_
              refine AMx.blk ?_
              refine AMx.ent_inv (s' := AS.lst 58 [(2, vp 2 0), (4, vc (AL.Fnv.slS (AL.Sep.splitC 32 s))), (5, vp 5 0), (37, vp 37 0)] [(2, AObj.row [.s (u8 0), .s (st []), .s (st []), .s (st []), .s (i6 0), .s (i6 0), .s (bo false), .s (SC.nilsl), .s (st []), .s (SC.nilsl), .s (st [])]), (5, AObj.row (rwA ((readA b ((List.getD (kindS op) pos 0).toNat : Int) (List.getD (AL.Sep.splitC 32 s) (1 + pos) [])).1))), (37, AObj.iter (kindS op) (pos + 1))]) (ent_proj [2, 4, 5, 37] [2, 5, 37]) ?_
              refine AMx.inv ⟨_, ?_, pos + 1, (readA b ((List.getD (kindS op) pos 0).toNat : Int) (List.getD (AL.Sep.splitC 32 s) (1 + pos) [])).1, ?_, rfl, ?_⟩
              rotate_left
              · exact ⟨by omega, readat_next (by omega) hN (by assumption)⟩
              · rfl
              · omega
          · skip
            cases hc4
        · skip
          refine AMx.region (ces := []) (ks := [2, 4, 5, 37, 38, 39]) (hs := [2, 5, 37]) (cs := [List.length (kindS op : List UInt8) ≤ pos]) (s' := AS.lst 58 [(2, vp 2 0), (4, vc (AL.Fnv.slS (AL.Sep.splitC 32 s))), (5, vp 5 0), (37, vp 37 0), (38, AV.tup [tc (bo false)]), (39, vc (bo false))] [(2, AObj.row [.s (u8 0), .s (st []), .s (st []), .s (st []), .s (i6 0), .s (i6 0), .s (bo false), .s (SC.nilsl), .s (st []), .s (SC.nilsl), .s (st [])]), (5, AObj.row (rwA b)), (37, AObj.iter (kindS op) pos)]) (by kernel_rfl) ?_ ?_
          · exact (show List.length (kindS op : List UInt8) ≤ pos from (by first | omega | (have z := (kind_len op).1; omega) | (have z := Sep.mem_len (Lib.getD_mem [] (AL.Sep.splitC 32 s) (1 + pos) (by omega)); omega)))
          refine AMx.seq ?_
          refine AMx.cond (b := false) (by kernel_rfl) (fun hc6 => ?_) (fun hc6 => ?_)
          · skip
            cases hc6
          · skip
            refine AMx.exit ?_
            refine AMx.code_exit ?_
            refine AMx.inv_exit ?_
            refine AMx.blk_exit ?_
            refine AMx.seq ?_
            refine AMx.region (ces := []) (ks := [2, 3]) (hs := [2]) (cs := []) (s' := AS.lst 58 [(2, vp 2 0), (3, vc (i6 0))] [(2, AObj.row (rwA b))]) (by kernel_rfl) ?_ ?_
            · exact trivial
            refine AMx.ret ?_
            exact RetP.mk (r := AV.tup [TV.agg (rwA b), tc (i6 0)]) (by kernel_rfl) (by rw [show parseA s = (b, 0) from by first | exact parse_5 (by omega) | exact parse_22 hop (by omega) (by assumption) | exact parse_4 hop (by omega) (by assumption) (by assumption) | exact parse_e hop (by omega) (by assumption) (by omega) (by omega) hN (by assumption) | exact parse_0 hop (by omega) (by assumption) (by omega) (by omega) hN])

end AL.Ask
