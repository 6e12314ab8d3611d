/- separators: Split and Cut of the library, by their walks. No condition. -/
import Derived.Test.YtiiiecdfganahaaDoorSepE
import Derived.Test.YtiiiecdfganahaaDoorALe
namespace AL.Sep
open Go Go.Proofs AL
set_option linter.unusedVariables false
set_option linter.unusedSimpArgs false

theorem f30_body : Tryd.f30.body = some (.seq (.region 0 (rg Tryd.f30 0) false) (.seq (.seq (.region 1 (rg Tryd.f30 1) false) (.cond (.tmp 13) (.seq (.region 2 (rg Tryd.f30 2) false) (.ret)) (.skip))) (.seq (.seq (.region 3 (rg Tryd.f30 3) false) (.cond (.tmp 15) (.seq (.region 4 (rg Tryd.f30 4) false) (.ret)) (.skip))) (.seq (.seq (.region 5 (rg Tryd.f30 5) false) (.cond (.tmp 20) (.region 6 (rg Tryd.f30 6) false) (.skip))) (.seq (.region 7 (rg Tryd.f30 7) false) (.seq (.region 8 (rg Tryd.f30 8) false) (.seq (.region 9 (rg Tryd.f30 9) false) (.seq (.region 10 (rg Tryd.f30 10) false) (.seq (.block 0 (.loop (.seq (.seq (.region 11 (rg Tryd.f30 11) false) (.cond (.tmp 36) (.skip) (.exit 0))) (.block 1 (.seq (.region 12 (rg Tryd.f30 12) false) (.seq (.seq (.region 13 (rg Tryd.f30 13) false) (.cond (.tmp 41) (.exit 0) (.skip))) (.seq (.region 14 (rg Tryd.f30 14) false) (.seq (.region 15 (rg Tryd.f30 15) false) (.region 16 (rg Tryd.f30 16) false))))))))) (.seq (.region 17 (rg Tryd.f30 17) false) (.seq (.region 18 (rg Tryd.f30 18) false) (.ret)))))))))))) := by kernel_rfl

set_option maxRecDepth 100000 in
set_option maxHeartbeats 8000000 in
theorem genSplit_c (k : UInt8) (s : Bytes) (hb : s.length ≤ 100000) : Pure Tryd.prog 30 [tc (st s), tc (st [k]), tc (i6 0), tc (i6 (-1))] (vc (AL.Fnv.slS (splitC k s))) := by
  refine Pure.of_body Tryd.func30 f30_body (by kernel_rfl) Tryd.ntmps30 (by kernel_rfl) (by kernel_rfl) ?_
  have hn := gen_n k s
  have hcn : List.count k s ≤ s.length := List.count_le_length
  refine AMx.seq ?_
  refine AMx.region (ces := []) (ks := [0, 1, 2, 3]) (hs := []) (cs := []) (s' := AS.lst 66 [(0, vc (st s)), (1, vc (st [k])), (2, vc (i6 0)), (3, vc (i6 (-1)))] []) (by kernel_rfl) ?_ ?_
  · exact trivial
  refine AMx.seq ?_
  refine AMx.seq ?_
  refine AMx.region (ces := []) (ks := [0, 1, 2, 3, 13]) (hs := []) (cs := []) (s' := AS.lst 66 [(0, vc (st s)), (1, vc (st [k])), (2, vc (i6 0)), (3, vc (i6 (-1))), (13, vc (bo false))] []) (by kernel_rfl) ?_ ?_
  · exact trivial
  refine AMx.cond (b := false) (by kernel_rfl) (fun hc1 => ?_) (fun hc1 => ?_)
  · skip
    cases hc1
  · skip
    refine AMx.skip ?_
    refine AMx.seq ?_
    refine AMx.seq ?_
    refine AMx.region (ces := []) (ks := [0, 1, 2, 3, 15]) (hs := []) (cs := []) (s' := AS.lst 66 [(0, vc (st s)), (1, vc (st [k])), (2, vc (i6 0)), (3, vc (i6 (-1))), (15, vc (bo false))] []) (by kernel_rfl) ?_ ?_
    · exact trivial
    refine AMx.cond (b := false) (by kernel_rfl) (fun hc2 => ?_) (fun hc2 => ?_)
    · skip
      cases hc2
    · skip
      refine AMx.skip ?_
      refine AMx.seq ?_
      refine AMx.seq ?_
      refine AMx.region (ces := []) (ks := [0, 1, 2, 3, 20]) (hs := []) (cs := []) (s' := AS.lst 66 [(0, vc (st s)), (1, vc (st [k])), (2, vc (i6 0)), (3, vc (i6 (-1))), (20, vc (bo true))] []) (by kernel_rfl) ?_ ?_
      · exact trivial
      refine AMx.cond (b := true) (by kernel_rfl) (fun hc3 => ?_) (fun hc3 => ?_)
      · skip
        refine AMx.region (ces := [(2, CE.call [] [] (vc (i6 ((List.count (k : UInt8) s : Nat) : Int))) [])]) (ks := [0, 1, 2, 3]) (hs := []) (cs := [Spec Tryd.prog 46 [tc (st s), tc (st [k])] (ofH []) (vc (i6 ((List.count (k : UInt8) s : Nat) : Int))) (ofH []), InR .i64 (((List.count (k : UInt8) s : Nat) : Int) + 1)]) (s' := AS.lst 66 [(0, vc (st s)), (1, vc (st [k])), (2, vc (i6 0)), (3, vc (i6 (((List.count (k : UInt8) s : Nat) : Int) + 1)))] []) (by kernel_rfl) ?_ ?_
        · exact ⟨(AL.Sep.Count_c k s), (show InR .i64 (((List.count (k : UInt8) s : Nat) : Int) + 1) from (inR64 (by first | omega | (have hx := index_rng k c; first | omega | (simp only [List.length_cons, List.length_nil]; omega) | (have hz := gen_le hP; first | omega | (simp only [List.length_append, List.length_replicate, List.length_set]; omega)))) (by first | omega | (have hx := index_rng k c; first | omega | (simp only [List.length_cons, List.length_nil]; omega) | (have hz := gen_le hP; first | omega | (simp only [List.length_append, List.length_replicate, List.length_set]; omega))))))⟩
        refine AMx.seq ?_
        refine AMx.region (ces := []) (ks := [0, 1, 2, 3]) (hs := []) (cs := [InR .i64 ((List.length s : Int) + 1)]) (s' := AS.lst 66 [(0, vc (st s)), (1, vc (st [k])), (2, vc (i6 0)), (3, vc (i6 (min (((List.count (k : UInt8) s : Nat) : Int) + 1) ((List.length s : Int) + 1))))] []) (by kernel_rfl) ?_ ?_
        · exact (show InR .i64 ((List.length s : Int) + 1) from (inR64 (by first | omega | (have hx := index_rng k c; first | omega | (simp only [List.length_cons, List.length_nil]; omega) | (have hz := gen_le hP; first | omega | (simp only [List.length_append, List.length_replicate, List.length_set]; omega)))) (by first | omega | (have hx := index_rng k c; first | omega | (simp only [List.length_cons, List.length_nil]; omega) | (have hz := gen_le hP; first | omega | (simp only [List.length_append, List.length_replicate, List.length_set]; omega))))))
        refine AMx.seq ?_
        refine AMx.region (ces := [(1, CE.obj (AObj.grow 9 1 Bytes [] AL.Fnv.rowS (List.replicate (min (((List.count (k : UInt8) s : Nat) : Int) + 1) ((List.length s : Int) + 1)).toNat [])))]) (ks := [0, 1, 2, 3, 9]) (hs := [31]) (cs := [0 ≤ min (((List.count (k : UInt8) s : Nat) : Int) + 1) ((List.length s : Int) + 1), min (((List.count (k : UInt8) s : Nat) : Int) + 1) ((List.length s : Int) + 1) ≤ min (((List.count (k : UInt8) s : Nat) : Int) + 1) ((List.length s : Int) + 1), (16 : Int) * (min (((List.count (k : UInt8) s : Nat) : Int) + 1) ((List.length s : Int) + 1)) ≤ 281474976710656, min (((List.count (k : UInt8) s : Nat) : Int) + 1) ((List.length s : Int) + 1) ≤ 9223372036854775807, MakeC (min (((List.count (k : UInt8) s : Nat) : Int) + 1) ((List.length s : Int) + 1)).toNat [.s (st [])] (AObj.grow 9 1 Bytes [] AL.Fnv.rowS (List.replicate (min (((List.count (k : UInt8) s : Nat) : Int) + 1) ((List.length s : Int) + 1)).toNat []))]) (s' := AS.lst 66 [(0, vc (st s)), (1, vc (st [k])), (2, vc (i6 0)), (3, vc (i6 (min (((List.count (k : UInt8) s : Nat) : Int) + 1) ((List.length s : Int) + 1)))), (9, vo 31)] [(31, AObj.grow 9 1 Bytes [] AL.Fnv.rowS (List.replicate (min (((List.count (k : UInt8) s : Nat) : Int) + 1) ((List.length s : Int) + 1)).toNat []))]) (by kernel_rfl) ?_ ?_
        · exact ⟨(show 0 ≤ min (((List.count (k : UInt8) s : Nat) : Int) + 1) ((List.length s : Int) + 1) from (by first | omega | (have hx := index_rng k c; first | omega | (simp only [List.length_cons, List.length_nil]; omega) | (have hz := gen_le hP; first | omega | (simp only [List.length_append, List.length_replicate, List.length_set]; omega))))), (show min (((List.count (k : UInt8) s : Nat) : Int) + 1) ((List.length s : Int) + 1) ≤ min (((List.count (k : UInt8) s : Nat) : Int) + 1) ((List.length s : Int) + 1) from (by first | omega | (have hx := index_rng k c; first | omega | (simp only [List.length_cons, List.length_nil]; omega) | (have hz := gen_le hP; first | omega | (simp only [List.length_append, List.length_replicate, List.length_set]; omega))))), (show (16 : Int) * (min (((List.count (k : UInt8) s : Nat) : Int) + 1) ((List.length s : Int) + 1)) ≤ 281474976710656 from (by first | omega | (have hx := index_rng k c; first | omega | (simp only [List.length_cons, List.length_nil]; omega) | (have hz := gen_le hP; first | omega | (simp only [List.length_append, List.length_replicate, List.length_set]; omega))))), (show min (((List.count (k : UInt8) s : Nat) : Int) + 1) ((List.length s : Int) + 1) ≤ 9223372036854775807 from (by first | omega | (have hx := index_rng k c; first | omega | (simp only [List.length_cons, List.length_nil]; omega) | (have hz := gen_le hP; first | omega | (simp only [List.length_append, List.length_replicate, List.length_set]; omega))))), (⟨_, rfl, rfl⟩)⟩
        refine AMx.seq ?_
        refine AMx.region (ces := []) (ks := [0, 1, 2, 3, 9]) (hs := [31]) (cs := [InR .i64 ((min (((List.count (k : UInt8) s : Nat) : Int) + 1) ((List.length s : Int) + 1)) - 1)]) (s' := AS.lst 66 [(0, vc (st s)), (1, vc (st [k])), (2, vc (i6 0)), (3, vc (i6 ((min (((List.count (k : UInt8) s : Nat) : Int) + 1) ((List.length s : Int) + 1)) - 1))), (9, vo 31)] [(31, AObj.grow 9 1 Bytes [] AL.Fnv.rowS (List.replicate (min (((List.count (k : UInt8) s : Nat) : Int) + 1) ((List.length s : Int) + 1)).toNat []))]) (by kernel_rfl) ?_ ?_
        · exact (show InR .i64 ((min (((List.count (k : UInt8) s : Nat) : Int) + 1) ((List.length s : Int) + 1)) - 1) from (inR64 (by first | omega | (have hx := index_rng k c; first | omega | (simp only [List.length_cons, List.length_nil]; omega) | (have hz := gen_le hP; first | omega | (simp only [List.length_append, List.length_replicate, List.length_set]; omega)))) (by first | omega | (have hx := index_rng k c; first | omega | (simp only [List.length_cons, List.length_nil]; omega) | (have hz := gen_le hP; first | omega | (simp only [List.length_append, List.length_replicate, List.length_set]; omega))))))
        refine AMx.seq ?_
        refine AMx.region (ces := []) (ks := [0, 1, 2, 3, 9, 10]) (hs := [31]) (cs := []) (s' := AS.lst 66 [(0, vc (st s)), (1, vc (st [k])), (2, vc (i6 0)), (3, vc (i6 ((min (((List.count (k : UInt8) s : Nat) : Int) + 1) ((List.length s : Int) + 1)) - 1))), (9, vo 31), (10, vc (i6 0))] [(31, AObj.grow 9 1 Bytes [] AL.Fnv.rowS (List.replicate (min (((List.count (k : UInt8) s : Nat) : Int) + 1) ((List.length s : Int) + 1)).toNat []))]) (by kernel_rfl) ?_ ?_
        · exact trivial
        refine AMx.seq ?_
        refine AMx.block ?_
        refine AMx.ent (s' := AS.lst 66 [(0, vc (st s)), (1, vc (st [k])), (2, vc (i6 0)), (3, vc (i6 ((min (((List.count (k : UInt8) s : Nat) : Int) + 1) ((List.length s : Int) + 1)) - 1))), (9, vo 31), (10, vc (i6 0))] [(31, AObj.grow 9 1 Bytes [] AL.Fnv.rowS (List.replicate (min (((List.count (k : UInt8) s : Nat) : Int) + 1) ((List.length s : Int) + 1)).toNat []))]) (ent_proj [0, 1, 2, 3, 9, 10] [31]) ?_
        refine AMx.loop (fun mm ss => ∃ (o : List Bytes) (c : Bytes), (splitC k s = o ++ splitC k c ∧ c.length ≤ s.length) ∧ mm = c.length ∧ ss = AS.lst 66 [(0, vc (st c)), (1, vc (st [k])), (2, vc (i6 0)), (3, vc (i6 ((min (((List.count (k : UInt8) s : Nat) : Int) + 1) ((List.length s : Int) + 1)) - 1))), (9, vo 31), (10, vc (i6 (List.length o : Int)))] [(31, AObj.grow 9 1 Bytes [] AL.Fnv.rowS (o ++ List.replicate (splitC k c).length []))]) ⟨[], s, ?_, rfl, ?_⟩ ?_
        · exact ⟨rfl, Nat.le_refl _⟩
        · rw [hn]; rfl
        rintro mm ss ⟨o, c, ⟨hP, hL⟩, rfl, rfl⟩
        refine AMx.seq ?_
        refine AMx.seq ?_
        refine AMx.region (ces := []) (ks := [0, 1, 2, 3, 9, 10, 36]) (hs := [31]) (cs := []) (s' := AS.lst 66 [(0, vc (st c)), (1, vc (st [k])), (2, vc (i6 0)), (3, vc (i6 ((min (((List.count (k : UInt8) s : Nat) : Int) + 1) ((List.length s : Int) + 1)) - 1))), (9, vo 31), (10, vc (i6 (List.length o : Int))), (36, vc (bo (decide ((List.length o : Int) < (min (((List.count (k : UInt8) s : Nat) : Int) + 1) ((List.length s : Int) + 1)) - 1))))] [(31, AObj.grow 9 1 Bytes [] AL.Fnv.rowS (o ++ List.replicate (splitC k c).length []))]) (by kernel_rfl) ?_ ?_
        · exact trivial
        refine AMx.cond (b := decide ((List.length o : Int) < (min (((List.count (k : UInt8) s : Nat) : Int) + 1) ((List.length s : Int) + 1)) - 1)) (by kernel_rfl) (fun hc4 => ?_) (fun hc4 => ?_)
        · try simp only [decide_eq_true_eq, decide_eq_false_iff_not] at hc4
          refine AMx.skip ?_
          refine AMx.block ?_
          refine AMx.seq ?_
          refine AMx.region (ces := [(2, CE.call [] [] (vc (i6 (Go.Lib.indexByte c k))) [])]) (ks := [0, 1, 2, 3, 9, 10, 11]) (hs := [31]) (cs := [Spec Tryd.prog 47 [tc (st c), tc (st [k])] (ofH []) (vc (i6 (Go.Lib.indexByte c k))) (ofH [])]) (s' := AS.lst 66 [(0, vc (st c)), (1, vc (st [k])), (2, vc (i6 0)), (3, vc (i6 ((min (((List.count (k : UInt8) s : Nat) : Int) + 1) ((List.length s : Int) + 1)) - 1))), (9, vo 31), (10, vc (i6 (List.length o : Int))), (11, vc (i6 (Go.Lib.indexByte c k)))] [(31, AObj.grow 9 1 Bytes [] AL.Fnv.rowS (o ++ List.replicate (splitC k c).length []))]) (by kernel_rfl) ?_ ?_
          · exact (AL.Sep.Index_c k c)
          refine AMx.seq ?_
          refine AMx.seq ?_
          refine AMx.region (ces := []) (ks := [0, 1, 2, 3, 9, 10, 11, 41]) (hs := [31]) (cs := []) (s' := AS.lst 66 [(0, vc (st c)), (1, vc (st [k])), (2, vc (i6 0)), (3, vc (i6 ((min (((List.count (k : UInt8) s : Nat) : Int) + 1) ((List.length s : Int) + 1)) - 1))), (9, vo 31), (10, vc (i6 (List.length o : Int))), (11, vc (i6 (Go.Lib.indexByte c k))), (41, vc (bo (decide (Go.Lib.indexByte c k < 0))))] [(31, AObj.grow 9 1 Bytes [] AL.Fnv.rowS (o ++ List.replicate (splitC k c).length []))]) (by kernel_rfl) ?_ ?_
          · exact trivial
          refine AMx.cond (b := decide (Go.Lib.indexByte c k < 0)) (by kernel_rfl) (fun hc5 => ?_) (fun hc5 => ?_)
          · try simp only [decide_eq_true_eq, decide_eq_false_iff_not] at hc5
            refine AMx.exit ?_
            refine AMx.code_exit ?_
            refine AMx.blk_pass rfl ?_
            refine AMx.inv_exit ?_
            refine AMx.blk_exit ?_
            refine AMx.seq ?_
            refine AMx.region (ces := [(4, CE.obj (AObj.grow 9 1 Bytes [] AL.Fnv.rowS (List.set (o ++ List.replicate (splitC k c).length []) (List.length o) c)))]) (ks := [9, 10]) (hs := [31]) (cs := [(0 : Int) ≤ (List.length o : Int), (List.length o : Int) < List.length (o ++ List.replicate (splitC k c).length [] : List Bytes), StoreC (List.length o) 0 [.s (st c)] (AObj.grow 9 1 Bytes [] AL.Fnv.rowS (o ++ List.replicate (splitC k c).length [])) (AObj.grow 9 1 Bytes [] AL.Fnv.rowS (List.set (o ++ List.replicate (splitC k c).length []) (List.length o) c))]) (s' := AS.lst 66 [(9, vo 31), (10, vc (i6 (List.length o : Int)))] [(31, AObj.grow 9 1 Bytes [] AL.Fnv.rowS (List.set (o ++ List.replicate (splitC k c).length []) (List.length o) c))]) (by kernel_rfl) ?_ ?_
            · exact ⟨(show (0 : Int) ≤ (List.length o : Int) from (by first | omega | (have hx := index_rng k c; first | omega | (simp only [List.length_cons, List.length_nil]; omega) | (have hz := gen_le hP; first | omega | (simp only [List.length_append, List.length_replicate, List.length_set]; omega))))), (show (List.length o : Int) < List.length (o ++ List.replicate (splitC k c).length [] : List Bytes) from (by first | omega | (have hx := index_rng k c; first | omega | (simp only [List.length_cons, List.length_nil]; omega) | (have hz := gen_le hP; first | omega | (simp only [List.length_append, List.length_replicate, List.length_set]; omega))))), (⟨c, rfl, by first | omega | (have hx := index_rng k c; first | omega | (simp only [List.length_cons, List.length_nil]; omega) | (have hz := gen_le hP; first | omega | (simp only [List.length_append, List.length_replicate, List.length_set]; omega))), rfl⟩)⟩
            refine AMx.seq ?_
            refine AMx.region (ces := []) (ks := [8]) (hs := [65]) (cs := [InR .i64 ((List.length o : Int) + 1), 0 ≤ (List.length o : Int) + 1, (List.length o : Int) + 1 ≤ (List.length (List.set (o ++ List.replicate (splitC k c).length []) (List.length o) c : List Bytes) : Int)]) (s' := AS.lst 66 [(8, vo 65)] [(65, AObj.grow 9 1 Bytes [] AL.Fnv.rowS (List.take ((List.length o) + 1) (List.set (o ++ List.replicate (splitC k c).length []) (List.length o) c)))]) (by kernel_rfl) ?_ ?_
            · exact ⟨(show InR .i64 ((List.length o : Int) + 1) from (inR64 (by first | omega | (have hx := index_rng k c; first | omega | (simp only [List.length_cons, List.length_nil]; omega) | (have hz := gen_le hP; first | omega | (simp only [List.length_append, List.length_replicate, List.length_set]; omega)))) (by first | omega | (have hx := index_rng k c; first | omega | (simp only [List.length_cons, List.length_nil]; omega) | (have hz := gen_le hP; first | omega | (simp only [List.length_append, List.length_replicate, List.length_set]; omega)))))), (show 0 ≤ (List.length o : Int) + 1 from (by first | omega | (have hx := index_rng k c; first | omega | (simp only [List.length_cons, List.length_nil]; omega) | (have hz := gen_le hP; first | omega | (simp only [List.length_append, List.length_replicate, List.length_set]; omega))))), (show (List.length o : Int) + 1 ≤ (List.length (List.set (o ++ List.replicate (splitC k c).length []) (List.length o) c : List Bytes) : Int) from (by first | omega | (have hx := index_rng k c; first | omega | (simp only [List.length_cons, List.length_nil]; omega) | (have hz := gen_le hP; first | omega | (simp only [List.length_append, List.length_replicate, List.length_set]; omega)))))⟩
            refine AMx.ent (s' := AS.lst 66 [(8, vc (AL.Fnv.slS (List.take ((List.length o) + 1) (List.set (o ++ List.replicate (splitC k c).length []) (List.length o) c))))] []) (ent_freeze (id := 65) (T := 9) (by kernel_rfl)) ?_
            refine AMx.ret ?_
            exact RetP.mk (r := vc (AL.Fnv.slS (List.take ((List.length o) + 1) (List.set (o ++ List.replicate (splitC k c).length []) (List.length o) c)))) (by kernel_rfl) (by rw [gen_end hP (by first | exact index_none (by omega) | exact gen_last hP (by omega))])
          · try simp only [decide_eq_true_eq, decide_eq_false_iff_not] at hc5
            refine AMx.skip ?_
            refine AMx.seq ?_
            refine AMx.region (ces := [(8, CE.obj (AObj.grow 9 1 Bytes [] AL.Fnv.rowS (List.set (o ++ List.replicate (splitC k c).length []) (List.length o) (List.take ((Go.Lib.indexByte c k) + 0).toNat c))))]) (ks := [0, 1, 2, 3, 9, 10, 11]) (hs := [31]) (cs := [InR .i64 ((Go.Lib.indexByte c k) + 0), 0 ≤ (Go.Lib.indexByte c k) + 0, (Go.Lib.indexByte c k) + 0 ≤ List.length c, (0 : Int) ≤ (List.length o : Int), (List.length o : Int) < List.length (o ++ List.replicate (splitC k c).length [] : List Bytes), StoreC (List.length o) 0 [.s (st (List.take ((Go.Lib.indexByte c k) + 0).toNat c))] (AObj.grow 9 1 Bytes [] AL.Fnv.rowS (o ++ List.replicate (splitC k c).length [])) (AObj.grow 9 1 Bytes [] AL.Fnv.rowS (List.set (o ++ List.replicate (splitC k c).length []) (List.length o) (List.take ((Go.Lib.indexByte c k) + 0).toNat c)))]) (s' := AS.lst 66 [(0, vc (st c)), (1, vc (st [k])), (2, vc (i6 0)), (3, vc (i6 ((min (((List.count (k : UInt8) s : Nat) : Int) + 1) ((List.length s : Int) + 1)) - 1))), (9, vo 31), (10, vc (i6 (List.length o : Int))), (11, vc (i6 (Go.Lib.indexByte c k)))] [(31, AObj.grow 9 1 Bytes [] AL.Fnv.rowS (List.set (o ++ List.replicate (splitC k c).length []) (List.length o) (List.take ((Go.Lib.indexByte c k) + 0).toNat c)))]) (by kernel_rfl) ?_ ?_
            · exact ⟨(show InR .i64 ((Go.Lib.indexByte c k) + 0) from (inR64 (by first | omega | (have hx := index_rng k c; first | omega | (simp only [List.length_cons, List.length_nil]; omega) | (have hz := gen_le hP; first | omega | (simp only [List.length_append, List.length_replicate, List.length_set]; omega)))) (by first | omega | (have hx := index_rng k c; first | omega | (simp only [List.length_cons, List.length_nil]; omega) | (have hz := gen_le hP; first | omega | (simp only [List.length_append, List.length_replicate, List.length_set]; omega)))))), (show 0 ≤ (Go.Lib.indexByte c k) + 0 from (by first | omega | (have hx := index_rng k c; first | omega | (simp only [List.length_cons, List.length_nil]; omega) | (have hz := gen_le hP; first | omega | (simp only [List.length_append, List.length_replicate, List.length_set]; omega))))), (show (Go.Lib.indexByte c k) + 0 ≤ List.length c from (by first | omega | (have hx := index_rng k c; first | omega | (simp only [List.length_cons, List.length_nil]; omega) | (have hz := gen_le hP; first | omega | (simp only [List.length_append, List.length_replicate, List.length_set]; omega))))), (show (0 : Int) ≤ (List.length o : Int) from (by first | omega | (have hx := index_rng k c; first | omega | (simp only [List.length_cons, List.length_nil]; omega) | (have hz := gen_le hP; first | omega | (simp only [List.length_append, List.length_replicate, List.length_set]; omega))))), (show (List.length o : Int) < List.length (o ++ List.replicate (splitC k c).length [] : List Bytes) from (by first | omega | (have hx := index_rng k c; first | omega | (simp only [List.length_cons, List.length_nil]; omega) | (have hz := gen_le hP; first | omega | (simp only [List.length_append, List.length_replicate, List.length_set]; omega))))), (⟨List.take ((Go.Lib.indexByte c k) + 0).toNat c, rfl, by first | omega | (have hx := index_rng k c; first | omega | (simp only [List.length_cons, List.length_nil]; omega) | (have hz := gen_le hP; first | omega | (simp only [List.length_append, List.length_replicate, List.length_set]; omega))), rfl⟩)⟩
            refine AMx.seq ?_
            refine AMx.region (ces := []) (ks := [0, 1, 2, 3, 9, 10]) (hs := [31]) (cs := [InR .i64 ((Go.Lib.indexByte c k) + (List.length ([k] : List UInt8) : Int)), 0 ≤ (Go.Lib.indexByte c k) + (List.length ([k] : List UInt8) : Int), (Go.Lib.indexByte c k) + (List.length ([k] : List UInt8) : Int) ≤ List.length c]) (s' := AS.lst 66 [(0, vc (st (List.drop ((Go.Lib.indexByte c k) + (List.length ([k] : List UInt8) : Int)).toNat c))), (1, vc (st [k])), (2, vc (i6 0)), (3, vc (i6 ((min (((List.count (k : UInt8) s : Nat) : Int) + 1) ((List.length s : Int) + 1)) - 1))), (9, vo 31), (10, vc (i6 (List.length o : Int)))] [(31, AObj.grow 9 1 Bytes [] AL.Fnv.rowS (List.set (o ++ List.replicate (splitC k c).length []) (List.length o) (List.take ((Go.Lib.indexByte c k) + 0).toNat c)))]) (by kernel_rfl) ?_ ?_
            · exact ⟨(show InR .i64 ((Go.Lib.indexByte c k) + (List.length ([k] : List UInt8) : Int)) from (inR64 (by first | omega | (have hx := index_rng k c; first | omega | (simp only [List.length_cons, List.length_nil]; omega) | (have hz := gen_le hP; first | omega | (simp only [List.length_append, List.length_replicate, List.length_set]; omega)))) (by first | omega | (have hx := index_rng k c; first | omega | (simp only [List.length_cons, List.length_nil]; omega) | (have hz := gen_le hP; first | omega | (simp only [List.length_append, List.length_replicate, List.length_set]; omega)))))), (show 0 ≤ (Go.Lib.indexByte c k) + (List.length ([k] : List UInt8) : Int) from (by first | omega | (have hx := index_rng k c; first | omega | (simp only [List.length_cons, List.length_nil]; omega) | (have hz := gen_le hP; first | omega | (simp only [List.length_append, List.length_replicate, List.length_set]; omega))))), (show (Go.Lib.indexByte c k) + (List.length ([k] : List UInt8) : Int) ≤ List.length c from (by first | omega | (have hx := index_rng k c; first | omega | (simp only [List.length_cons, List.length_nil]; omega) | (have hz := gen_le hP; first | omega | (simp only [List.length_append, List.length_replicate, List.length_set]; omega)))))⟩
            refine AMx.region (ces := []) (ks := [0, 1, 2, 3, 9, 10]) (hs := [31]) (cs := [InR .i64 ((List.length o : Int) + 1)]) (s' := AS.lst 66 [(0, vc (st (List.drop ((Go.Lib.indexByte c k) + (List.length ([k] : List UInt8) : Int)).toNat c))), (1, vc (st [k])), (2, vc (i6 0)), (3, vc (i6 ((min (((List.count (k : UInt8) s : Nat) : Int) + 1) ((List.length s : Int) + 1)) - 1))), (9, vo 31), (10, vc (i6 ((List.length o : Int) + 1)))] [(31, AObj.grow 9 1 Bytes [] AL.Fnv.rowS (List.set (o ++ List.replicate (splitC k c).length []) (List.length o) (List.take ((Go.Lib.indexByte c k) + 0).toNat c)))]) (by kernel_rfl) ?_ ?_
            · exact (show InR .i64 ((List.length o : Int) + 1) from (inR64 (by first | omega | (have hx := index_rng k c; first | omega | (simp only [List.length_cons, List.length_nil]; omega) | (have hz := gen_le hP; first | omega | (simp only [List.length_append, List.length_replicate, List.length_set]; omega)))) (by first | omega | (have hx := index_rng k c; first | omega | (simp only [List.length_cons, List.length_nil]; omega) | (have hz := gen_le hP; first | omega | (simp only [List.length_append, List.length_replicate, List.length_set]; omega))))))
            refine AMx.blk ?_
            refine AMx.ent_inv (s' := AS.lst 66 [(0, vc (st (List.drop ((Go.Lib.indexByte c k) + (List.length ([k] : List UInt8) : Int)).toNat c))), (1, vc (st [k])), (2, vc (i6 0)), (3, vc (i6 ((min (((List.count (k : UInt8) s : Nat) : Int) + 1) ((List.length s : Int) + 1)) - 1))), (9, vo 31), (10, vc (i6 ((List.length o : Int) + 1)))] [(31, AObj.grow 9 1 Bytes [] AL.Fnv.rowS (List.set (o ++ List.replicate (splitC k c).length []) (List.length o) (List.take ((Go.Lib.indexByte c k) + 0).toNat c)))]) (ent_proj [0, 1, 2, 3, 9, 10] [31]) ?_
            refine AMx.inv ⟨_, ?_, o ++ [List.take (Go.Lib.indexByte c k).toNat c], List.drop ((Go.Lib.indexByte c k).toNat + 1) c, ?_, rfl, ?_⟩
            rotate_left
            · exact ⟨gen_inv hP (by omega), by rw [List.length_drop]; omega⟩
            · rw [show (Go.Lib.indexByte c k + (0 : Int)).toNat = (Go.Lib.indexByte c k).toNat by omega, show (Go.Lib.indexByte c k + (List.length ([k] : List UInt8) : Int)).toNat = (Go.Lib.indexByte c k).toNat + 1 by simp only [List.length_cons, List.length_nil]; omega, gen_step (by omega), List.length_append]; rfl
            · have hx := index_some (s := c) (c := k) (by omega); rw [List.length_drop]; omega
        · try simp only [decide_eq_true_eq, decide_eq_false_iff_not] at hc4
          refine AMx.exit ?_
          refine AMx.code_exit ?_
          refine AMx.inv_exit ?_
          refine AMx.blk_exit ?_
          refine AMx.seq ?_
          refine AMx.region (ces := [(4, CE.obj (AObj.grow 9 1 Bytes [] AL.Fnv.rowS (List.set (o ++ List.replicate (splitC k c).length []) (List.length o) c)))]) (ks := [9, 10]) (hs := [31]) (cs := [(0 : Int) ≤ (List.length o : Int), (List.length o : Int) < List.length (o ++ List.replicate (splitC k c).length [] : List Bytes), StoreC (List.length o) 0 [.s (st c)] (AObj.grow 9 1 Bytes [] AL.Fnv.rowS (o ++ List.replicate (splitC k c).length [])) (AObj.grow 9 1 Bytes [] AL.Fnv.rowS (List.set (o ++ List.replicate (splitC k c).length []) (List.length o) c))]) (s' := AS.lst 66 [(9, vo 31), (10, vc (i6 (List.length o : Int)))] [(31, AObj.grow 9 1 Bytes [] AL.Fnv.rowS (List.set (o ++ List.replicate (splitC k c).length []) (List.length o) c))]) (by kernel_rfl) ?_ ?_
          · exact ⟨(show (0 : Int) ≤ (List.length o : Int) from (by first | omega | (have hx := index_rng k c; first | omega | (simp only [List.length_cons, List.length_nil]; omega) | (have hz := gen_le hP; first | omega | (simp only [List.length_append, List.length_replicate, List.length_set]; omega))))), (show (List.length o : Int) < List.length (o ++ List.replicate (splitC k c).length [] : List Bytes) from (by first | omega | (have hx := index_rng k c; first | omega | (simp only [List.length_cons, List.length_nil]; omega) | (have hz := gen_le hP; first | omega | (simp only [List.length_append, List.length_replicate, List.length_set]; omega))))), (⟨c, rfl, by first | omega | (have hx := index_rng k c; first | omega | (simp only [List.length_cons, List.length_nil]; omega) | (have hz := gen_le hP; first | omega | (simp only [List.length_append, List.length_replicate, List.length_set]; omega))), rfl⟩)⟩
          refine AMx.seq ?_
          refine AMx.region (ces := []) (ks := [8]) (hs := [65]) (cs := [InR .i64 ((List.length o : Int) + 1), 0 ≤ (List.length o : Int) + 1, (List.length o : Int) + 1 ≤ (List.length (List.set (o ++ List.replicate (splitC k c).length []) (List.length o) c : List Bytes) : Int)]) (s' := AS.lst 66 [(8, vo 65)] [(65, AObj.grow 9 1 Bytes [] AL.Fnv.rowS (List.take ((List.length o) + 1) (List.set (o ++ List.replicate (splitC k c).length []) (List.length o) c)))]) (by kernel_rfl) ?_ ?_
          · exact ⟨(show InR .i64 ((List.length o : Int) + 1) from (inR64 (by first | omega | (have hx := index_rng k c; first | omega | (simp only [List.length_cons, List.length_nil]; omega) | (have hz := gen_le hP; first | omega | (simp only [List.length_append, List.length_replicate, List.length_set]; omega)))) (by first | omega | (have hx := index_rng k c; first | omega | (simp only [List.length_cons, List.length_nil]; omega) | (have hz := gen_le hP; first | omega | (simp only [List.length_append, List.length_replicate, List.length_set]; omega)))))), (show 0 ≤ (List.length o : Int) + 1 from (by first | omega | (have hx := index_rng k c; first | omega | (simp only [List.length_cons, List.length_nil]; omega) | (have hz := gen_le hP; first | omega | (simp only [List.length_append, List.length_replicate, List.length_set]; omega))))), (show (List.length o : Int) + 1 ≤ (List.length (List.set (o ++ List.replicate (splitC k c).length []) (List.length o) c : List Bytes) : Int) from (by first | omega | (have hx := index_rng k c; first | omega | (simp only [List.length_cons, List.length_nil]; omega) | (have hz := gen_le hP; first | omega | (simp only [List.length_append, List.length_replicate, List.length_set]; omega)))))⟩
          refine AMx.ent (s' := AS.lst 66 [(8, vc (AL.Fnv.slS (List.take ((List.length o) + 1) (List.set (o ++ List.replicate (splitC k c).length []) (List.length o) c))))] []) (ent_freeze (id := 65) (T := 9) (by kernel_rfl)) ?_
          refine AMx.ret ?_
          exact RetP.mk (r := vc (AL.Fnv.slS (List.take ((List.length o) + 1) (List.set (o ++ List.replicate (splitC k c).length []) (List.length o) c)))) (by kernel_rfl) (by rw [gen_end hP (by first | exact index_none (by omega) | exact gen_last hP (by omega))])
      · skip
        cases hc3

theorem f21_body : Tryd.f21.body = some (.seq (.region 0 (rg Tryd.f21 0) false) (.seq (.region 1 (rg Tryd.f21 1) false) (.ret))) := by kernel_rfl

set_option maxRecDepth 100000 in
set_option maxHeartbeats 8000000 in
theorem Split_c (k : UInt8) (s : Bytes) (hb : s.length ≤ 100000) : Pure Tryd.prog 21 [tc (st s), tc (st [k])] (vc (AL.Fnv.slS (splitC k s))) := by
  refine Pure.of_body Tryd.func21 f21_body (by kernel_rfl) Tryd.ntmps21 (by kernel_rfl) (by kernel_rfl) ?_
  refine AMx.seq ?_
  refine AMx.region (ces := []) (ks := [0, 1]) (hs := []) (cs := []) (s' := AS.lst 8 [(0, vc (st s)), (1, vc (st [k]))] []) (by kernel_rfl) ?_ ?_
  · exact trivial
  refine AMx.seq ?_
  refine AMx.region (ces := [(2, CE.call [] [] (vc (AL.Fnv.slS (AL.Sep.splitC k s))) [])]) (ks := [4]) (hs := []) (cs := [Spec Tryd.prog 30 [tc (st s), tc (st [k]), tc (i6 0), tc (i6 (-1))] (ofH []) (vc (AL.Fnv.slS (AL.Sep.splitC k s))) (ofH [])]) (s' := AS.lst 8 [(4, vc (AL.Fnv.slS (AL.Sep.splitC k s)))] []) (by kernel_rfl) ?_ ?_
  · exact (AL.Sep.genSplit_c k s (by omega))
  refine AMx.ret ?_
  exact RetP.mk (r := vc (AL.Fnv.slS (AL.Sep.splitC k s))) (by kernel_rfl) rfl

theorem f61_body : Tryd.f61.body = some (.seq (.region 0 (rg Tryd.f61 0) false) (.seq (.seq (.region 1 (rg Tryd.f61 1) false) (.seq (.region 2 (rg Tryd.f61 2) false) (.cond (.tmp 12) (.seq (.region 3 (rg Tryd.f61 3) true) (.ret)) (.skip)))) (.seq (.region 4 (rg Tryd.f61 4) false) (.ret)))) := by kernel_rfl

set_option maxRecDepth 100000 in
set_option maxHeartbeats 8000000 in
theorem LCut_c (k : UInt8) (s : Bytes) : Pure Tryd.prog 61 [tc (st s), tc (st [k])] (AV.tup [tc (st ((cutAt k s).1)), tc (st ((cutAt k s).2.1)), tc (bo ((cutAt k s).2.2))]) := by
  refine Pure.of_body Tryd.func61 f61_body (by kernel_rfl) Tryd.ntmps61 (by kernel_rfl) (by kernel_rfl) ?_
  refine AMx.str 0 (b := s) rfl (fun hl => ?_)
  simp only [maxLen] at hl
  refine AMx.seq ?_
  refine AMx.region (ces := []) (ks := [0, 1]) (hs := []) (cs := []) (s' := AS.lst 23 [(0, vc (st s)), (1, vc (st [k]))] []) (by kernel_rfl) ?_ ?_
  · exact trivial
  refine AMx.seq ?_
  refine AMx.seq ?_
  refine AMx.region (ces := [(2, CE.call [] [] (vc (i6 (Go.Lib.indexByte s k))) [])]) (ks := [0, 1, 7]) (hs := []) (cs := [Spec Tryd.prog 60 [tc (st s), tc (st [k])] (ofH []) (vc (i6 (Go.Lib.indexByte s k))) (ofH [])]) (s' := AS.lst 23 [(0, vc (st s)), (1, vc (st [k])), (7, vc (i6 (Go.Lib.indexByte s k)))] []) (by kernel_rfl) ?_ ?_
  · exact (AL.Sep.IndexL_c k s)
  refine AMx.seq ?_
  refine AMx.region (ces := []) (ks := [0, 1, 7, 12]) (hs := []) (cs := []) (s' := AS.lst 23 [(0, vc (st s)), (1, vc (st [k])), (7, vc (i6 (Go.Lib.indexByte s k))), (12, vc (bo (decide (0 ≤ Go.Lib.indexByte s k))))] []) (by kernel_rfl) ?_ ?_
  · exact trivial
  refine AMx.cond (b := decide (0 ≤ Go.Lib.indexByte s k)) (by kernel_rfl) (fun hc1 => ?_) (fun hc1 => ?_)
  · try simp only [decide_eq_true_eq, decide_eq_false_iff_not] at hc1
    refine AMx.seq ?_
    refine AMx.region_draw (ces := []) (ros := []) (ks := [4, 5, 6]) (hs := []) (cs := [0 ≤ Go.Lib.indexByte s k, Go.Lib.indexByte s k ≤ List.length s, InR .i64 ((Go.Lib.indexByte s k) + (List.length ([k] : List UInt8) : Int)), 0 ≤ (Go.Lib.indexByte s k) + (List.length ([k] : List UInt8) : Int), (Go.Lib.indexByte s k) + (List.length ([k] : List UInt8) : Int) ≤ List.length s]) (s' := AS.lst 23 [(4, vc (st (List.take (Go.Lib.indexByte s k).toNat s))), (5, vc (st (List.drop ((Go.Lib.indexByte s k) + (List.length ([k] : List UInt8) : Int)).toNat s))), (6, vc (bo true))] []) mixed (by kernel_rfl) ?_ ?_
    · exact ⟨(show 0 ≤ Go.Lib.indexByte s k from (by first | omega | (have hi := index_rng k s; have h1 : List.length ([k] : List UInt8) = 1 := rfl; omega))), (show Go.Lib.indexByte s k ≤ List.length s from (by first | omega | (have hi := index_rng k s; have h1 : List.length ([k] : List UInt8) = 1 := rfl; omega))), (show InR .i64 ((Go.Lib.indexByte s k) + (List.length ([k] : List UInt8) : Int)) from (inR64 (by first | omega | (have hi := index_rng k s; have h1 : List.length ([k] : List UInt8) = 1 := rfl; omega)) (by first | omega | (have hi := index_rng k s; have h1 : List.length ([k] : List UInt8) = 1 := rfl; omega)))), (show 0 ≤ (Go.Lib.indexByte s k) + (List.length ([k] : List UInt8) : Int) from (by first | omega | (have hi := index_rng k s; have h1 : List.length ([k] : List UInt8) = 1 := rfl; omega))), (show (Go.Lib.indexByte s k) + (List.length ([k] : List UInt8) : Int) ≤ List.length s from (by first | omega | (have hi := index_rng k s; have h1 : List.length ([k] : List UInt8) = 1 := rfl; omega)))⟩
    refine AMx.ret ?_
    exact RetP.mk (r := AV.tup [tc (st (List.take (Go.Lib.indexByte s k).toNat s)), tc (st (List.drop ((Go.Lib.indexByte s k) + (List.length ([k] : List UInt8) : Int)).toNat s)), tc (bo true)]) (by kernel_rfl) (by rw [show cutAt k s = (List.take (Go.Lib.indexByte s k).toNat s, List.drop ((Go.Lib.indexByte s k) + (List.length ([k] : List UInt8) : Int)).toNat s, true) from by unfold cutAt; first | (rw [if_pos (by assumption), show (Go.Lib.indexByte s k + (List.length ([k] : List UInt8) : Int)).toNat = (Go.Lib.indexByte s k).toNat + 1 by simp only [List.length_cons, List.length_nil]; omega]; done) | (rw [if_neg (by assumption)])])
  · try simp only [decide_eq_true_eq, decide_eq_false_iff_not] at hc1
    refine AMx.skip ?_
    refine AMx.seq ?_
    refine AMx.region (ces := []) (ks := [4, 5, 6]) (hs := []) (cs := []) (s' := AS.lst 23 [(4, vc (st s)), (5, vc (st [])), (6, vc (bo false))] []) (by kernel_rfl) ?_ ?_
    · exact trivial
    refine AMx.ret ?_
    exact RetP.mk (r := AV.tup [tc (st s), tc (st []), tc (bo false)]) (by kernel_rfl) (by rw [show cutAt k s = (s, [], false) from by unfold cutAt; first | (rw [if_pos (by assumption), show (Go.Lib.indexByte s k + (List.length ([k] : List UInt8) : Int)).toNat = (Go.Lib.indexByte s k).toNat + 1 by simp only [List.length_cons, List.length_nil]; omega]; done) | (rw [if_neg (by assumption)])])

theorem f48_body : Tryd.f48.body = some (.seq (.region 0 (rg Tryd.f48 0) false) (.seq (.region 1 (rg Tryd.f48 1) false) (.ret))) := by kernel_rfl

set_option maxRecDepth 100000 in
set_option maxHeartbeats 8000000 in
theorem Cut_c (k : UInt8) (s : Bytes) : Pure Tryd.prog 48 [tc (st s), tc (st [k])] (AV.tup [tc (st ((cutAt k s).1)), tc (st ((cutAt k s).2.1)), tc (bo ((cutAt k s).2.2))]) := by
  refine Pure.of_body Tryd.func48 f48_body (by kernel_rfl) Tryd.ntmps48 (by kernel_rfl) (by kernel_rfl) ?_
  refine AMx.str 0 (b := s) rfl (fun hl => ?_)
  simp only [maxLen] at hl
  refine AMx.seq ?_
  refine AMx.region (ces := []) (ks := [0, 1]) (hs := []) (cs := []) (s' := AS.lst 13 [(0, vc (st s)), (1, vc (st [k]))] []) (by kernel_rfl) ?_ ?_
  · exact trivial
  refine AMx.seq ?_
  refine AMx.region (ces := [(2, CE.call [] [] (AV.tup [tc (st ((AL.Sep.cutAt k s).1)), tc (st ((AL.Sep.cutAt k s).2.1)), tc (bo ((AL.Sep.cutAt k s).2.2))]) [])]) (ks := [4, 5, 6]) (hs := []) (cs := [Spec Tryd.prog 61 [tc (st s), tc (st [k])] (ofH []) (AV.tup [tc (st ((AL.Sep.cutAt k s).1)), tc (st ((AL.Sep.cutAt k s).2.1)), tc (bo ((AL.Sep.cutAt k s).2.2))]) (ofH [])]) (s' := AS.lst 13 [(4, vc (st ((AL.Sep.cutAt k s).1))), (5, vc (st ((AL.Sep.cutAt k s).2.1))), (6, vc (bo ((AL.Sep.cutAt k s).2.2)))] []) (by kernel_rfl) ?_ ?_
  · exact (AL.Sep.LCut_c k s)
  refine AMx.ret ?_
  exact RetP.mk (r := AV.tup [tc (st ((AL.Sep.cutAt k s).1)), tc (st ((AL.Sep.cutAt k s).2.1)), tc (bo ((AL.Sep.cutAt k s).2.2))]) (by kernel_rfl) rfl

end AL.Sep
