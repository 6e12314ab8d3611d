/- The proof library and the contracts that the law reaches: joined by a program. No condition. -/
import Derived.Test.YtlgmdlckjinfcaaGreatDoorTLa
namespace AL.Sep
open Go Go.Proofs AL
set_option linter.unusedVariables false
set_option linter.unusedSimpArgs false
theorem f127_body : Tryz.f127.body = some (.seq (.region 0 (rg Tryz.f127 0) false) (.seq (.seq (.region 1 (rg Tryz.f127 1) false) (.cond (.tmp 13) (.seq (.region 2 (rg Tryz.f127 2) false) (.ret)) (.skip))) (.seq (.seq (.region 3 (rg Tryz.f127 3) false) (.cond (.tmp 15) (.seq (.region 4 (rg Tryz.f127 4) false) (.ret)) (.skip))) (.seq (.seq (.region 5 (rg Tryz.f127 5) false) (.cond (.tmp 20) (.region 6 (rg Tryz.f127 6) false) (.skip))) (.seq (.region 7 (rg Tryz.f127 7) false) (.seq (.region 8 (rg Tryz.f127 8) false) (.seq (.region 9 (rg Tryz.f127 9) false) (.seq (.region 10 (rg Tryz.f127 10) false) (.seq (.block 0 (.loop (.seq (.seq (.region 11 (rg Tryz.f127 11) false) (.cond (.tmp 36) (.skip) (.exit 0))) (.block 1 (.seq (.region 12 (rg Tryz.f127 12) false) (.seq (.seq (.region 13 (rg Tryz.f127 13) false) (.cond (.tmp 41) (.exit 0) (.skip))) (.seq (.region 14 (rg Tryz.f127 14) false) (.seq (.region 15 (rg Tryz.f127 15) false) (.region 16 (rg Tryz.f127 16) false))))))))) (.seq (.region 17 (rg Tryz.f127 17) false) (.seq (.region 18 (rg Tryz.f127 18) false) (.ret)))))))))))) := by kernel_rfl
set_option maxRecDepth 100000 in
set_option maxHeartbeats 8000000 in
theorem genSplit_c (k : UInt8) (s : Bytes) (hb : s.length ≤ 100000) : Pure Tryz.prog 127 [tc (st s), tc (st [k]), tc (i6 0), tc (i6 (-1))] (vc (AL.Fnv.slS (splitC k s))) := by
 refine Pure.of_body Tryz.func127 f127_body (by kernel_rfl) Tryz.ntmps127 (by kernel_rfl) (by kernel_rfl) ?_
 have hn := gen_n k s
 have hcn : List.count k s ≤ s.length := List.count_le_length
 refine gS [] [] 66 [(0, vc (st s)), (1, vc (st [k])), (2, vc (i6 0)), (3, vc (i6 (-1)))] [] trivial ?_
 refine gQ ?_
 refine gS [] [] 66 [(0, vc (st s)), (1, vc (st [k])), (2, vc (i6 0)), (3, vc (i6 (-1))), (13, vc (bo false))] [] trivial ?_
 refine gBf ?_
 refine AMx.skip ?_
 refine gQ ?_
 refine gS [] [] 66 [(0, vc (st s)), (1, vc (st [k])), (2, vc (i6 0)), (3, vc (i6 (-1))), (15, vc (bo false))] [] trivial ?_
 refine gBf ?_
 refine AMx.skip ?_
 refine gQ ?_
 refine gS [] [] 66 [(0, vc (st s)), (1, vc (st [k])), (2, vc (i6 0)), (3, vc (i6 (-1))), (20, vc (bo true))] [] trivial ?_
 refine gBt ?_
 refine gR [(2, CE.call [] [] (vc (i6 ((List.count (k : UInt8) s : Nat) : Int))) [])] [Spec Tryz.prog 147 [tc (st s), tc (st [k])] (ofH []) (vc (i6 ((List.count (k : UInt8) s : Nat) : Int))) (ofH []), InR .i64 (((List.count (k : UInt8) s : Nat) : Int) + 1)] 66 [(0, vc (st s)), (1, vc (st [k])), (2, vc (i6 0)), (3, vc (i6 (((List.count (k : UInt8) s : Nat) : Int) + 1)))] [] ⟨(AL.Sep.Count_c k s), (show InR .i64 (((List.count (k : UInt8) s : Nat) : Int) + 1) from (inR64 (by first | omega | (have hx := index_rng k c; first | omega | (simp only [List.length_cons, List.length_nil]; omega) | (have hz := gen_le hP; first | omega | (simp only [List.length_append, List.length_replicate, List.length_set]; omega)))) (by first | omega | (have hx := index_rng k c; first | omega | (simp only [List.length_cons, List.length_nil]; omega) | (have hz := gen_le hP; first | omega | (simp only [List.length_append, List.length_replicate, List.length_set]; omega))))))⟩ ?_
 refine gS [] [InR .i64 ((List.length s : Int) + 1)] 66 [(0, vc (st s)), (1, vc (st [k])), (2, vc (i6 0)), (3, vc (i6 (min (((List.count (k : UInt8) s : Nat) : Int) + 1) ((List.length s : Int) + 1))))] [] (show InR .i64 ((List.length s : Int) + 1) from (inR64 (by first | omega | (have hx := index_rng k c; first | omega | (simp only [List.length_cons, List.length_nil]; omega) | (have hz := gen_le hP; first | omega | (simp only [List.length_append, List.length_replicate, List.length_set]; omega)))) (by first | omega | (have hx := index_rng k c; first | omega | (simp only [List.length_cons, List.length_nil]; omega) | (have hz := gen_le hP; first | omega | (simp only [List.length_append, List.length_replicate, List.length_set]; omega)))))) ?_
 refine gS [(1, CE.obj (AObj.grow 9 1 Bytes [] AL.Fnv.rowS (List.replicate (min (((List.count (k : UInt8) s : Nat) : Int) + 1) ((List.length s : Int) + 1)).toNat [])))] [0 ≤ min (((List.count (k : UInt8) s : Nat) : Int) + 1) ((List.length s : Int) + 1), min (((List.count (k : UInt8) s : Nat) : Int) + 1) ((List.length s : Int) + 1) ≤ min (((List.count (k : UInt8) s : Nat) : Int) + 1) ((List.length s : Int) + 1), (16 : Int) * (min (((List.count (k : UInt8) s : Nat) : Int) + 1) ((List.length s : Int) + 1)) ≤ 281474976710656, min (((List.count (k : UInt8) s : Nat) : Int) + 1) ((List.length s : Int) + 1) ≤ 9223372036854775807, MakeC (min (((List.count (k : UInt8) s : Nat) : Int) + 1) ((List.length s : Int) + 1)).toNat [.s (st [])] (AObj.grow 9 1 Bytes [] AL.Fnv.rowS (List.replicate (min (((List.count (k : UInt8) s : Nat) : Int) + 1) ((List.length s : Int) + 1)).toNat []))] 66 [(0, vc (st s)), (1, vc (st [k])), (2, vc (i6 0)), (3, vc (i6 (min (((List.count (k : UInt8) s : Nat) : Int) + 1) ((List.length s : Int) + 1)))), (9, vo 31)] [(31, AObj.grow 9 1 Bytes [] AL.Fnv.rowS (List.replicate (min (((List.count (k : UInt8) s : Nat) : Int) + 1) ((List.length s : Int) + 1)).toNat []))] ⟨(by first | omega | (have hx := index_rng k c; first | omega | (simp only [List.length_cons, List.length_nil]; omega) | (have hz := gen_le hP; first | omega | (simp only [List.length_append, List.length_replicate, List.length_set]; omega)))), (by first | omega | (have hx := index_rng k c; first | omega | (simp only [List.length_cons, List.length_nil]; omega) | (have hz := gen_le hP; first | omega | (simp only [List.length_append, List.length_replicate, List.length_set]; omega)))), (by first | omega | (have hx := index_rng k c; first | omega | (simp only [List.length_cons, List.length_nil]; omega) | (have hz := gen_le hP; first | omega | (simp only [List.length_append, List.length_replicate, List.length_set]; omega)))), (by first | omega | (have hx := index_rng k c; first | omega | (simp only [List.length_cons, List.length_nil]; omega) | (have hz := gen_le hP; first | omega | (simp only [List.length_append, List.length_replicate, List.length_set]; omega)))), (⟨_, rfl, rfl⟩)⟩ ?_
 refine gS [] [InR .i64 ((min (((List.count (k : UInt8) s : Nat) : Int) + 1) ((List.length s : Int) + 1)) - 1)] 66 [(0, vc (st s)), (1, vc (st [k])), (2, vc (i6 0)), (3, vc (i6 ((min (((List.count (k : UInt8) s : Nat) : Int) + 1) ((List.length s : Int) + 1)) - 1))), (9, vo 31)] [(31, AObj.grow 9 1 Bytes [] AL.Fnv.rowS (List.replicate (min (((List.count (k : UInt8) s : Nat) : Int) + 1) ((List.length s : Int) + 1)).toNat []))] (show InR .i64 ((min (((List.count (k : UInt8) s : Nat) : Int) + 1) ((List.length s : Int) + 1)) - 1) from (inR64 (by first | omega | (have hx := index_rng k c; first | omega | (simp only [List.length_cons, List.length_nil]; omega) | (have hz := gen_le hP; first | omega | (simp only [List.length_append, List.length_replicate, List.length_set]; omega)))) (by first | omega | (have hx := index_rng k c; first | omega | (simp only [List.length_cons, List.length_nil]; omega) | (have hz := gen_le hP; first | omega | (simp only [List.length_append, List.length_replicate, List.length_set]; omega)))))) ?_
 refine gS [] [] 66 [(0, vc (st s)), (1, vc (st [k])), (2, vc (i6 0)), (3, vc (i6 ((min (((List.count (k : UInt8) s : Nat) : Int) + 1) ((List.length s : Int) + 1)) - 1))), (9, vo 31), (10, vc (i6 0))] [(31, AObj.grow 9 1 Bytes [] AL.Fnv.rowS (List.replicate (min (((List.count (k : UInt8) s : Nat) : Int) + 1) ((List.length s : Int) + 1)).toNat []))] trivial ?_
 refine gQ ?_
 refine AMx.block ?_
 refine AMx.ent (s' := AS.lst 66 [(0, vc (st s)), (1, vc (st [k])), (2, vc (i6 0)), (3, vc (i6 ((min (((List.count (k : UInt8) s : Nat) : Int) + 1) ((List.length s : Int) + 1)) - 1))), (9, vo 31), (10, vc (i6 0))] [(31, AObj.grow 9 1 Bytes [] AL.Fnv.rowS (List.replicate (min (((List.count (k : UInt8) s : Nat) : Int) + 1) ((List.length s : Int) + 1)).toNat []))]) (ent_proj [0, 1, 2, 3, 9, 10] [31]) ?_
 refine AMx.loop (fun mm ss => ∃ (o : List Bytes) (c : Bytes), (splitC k s = o ++ splitC k c ∧ c.length ≤ s.length) ∧ mm = c.length ∧ ss = AS.lst 66 [(0, vc (st c)), (1, vc (st [k])), (2, vc (i6 0)), (3, vc (i6 ((min (((List.count (k : UInt8) s : Nat) : Int) + 1) ((List.length s : Int) + 1)) - 1))), (9, vo 31), (10, vc (i6 (List.length o : Int)))] [(31, AObj.grow 9 1 Bytes [] AL.Fnv.rowS (o ++ List.replicate (splitC k c).length []))]) ⟨[], s, ?_, rfl, ?_⟩ ?_
 · exact ⟨rfl, Nat.le_refl _⟩
 · rw [hn]; rfl
 rintro mm ss ⟨o, c, ⟨hP, hL⟩, rfl, rfl⟩
 refine gQ ?_
 refine gS [] [] 66 [(0, vc (st c)), (1, vc (st [k])), (2, vc (i6 0)), (3, vc (i6 ((min (((List.count (k : UInt8) s : Nat) : Int) + 1) ((List.length s : Int) + 1)) - 1))), (9, vo 31), (10, vc (i6 (List.length o : Int))), (36, vc (bo (decide ((List.length o : Int) < (min (((List.count (k : UInt8) s : Nat) : Int) + 1) ((List.length s : Int) + 1)) - 1))))] [(31, AObj.grow 9 1 Bytes [] AL.Fnv.rowS (o ++ List.replicate (splitC k c).length []))] trivial ?_
 refine gC ((List.length o : Int) < (min (((List.count (k : UInt8) s : Nat) : Int) + 1) ((List.length s : Int) + 1)) - 1) (fun hc4 => ?_) fun hc4 => ?_
 ·
  refine AMx.skip ?_
  refine AMx.block ?_
  refine gS [(2, CE.call [] [] (vc (i6 (Go.Lib.indexByte c k))) [])] [Spec Tryz.prog 148 [tc (st c), tc (st [k])] (ofH []) (vc (i6 (Go.Lib.indexByte c k))) (ofH [])] 66 [(0, vc (st c)), (1, vc (st [k])), (2, vc (i6 0)), (3, vc (i6 ((min (((List.count (k : UInt8) s : Nat) : Int) + 1) ((List.length s : Int) + 1)) - 1))), (9, vo 31), (10, vc (i6 (List.length o : Int))), (11, vc (i6 (Go.Lib.indexByte c k)))] [(31, AObj.grow 9 1 Bytes [] AL.Fnv.rowS (o ++ List.replicate (splitC k c).length []))] (AL.Sep.Index_c k c) ?_
  refine gQ ?_
  refine gS [] [] 66 [(0, vc (st c)), (1, vc (st [k])), (2, vc (i6 0)), (3, vc (i6 ((min (((List.count (k : UInt8) s : Nat) : Int) + 1) ((List.length s : Int) + 1)) - 1))), (9, vo 31), (10, vc (i6 (List.length o : Int))), (11, vc (i6 (Go.Lib.indexByte c k))), (41, vc (bo (decide (Go.Lib.indexByte c k < 0))))] [(31, AObj.grow 9 1 Bytes [] AL.Fnv.rowS (o ++ List.replicate (splitC k c).length []))] trivial ?_
  refine gC (Go.Lib.indexByte c k < 0) (fun hc5 => ?_) fun hc5 => ?_
  ·
   refine AMx.exit ?_
   refine AMx.code_exit ?_
   refine AMx.blk_pass rfl ?_
   refine AMx.inv_exit ?_
   refine AMx.blk_exit ?_
   refine gS [(4, CE.obj (AObj.grow 9 1 Bytes [] AL.Fnv.rowS (List.set (o ++ List.replicate (splitC k c).length []) (List.length o) c)))] [(0 : Int) ≤ (List.length o : Int), (List.length o : Int) < List.length (o ++ List.replicate (splitC k c).length [] : List Bytes), StoreC (List.length o) 0 [.s (st c)] (AObj.grow 9 1 Bytes [] AL.Fnv.rowS (o ++ List.replicate (splitC k c).length [])) (AObj.grow 9 1 Bytes [] AL.Fnv.rowS (List.set (o ++ List.replicate (splitC k c).length []) (List.length o) c))] 66 [(9, vo 31), (10, vc (i6 (List.length o : Int)))] [(31, AObj.grow 9 1 Bytes [] AL.Fnv.rowS (List.set (o ++ List.replicate (splitC k c).length []) (List.length o) c))] ⟨(by first | omega | (have hx := index_rng k c; first | omega | (simp only [List.length_cons, List.length_nil]; omega) | (have hz := gen_le hP; first | omega | (simp only [List.length_append, List.length_replicate, List.length_set]; omega)))), (by first | omega | (have hx := index_rng k c; first | omega | (simp only [List.length_cons, List.length_nil]; omega) | (have hz := gen_le hP; first | omega | (simp only [List.length_append, List.length_replicate, List.length_set]; omega)))), (⟨c, rfl, by first | omega | (have hx := index_rng k c; first | omega | (simp only [List.length_cons, List.length_nil]; omega) | (have hz := gen_le hP; first | omega | (simp only [List.length_append, List.length_replicate, List.length_set]; omega))), rfl⟩)⟩ ?_
   refine gS [] [InR .i64 ((List.length o : Int) + 1), 0 ≤ (List.length o : Int) + 1, (List.length o : Int) + 1 ≤ (List.length (List.set (o ++ List.replicate (splitC k c).length []) (List.length o) c : List Bytes) : Int)] 66 [(8, vo 65)] [(65, AObj.grow 9 1 Bytes [] AL.Fnv.rowS (List.take ((List.length o) + 1) (List.set (o ++ List.replicate (splitC k c).length []) (List.length o) c)))] ⟨(inR64 (by first | omega | (have hx := index_rng k c; first | omega | (simp only [List.length_cons, List.length_nil]; omega) | (have hz := gen_le hP; first | omega | (simp only [List.length_append, List.length_replicate, List.length_set]; omega)))) (by first | omega | (have hx := index_rng k c; first | omega | (simp only [List.length_cons, List.length_nil]; omega) | (have hz := gen_le hP; first | omega | (simp only [List.length_append, List.length_replicate, List.length_set]; omega))))), (by first | omega | (have hx := index_rng k c; first | omega | (simp only [List.length_cons, List.length_nil]; omega) | (have hz := gen_le hP; first | omega | (simp only [List.length_append, List.length_replicate, List.length_set]; omega)))), (show (List.length o : Int) + 1 ≤ (List.length (List.set (o ++ List.replicate (splitC k c).length []) (List.length o) c : List Bytes) : Int) from (by first | omega | (have hx := index_rng k c; first | omega | (simp only [List.length_cons, List.length_nil]; omega) | (have hz := gen_le hP; first | omega | (simp only [List.length_append, List.length_replicate, List.length_set]; omega)))))⟩ ?_
   refine AMx.ent (s' := AS.lst 66 [(8, vc (AL.Fnv.slS (List.take ((List.length o) + 1) (List.set (o ++ List.replicate (splitC k c).length []) (List.length o) c))))] []) (ent_freeze (id := 65) (T := 9) (by kernel_rfl)) ?_
   exact gT (vc (AL.Fnv.slS (List.take ((List.length o) + 1) (List.set (o ++ List.replicate (splitC k c).length []) (List.length o) c)))) (by rw [gen_end hP (by first | exact index_none (by omega) | exact gen_last hP (by omega))])
  ·
   refine AMx.skip ?_
   refine gS [(8, CE.obj (AObj.grow 9 1 Bytes [] AL.Fnv.rowS (List.set (o ++ List.replicate (splitC k c).length []) (List.length o) (List.take ((Go.Lib.indexByte c k) + 0).toNat c))))] [InR .i64 ((Go.Lib.indexByte c k) + 0), 0 ≤ (Go.Lib.indexByte c k) + 0, (Go.Lib.indexByte c k) + 0 ≤ List.length c, (0 : Int) ≤ (List.length o : Int), (List.length o : Int) < List.length (o ++ List.replicate (splitC k c).length [] : List Bytes), StoreC (List.length o) 0 [.s (st (List.take ((Go.Lib.indexByte c k) + 0).toNat c))] (AObj.grow 9 1 Bytes [] AL.Fnv.rowS (o ++ List.replicate (splitC k c).length [])) (AObj.grow 9 1 Bytes [] AL.Fnv.rowS (List.set (o ++ List.replicate (splitC k c).length []) (List.length o) (List.take ((Go.Lib.indexByte c k) + 0).toNat c)))] 66 [(0, vc (st c)), (1, vc (st [k])), (2, vc (i6 0)), (3, vc (i6 ((min (((List.count (k : UInt8) s : Nat) : Int) + 1) ((List.length s : Int) + 1)) - 1))), (9, vo 31), (10, vc (i6 (List.length o : Int))), (11, vc (i6 (Go.Lib.indexByte c k)))] [(31, AObj.grow 9 1 Bytes [] AL.Fnv.rowS (List.set (o ++ List.replicate (splitC k c).length []) (List.length o) (List.take ((Go.Lib.indexByte c k) + 0).toNat c)))] ⟨(inR64 (by first | omega | (have hx := index_rng k c; first | omega | (simp only [List.length_cons, List.length_nil]; omega) | (have hz := gen_le hP; first | omega | (simp only [List.length_append, List.length_replicate, List.length_set]; omega)))) (by first | omega | (have hx := index_rng k c; first | omega | (simp only [List.length_cons, List.length_nil]; omega) | (have hz := gen_le hP; first | omega | (simp only [List.length_append, List.length_replicate, List.length_set]; omega))))), (by first | omega | (have hx := index_rng k c; first | omega | (simp only [List.length_cons, List.length_nil]; omega) | (have hz := gen_le hP; first | omega | (simp only [List.length_append, List.length_replicate, List.length_set]; omega)))), (by first | omega | (have hx := index_rng k c; first | omega | (simp only [List.length_cons, List.length_nil]; omega) | (have hz := gen_le hP; first | omega | (simp only [List.length_append, List.length_replicate, List.length_set]; omega)))), (by first | omega | (have hx := index_rng k c; first | omega | (simp only [List.length_cons, List.length_nil]; omega) | (have hz := gen_le hP; first | omega | (simp only [List.length_append, List.length_replicate, List.length_set]; omega)))), (by first | omega | (have hx := index_rng k c; first | omega | (simp only [List.length_cons, List.length_nil]; omega) | (have hz := gen_le hP; first | omega | (simp only [List.length_append, List.length_replicate, List.length_set]; omega)))), (⟨List.take ((Go.Lib.indexByte c k) + 0).toNat c, rfl, by first | omega | (have hx := index_rng k c; first | omega | (simp only [List.length_cons, List.length_nil]; omega) | (have hz := gen_le hP; first | omega | (simp only [List.length_append, List.length_replicate, List.length_set]; omega))), rfl⟩)⟩ ?_
   refine gS [] [InR .i64 ((Go.Lib.indexByte c k) + (List.length ([k] : List UInt8) : Int)), 0 ≤ (Go.Lib.indexByte c k) + (List.length ([k] : List UInt8) : Int), (Go.Lib.indexByte c k) + (List.length ([k] : List UInt8) : Int) ≤ List.length c] 66 [(0, vc (st (List.drop ((Go.Lib.indexByte c k) + (List.length ([k] : List UInt8) : Int)).toNat c))), (1, vc (st [k])), (2, vc (i6 0)), (3, vc (i6 ((min (((List.count (k : UInt8) s : Nat) : Int) + 1) ((List.length s : Int) + 1)) - 1))), (9, vo 31), (10, vc (i6 (List.length o : Int)))] [(31, AObj.grow 9 1 Bytes [] AL.Fnv.rowS (List.set (o ++ List.replicate (splitC k c).length []) (List.length o) (List.take ((Go.Lib.indexByte c k) + 0).toNat c)))] ⟨(inR64 (by first | omega | (have hx := index_rng k c; first | omega | (simp only [List.length_cons, List.length_nil]; omega) | (have hz := gen_le hP; first | omega | (simp only [List.length_append, List.length_replicate, List.length_set]; omega)))) (by first | omega | (have hx := index_rng k c; first | omega | (simp only [List.length_cons, List.length_nil]; omega) | (have hz := gen_le hP; first | omega | (simp only [List.length_append, List.length_replicate, List.length_set]; omega))))), (by first | omega | (have hx := index_rng k c; first | omega | (simp only [List.length_cons, List.length_nil]; omega) | (have hz := gen_le hP; first | omega | (simp only [List.length_append, List.length_replicate, List.length_set]; omega)))), (show (Go.Lib.indexByte c k) + (List.length ([k] : List UInt8) : Int) ≤ List.length c from (by first | omega | (have hx := index_rng k c; first | omega | (simp only [List.length_cons, List.length_nil]; omega) | (have hz := gen_le hP; first | omega | (simp only [List.length_append, List.length_replicate, List.length_set]; omega)))))⟩ ?_
   refine gR [] [InR .i64 ((List.length o : Int) + 1)] 66 [(0, vc (st (List.drop ((Go.Lib.indexByte c k) + (List.length ([k] : List UInt8) : Int)).toNat c))), (1, vc (st [k])), (2, vc (i6 0)), (3, vc (i6 ((min (((List.count (k : UInt8) s : Nat) : Int) + 1) ((List.length s : Int) + 1)) - 1))), (9, vo 31), (10, vc (i6 ((List.length o : Int) + 1)))] [(31, AObj.grow 9 1 Bytes [] AL.Fnv.rowS (List.set (o ++ List.replicate (splitC k c).length []) (List.length o) (List.take ((Go.Lib.indexByte c k) + 0).toNat c)))] (show InR .i64 ((List.length o : Int) + 1) from (inR64 (by first | omega | (have hx := index_rng k c; first | omega | (simp only [List.length_cons, List.length_nil]; omega) | (have hz := gen_le hP; first | omega | (simp only [List.length_append, List.length_replicate, List.length_set]; omega)))) (by first | omega | (have hx := index_rng k c; first | omega | (simp only [List.length_cons, List.length_nil]; omega) | (have hz := gen_le hP; first | omega | (simp only [List.length_append, List.length_replicate, List.length_set]; omega)))))) ?_
   refine AMx.blk ?_
   refine AMx.ent_inv (s' := AS.lst 66 [(0, vc (st (List.drop ((Go.Lib.indexByte c k) + (List.length ([k] : List UInt8) : Int)).toNat c))), (1, vc (st [k])), (2, vc (i6 0)), (3, vc (i6 ((min (((List.count (k : UInt8) s : Nat) : Int) + 1) ((List.length s : Int) + 1)) - 1))), (9, vo 31), (10, vc (i6 ((List.length o : Int) + 1)))] [(31, AObj.grow 9 1 Bytes [] AL.Fnv.rowS (List.set (o ++ List.replicate (splitC k c).length []) (List.length o) (List.take ((Go.Lib.indexByte c k) + 0).toNat c)))]) (ent_proj [0, 1, 2, 3, 9, 10] [31]) ?_
   refine AMx.inv ⟨_, ?_, o ++ [List.take (Go.Lib.indexByte c k).toNat c], List.drop ((Go.Lib.indexByte c k).toNat + 1) c, ?_, rfl, ?_⟩
   rotate_left
   · exact ⟨gen_inv hP (by omega), by rw [List.length_drop]; omega⟩
   · rw [show (Go.Lib.indexByte c k + (0 : Int)).toNat = (Go.Lib.indexByte c k).toNat by omega, show (Go.Lib.indexByte c k + (List.length ([k] : List UInt8) : Int)).toNat = (Go.Lib.indexByte c k).toNat + 1 by simp only [List.length_cons, List.length_nil]; omega, gen_step (by omega), List.length_append]; rfl
   · have hx := index_some (s := c) (c := k) (by omega); rw [List.length_drop]; omega
 ·
  refine AMx.exit ?_
  refine AMx.code_exit ?_
  refine AMx.inv_exit ?_
  refine AMx.blk_exit ?_
  refine gS [(4, CE.obj (AObj.grow 9 1 Bytes [] AL.Fnv.rowS (List.set (o ++ List.replicate (splitC k c).length []) (List.length o) c)))] [(0 : Int) ≤ (List.length o : Int), (List.length o : Int) < List.length (o ++ List.replicate (splitC k c).length [] : List Bytes), StoreC (List.length o) 0 [.s (st c)] (AObj.grow 9 1 Bytes [] AL.Fnv.rowS (o ++ List.replicate (splitC k c).length [])) (AObj.grow 9 1 Bytes [] AL.Fnv.rowS (List.set (o ++ List.replicate (splitC k c).length []) (List.length o) c))] 66 [(9, vo 31), (10, vc (i6 (List.length o : Int)))] [(31, AObj.grow 9 1 Bytes [] AL.Fnv.rowS (List.set (o ++ List.replicate (splitC k c).length []) (List.length o) c))] ⟨(by first | omega | (have hx := index_rng k c; first | omega | (simp only [List.length_cons, List.length_nil]; omega) | (have hz := gen_le hP; first | omega | (simp only [List.length_append, List.length_replicate, List.length_set]; omega)))), (by first | omega | (have hx := index_rng k c; first | omega | (simp only [List.length_cons, List.length_nil]; omega) | (have hz := gen_le hP; first | omega | (simp only [List.length_append, List.length_replicate, List.length_set]; omega)))), (⟨c, rfl, by first | omega | (have hx := index_rng k c; first | omega | (simp only [List.length_cons, List.length_nil]; omega) | (have hz := gen_le hP; first | omega | (simp only [List.length_append, List.length_replicate, List.length_set]; omega))), rfl⟩)⟩ ?_
  refine gS [] [InR .i64 ((List.length o : Int) + 1), 0 ≤ (List.length o : Int) + 1, (List.length o : Int) + 1 ≤ (List.length (List.set (o ++ List.replicate (splitC k c).length []) (List.length o) c : List Bytes) : Int)] 66 [(8, vo 65)] [(65, AObj.grow 9 1 Bytes [] AL.Fnv.rowS (List.take ((List.length o) + 1) (List.set (o ++ List.replicate (splitC k c).length []) (List.length o) c)))] ⟨(inR64 (by first | omega | (have hx := index_rng k c; first | omega | (simp only [List.length_cons, List.length_nil]; omega) | (have hz := gen_le hP; first | omega | (simp only [List.length_append, List.length_replicate, List.length_set]; omega)))) (by first | omega | (have hx := index_rng k c; first | omega | (simp only [List.length_cons, List.length_nil]; omega) | (have hz := gen_le hP; first | omega | (simp only [List.length_append, List.length_replicate, List.length_set]; omega))))), (by first | omega | (have hx := index_rng k c; first | omega | (simp only [List.length_cons, List.length_nil]; omega) | (have hz := gen_le hP; first | omega | (simp only [List.length_append, List.length_replicate, List.length_set]; omega)))), (show (List.length o : Int) + 1 ≤ (List.length (List.set (o ++ List.replicate (splitC k c).length []) (List.length o) c : List Bytes) : Int) from (by first | omega | (have hx := index_rng k c; first | omega | (simp only [List.length_cons, List.length_nil]; omega) | (have hz := gen_le hP; first | omega | (simp only [List.length_append, List.length_replicate, List.length_set]; omega)))))⟩ ?_
  refine AMx.ent (s' := AS.lst 66 [(8, vc (AL.Fnv.slS (List.take ((List.length o) + 1) (List.set (o ++ List.replicate (splitC k c).length []) (List.length o) c))))] []) (ent_freeze (id := 65) (T := 9) (by kernel_rfl)) ?_
  exact gT (vc (AL.Fnv.slS (List.take ((List.length o) + 1) (List.set (o ++ List.replicate (splitC k c).length []) (List.length o) c)))) (by rw [gen_end hP (by first | exact index_none (by omega) | exact gen_last hP (by omega))])
theorem f94_body : Tryz.f94.body = some (.seq (.region 0 (rg Tryz.f94 0) false) (.seq (.region 1 (rg Tryz.f94 1) false) (.ret))) := by kernel_rfl
set_option maxRecDepth 100000 in
set_option maxHeartbeats 8000000 in
theorem Split_c (k : UInt8) (s : Bytes) (hb : s.length ≤ 100000) : Pure Tryz.prog 94 [tc (st s), tc (st [k])] (vc (AL.Fnv.slS (splitC k s))) := by
 refine Pure.of_body Tryz.func94 f94_body (by kernel_rfl) Tryz.ntmps94 (by kernel_rfl) (by kernel_rfl) ?_
 refine gS [] [] 8 [(0, vc (st s)), (1, vc (st [k]))] [] trivial ?_
 refine gS [(2, CE.call [] [] (vc (AL.Fnv.slS (AL.Sep.splitC k s))) [])] [Spec Tryz.prog 127 [tc (st s), tc (st [k]), tc (i6 0), tc (i6 (-1))] (ofH []) (vc (AL.Fnv.slS (AL.Sep.splitC k s))) (ofH [])] 8 [(4, vc (AL.Fnv.slS (AL.Sep.splitC k s)))] [] (AL.Sep.genSplit_c k s (by omega)) ?_
 exact gT (vc (AL.Fnv.slS (AL.Sep.splitC k s))) rfl
theorem f128_body : Tryz.f128.body = some (.seq (.region 0 (rg Tryz.f128 0) false) (.seq (.seq (.region 1 (rg Tryz.f128 1) false) (.seq (.region 2 (rg Tryz.f128 2) false) (.cond (.tmp 12) (.seq (.region 3 (rg Tryz.f128 3) true) (.ret)) (.skip)))) (.seq (.region 4 (rg Tryz.f128 4) false) (.ret)))) := by kernel_rfl
set_option maxRecDepth 100000 in
set_option maxHeartbeats 8000000 in
theorem LCut_c (k : UInt8) (s : Bytes) : Pure Tryz.prog 128 [tc (st s), tc (st [k])] (AV.tup [tc (st ((cutAt k s).1)), tc (st ((cutAt k s).2.1)), tc (bo ((cutAt k s).2.2))]) := by
 refine Pure.of_body Tryz.func128 f128_body (by kernel_rfl) Tryz.ntmps128 (by kernel_rfl) (by kernel_rfl) ?_
 refine AMx.str 0 (b := s) rfl (fun hl => ?_)
 simp only [maxLen] at hl
 refine gS [] [] 23 [(0, vc (st s)), (1, vc (st [k]))] [] trivial ?_
 refine gQ ?_
 refine gS [(2, CE.call [] [] (vc (i6 (Go.Lib.indexByte s k))) [])] [Spec Tryz.prog 149 [tc (st s), tc (st [k])] (ofH []) (vc (i6 (Go.Lib.indexByte s k))) (ofH [])] 23 [(0, vc (st s)), (1, vc (st [k])), (7, vc (i6 (Go.Lib.indexByte s k)))] [] (AL.Sep.IndexL_c k s) ?_
 refine gS [] [] 23 [(0, vc (st s)), (1, vc (st [k])), (7, vc (i6 (Go.Lib.indexByte s k))), (12, vc (bo (decide (0 ≤ Go.Lib.indexByte s k))))] [] trivial ?_
 refine gC (0 ≤ Go.Lib.indexByte s k) (fun hc1 => ?_) fun hc1 => ?_
 ·
  refine gY [] [] [0 ≤ Go.Lib.indexByte s k, Go.Lib.indexByte s k ≤ List.length s, InR .i64 ((Go.Lib.indexByte s k) + (List.length ([k] : List UInt8) : Int)), 0 ≤ (Go.Lib.indexByte s k) + (List.length ([k] : List UInt8) : Int), (Go.Lib.indexByte s k) + (List.length ([k] : List UInt8) : Int) ≤ List.length s] 23 [(4, vc (st (List.take (Go.Lib.indexByte s k).toNat s))), (5, vc (st (List.drop ((Go.Lib.indexByte s k) + (List.length ([k] : List UInt8) : Int)).toNat s))), (6, vc (bo true))] [] mixed ⟨(by first | omega | (have hi := index_rng k s; have h1 : List.length ([k] : List UInt8) = 1 := rfl; omega)), (by first | omega | (have hi := index_rng k s; have h1 : List.length ([k] : List UInt8) = 1 := rfl; omega)), (inR64 (by first | omega | (have hi := index_rng k s; have h1 : List.length ([k] : List UInt8) = 1 := rfl; omega)) (by first | omega | (have hi := index_rng k s; have h1 : List.length ([k] : List UInt8) = 1 := rfl; omega))), (by first | omega | (have hi := index_rng k s; have h1 : List.length ([k] : List UInt8) = 1 := rfl; omega)), (show (Go.Lib.indexByte s k) + (List.length ([k] : List UInt8) : Int) ≤ List.length s from (by first | omega | (have hi := index_rng k s; have h1 : List.length ([k] : List UInt8) = 1 := rfl; omega)))⟩ ?_
  exact gT (AV.tup [tc (st (List.take (Go.Lib.indexByte s k).toNat s)), tc (st (List.drop ((Go.Lib.indexByte s k) + (List.length ([k] : List UInt8) : Int)).toNat s)), tc (bo true)]) (by rw [show cutAt k s = (List.take (Go.Lib.indexByte s k).toNat s, List.drop ((Go.Lib.indexByte s k) + (List.length ([k] : List UInt8) : Int)).toNat s, true) from by unfold cutAt; first | (rw [if_pos (by assumption), show (Go.Lib.indexByte s k + (List.length ([k] : List UInt8) : Int)).toNat = (Go.Lib.indexByte s k).toNat + 1 by simp only [List.length_cons, List.length_nil]; omega]; done) | (rw [if_neg (by assumption)])])
 ·
  refine AMx.skip ?_
  refine gS [] [] 23 [(4, vc (st s)), (5, vc (st [])), (6, vc (bo false))] [] trivial ?_
  exact gT (AV.tup [tc (st s), tc (st []), tc (bo false)]) (by rw [show cutAt k s = (s, [], false) from by unfold cutAt; first | (rw [if_pos (by assumption), show (Go.Lib.indexByte s k + (List.length ([k] : List UInt8) : Int)).toNat = (Go.Lib.indexByte s k).toNat + 1 by simp only [List.length_cons, List.length_nil]; omega]; done) | (rw [if_neg (by assumption)])])
theorem f95_body : Tryz.f95.body = some (.seq (.region 0 (rg Tryz.f95 0) false) (.seq (.region 1 (rg Tryz.f95 1) false) (.ret))) := by kernel_rfl
set_option maxRecDepth 100000 in
set_option maxHeartbeats 8000000 in
theorem Cut_c (k : UInt8) (s : Bytes) : Pure Tryz.prog 95 [tc (st s), tc (st [k])] (AV.tup [tc (st ((cutAt k s).1)), tc (st ((cutAt k s).2.1)), tc (bo ((cutAt k s).2.2))]) := by
 refine Pure.of_body Tryz.func95 f95_body (by kernel_rfl) Tryz.ntmps95 (by kernel_rfl) (by kernel_rfl) ?_
 refine AMx.str 0 (b := s) rfl (fun hl => ?_)
 simp only [maxLen] at hl
 refine gS [] [] 13 [(0, vc (st s)), (1, vc (st [k]))] [] trivial ?_
 refine gS [(2, CE.call [] [] (AV.tup [tc (st ((AL.Sep.cutAt k s).1)), tc (st ((AL.Sep.cutAt k s).2.1)), tc (bo ((AL.Sep.cutAt k s).2.2))]) [])] [Spec Tryz.prog 128 [tc (st s), tc (st [k])] (ofH []) (AV.tup [tc (st ((AL.Sep.cutAt k s).1)), tc (st ((AL.Sep.cutAt k s).2.1)), tc (bo ((AL.Sep.cutAt k s).2.2))]) (ofH [])] 13 [(4, vc (st ((AL.Sep.cutAt k s).1))), (5, vc (st ((AL.Sep.cutAt k s).2.1))), (6, vc (bo ((AL.Sep.cutAt k s).2.2)))] [] (AL.Sep.LCut_c k s) ?_
 exact gT (AV.tup [tc (st ((AL.Sep.cutAt k s).1)), tc (st ((AL.Sep.cutAt k s).2.1)), tc (bo ((AL.Sep.cutAt k s).2.2))]) rfl
end AL.Sep
namespace AL.Policy
open Go Go.Proofs AL AL.Rune
set_option linter.unusedVariables false
set_option linter.unusedSimpArgs false
theorem f102_body : Tryz.f102.body = some (.seq (.region 0 (rg Tryz.f102 0) false) (.seq (.region 1 (rg Tryz.f102 1) false) (.ret))) := by kernel_rfl
set_option maxRecDepth 100000 in
set_option maxHeartbeats 8000000 in
theorem same_c (x : RuleV) (p : Bytes) (n : Int) : Pure Tryz.prog 102 [TV.agg [.s (st x.1), .s (u8 x.2)], tc (SC.ref 2 (rl [st p, u8 n]))] (vc (bo (decide (x.1 = p)))) := by
 refine Pure.of_body Tryz.func102 f102_body (by kernel_rfl) Tryz.ntmps102 (by kernel_rfl) (by kernel_rfl) ?_
 refine gS [] [] 9 [(1, vc (SC.ref 2 (rl [st p, u8 n]))), (2, vp 2 0)] [(2, AObj.row [.s (st x.1), .s (u8 x.2)])] trivial ?_
 refine gS [] [] 9 [(3, vc (bo (decide (x.1 = p))))] [] trivial ?_
 exact gT (vc (bo (decide (x.1 = p)))) rfl
theorem f132_body : Tryz.f132.body = some (.seq (.region 0 (rg Tryz.f132 0) false) (.seq (.seq (.region 1 (rg Tryz.f132 1) false) (.block 0 (.loop (.seq (.region 2 (rg Tryz.f132 2) false) (.seq (.cond (.tmp 9) (.skip) (.exit 0)) (.seq (.block 1 (.seq (.region 3 (rg Tryz.f132 3) false) (.seq (.region 4 (rg Tryz.f132 4) false) (.cond (.tmp 16) (.seq (.region 5 (rg Tryz.f132 5) false) (.ret)) (.skip))))) (.region 6 (rg Tryz.f132 6) false))))))) (.seq (.region 7 (rg Tryz.f132 7) false) (.ret)))) := by kernel_rfl
set_option maxRecDepth 100000 in
set_option maxHeartbeats 8000000 in
theorem Index_c (f : FuncId) (caps : List Cap) (p : RuleV → Bool) (hf : ∀ x : RuleV, Pure Tryz.prog f ([TV.agg [.s (st x.1), .s (u8 x.2)]] ++ List.map capT caps) (vc (bo (p x)))) (l : List RuleV) : Pure Tryz.prog 132 [tc (slP l), TV.c (.fn f caps)] (vc (i6 (Lib.idxS p l))) := by
 refine Pure.of_body Tryz.func132 f132_body (by kernel_rfl) Tryz.ntmps132 (by kernel_rfl) (by kernel_rfl) ?_
 refine AMx.sl 0 (l := l) rfl (fun hl => ?_)
 simp only [maxLen] at hl
 refine gS [] [] 19 [(0, vc (slP l)), (1, AV.t (TV.c (.fn f caps)))] [] trivial ?_
 refine gQ ?_
 refine gS [] [] 19 [(0, vc (slP l)), (1, AV.t (TV.c (.fn f caps))), (7, vc (i6 (List.length l : Int))), (8, vc (i6 0))] [] trivial ?_
 refine AMx.block ?_
 refine AMx.ent (s' := AS.lst 19 [(0, vc (slP l)), (1, AV.t (TV.c (.fn f caps))), (7, vc (i6 (List.length l : Int))), (8, vc (i6 0))] []) (ent_proj [0, 1, 7, 8] []) ?_
 refine AMx.loop (fun mm ss => ∃ (k : Nat), (k ≤ l.length ∧ ∀ x ∈ List.take k l, p x = false) ∧ mm = l.length - k ∧ ss = AS.lst 19 [(0, vc (slP l)), (1, AV.t (TV.c (.fn f caps))), (7, vc (i6 (List.length l : Int))), (8, vc (i6 (k : Int)))] []) ⟨0, ?_, rfl, ?_⟩ ?_
 · exact ⟨by omega, fun x hx => by simp at hx⟩
 · rfl
 rintro mm ss ⟨k, ⟨hI, hN⟩, rfl, rfl⟩
 refine gS [] [] 19 [(0, vc (slP l)), (1, AV.t (TV.c (.fn f caps))), (7, vc (i6 (List.length l : Int))), (8, vc (i6 (k : Int))), (9, vc (bo (decide ((k : Int) < (List.length l : Int)))))] [] trivial ?_
 refine gQ ?_
 refine gC ((k : Int) < (List.length l : Int)) (fun hc1 => ?_) fun hc1 => ?_
 ·
  refine AMx.skip ?_
  refine gQ ?_
  refine AMx.block ?_
  refine gS [] [] 19 [(0, vc (slP l)), (1, AV.t (TV.c (.fn f caps))), (5, vc (i6 (k : Int))), (7, vc (i6 (List.length l : Int))), (8, vc (i6 (k : Int)))] [] trivial ?_
  refine gS [(5, CE.call [] [] (vc (bo (p (List.getD l k ([], 0))))) [])] [(0 : Int) ≤ (k : Int), (k : Int) < List.length l, Spec Tryz.prog f ([TV.agg [.s (st ((List.getD l k ([], 0)).1)), .s (u8 ((List.getD l k ([], 0)).2))]] ++ List.map capT caps) (ofH []) (vc (bo (p (List.getD l k ([], 0))))) (ofH [])] 19 [(0, vc (slP l)), (1, AV.t (TV.c (.fn f caps))), (5, vc (i6 (k : Int))), (7, vc (i6 (List.length l : Int))), (8, vc (i6 (k : Int))), (16, vc (bo (p (List.getD l k ([], 0)))))] [] ⟨(by omega), (by omega), (hf (List.getD l k ([], 0)))⟩ ?_
  refine gB (p (List.getD l k ([], 0))) (fun hc2 => ?_) fun hc2 => ?_
  ·
   try simp only [xT, xF] at hc2
   refine gS [] [] 19 [(4, vc (i6 (k : Int)))] [] trivial ?_
   exact gT (vc (i6 (k : Int))) (by rw [Lib.idx_hit ([], 0) l k (by omega) hN (by assumption)])
  ·
   try simp only [xT, xF] at hc2
   refine AMx.skip ?_
   refine AMx.blk ?_
   refine gR [] [InR .i64 ((k : Int) + 1)] 19 [(0, vc (slP l)), (1, AV.t (TV.c (.fn f caps))), (7, vc (i6 (List.length l : Int))), (8, vc (i6 ((k : Int) + 1)))] [] (show InR .i64 ((k : Int) + 1) from (inR64 (by omega) (by omega))) ?_
   refine AMx.ent_inv (s' := AS.lst 19 [(0, vc (slP l)), (1, AV.t (TV.c (.fn f caps))), (7, vc (i6 (List.length l : Int))), (8, vc (i6 ((k : Int) + 1)))] []) (ent_proj [0, 1, 7, 8] []) ?_
   refine AMx.inv ⟨_, ?_, k + 1, ?_, rfl, ?_⟩
   rotate_left
   · exact ⟨by omega, Lib.all_step ([], 0) l k (by omega) hN (by assumption)⟩
   · rfl
   · omega
 ·
  refine AMx.exit ?_
  refine AMx.code_exit ?_
  refine AMx.inv_exit ?_
  refine AMx.blk_exit ?_
  refine gS [] [] 19 [(4, vc (i6 (-1)))] [] trivial ?_
  exact gT (vc (i6 (-1))) (by rw [Lib.idx_none (fun x hx => hN x (by rwa [List.take_of_length_le (by omega)]))])
theorem f101_body : Tryz.f101.body = some (.seq (.region 0 (rg Tryz.f101 0) false) (.seq (.region 1 (rg Tryz.f101 1) false) (.ret))) := by kernel_rfl
set_option maxRecDepth 100000 in
set_option maxHeartbeats 8000000 in
theorem Contains_c (f : FuncId) (caps : List Cap) (p : RuleV → Bool) (hf : ∀ x : RuleV, Pure Tryz.prog f ([TV.agg [.s (st x.1), .s (u8 x.2)]] ++ List.map capT caps) (vc (bo (p x)))) (l : List RuleV) : Pure Tryz.prog 101 [tc (slP l), TV.c (.fn f caps)] (vc (bo (decide (0 ≤ Lib.idxS p l)))) := by
 refine Pure.of_body Tryz.func101 f101_body (by kernel_rfl) Tryz.ntmps101 (by kernel_rfl) (by kernel_rfl) ?_
 refine gS [] [] 9 [(0, vc (slP l)), (1, AV.t (TV.c (.fn f caps)))] [] trivial ?_
 refine gS [(2, CE.call [] [] (vc (i6 (Lib.idxS p l))) [])] [Spec Tryz.prog 132 [tc (slP l), TV.c (.fn f caps)] (ofH []) (vc (i6 (Lib.idxS p l))) (ofH [])] 9 [(4, vc (bo (decide (0 ≤ Lib.idxS p l))))] [] (Index_c f caps p hf l) ?_
 exact gT (vc (bo (decide (0 ≤ Lib.idxS p l)))) rfl
theorem f73_body : Tryz.f73.body = some (.seq (.region 0 (rg Tryz.f73 0) false) (.seq (.seq (.region 1 (rg Tryz.f73 1) false) (.cond (.tmp 8) (.seq (.region 2 (rg Tryz.f73 2) false) (.seq (.region 3 (rg Tryz.f73 3) false) (.cond (.tmp 13) (.seq (.region 4 (rg Tryz.f73 4) false) (.ret)) (.skip)))) (.skip))) (.seq (.seq (.region 5 (rg Tryz.f73 5) false) (.cond (.tmp 17) (.seq (.region 6 (rg Tryz.f73 6) false) (.ret)) (.skip))) (.seq (.seq (.region 7 (rg Tryz.f73 7) false) (.cond (.tmp 20) (.seq (.region 8 (rg Tryz.f73 8) false) (.ret)) (.skip))) (.seq (.region 9 (rg Tryz.f73 9) false) (.ret)))))) := by kernel_rfl
set_option maxRecDepth 100000 in
set_option maxHeartbeats 8000000 in
theorem check1_c (z : RuleV) (ahead : List RuleV) : Pure Tryz.prog 73 [TV.agg [.s (st z.1), .s (u8 z.2)], tc (slP ahead)] (vc (i6 (oneC ahead z))) := by
 refine Pure.of_body Tryz.func73 f73_body (by kernel_rfl) Tryz.ntmps73 (by kernel_rfl) (by kernel_rfl) ?_
 refine gS [] [] 21 [(1, vc (slP ahead)), (2, vp 2 0)] [(2, AObj.row [.s (st z.1), .s (u8 z.2)])] trivial ?_
 refine gQ ?_
 refine gS [] [] 21 [(1, vc (slP ahead)), (2, vp 2 0), (8, vc (bo (!decide (z.1 = []))))] [(2, AObj.row [.s (st z.1), .s (u8 z.2)])] trivial ?_
 refine gN (z.1 = []) (fun hc1 => ?_) fun hc1 => ?_
 ·
  refine gS [(2, CE.call [] [] (vc (i6 (Route.checkS z.1))) [])] [Spec Tryz.prog 99 [tc (st z.1)] (ofH []) (vc (i6 (Route.checkS z.1))) (ofH [])] 21 [(1, vc (slP ahead)), (2, vp 2 0), (5, vc (i6 (Route.checkS z.1)))] [(2, AObj.row [.s (st z.1), .s (u8 z.2)])] (Route.Check_c z.1) ?_
  refine gS [] [] 21 [(1, vc (slP ahead)), (2, vp 2 0), (5, vc (i6 (Route.checkS z.1))), (13, vc (bo (!decide (Route.checkS z.1 = 0))))] [(2, AObj.row [.s (st z.1), .s (u8 z.2)])] trivial ?_
  refine gN (Route.checkS z.1 = 0) (fun hc2 => ?_) fun hc2 => ?_
  ·
   refine gS [] [] 21 [(4, vc (i6 (Route.checkS z.1)))] [] trivial ?_
   exact gT (vc (i6 (Route.checkS z.1))) (by rw [show oneC ahead z = Route.checkS z.1 from by unfold oneC; rw [← there_idx] <;> grind])
  ·
   refine AMx.skip ?_
   refine gQ ?_
   refine gS [] [] 21 [(1, vc (slP ahead)), (2, vp 2 0), (17, vc (bo (decide (63 < z.2))))] [(2, AObj.row [.s (st z.1), .s (u8 z.2)])] trivial ?_
   refine gC (63 < z.2) (fun hc3 => ?_) fun hc3 => ?_
   ·
    refine gS [] [] 21 [(4, vc (i6 2))] [] trivial ?_
    exact gT (vc (i6 2)) (by rw [show oneC ahead z = 2 from by unfold oneC; rw [← there_idx] <;> grind])
   ·
    refine AMx.skip ?_
    refine gQ ?_
    refine gS [(2, CE.call [2] [] (vc (bo (decide (0 ≤ Lib.idxS (fun x : RuleV => decide (x.1 = z.1)) ahead)))) [])] [Spec Tryz.prog 101 [tc (slP ahead), TV.c (.fn 102 [.s (SC.ref 2 (rl [st z.1, u8 z.2]))])] (ofH []) (vc (bo (decide (0 ≤ Lib.idxS (fun x : RuleV => decide (x.1 = z.1)) ahead)))) (ofH [])] 21 [(20, vc (bo (decide (0 ≤ Lib.idxS (fun x : RuleV => decide (x.1 = z.1)) ahead))))] [] (Contains_c 102 [.s (SC.ref 2 (rl [st z.1, u8 z.2]))] (fun x : RuleV => decide (x.1 = z.1)) (fun x => same_c x z.1 z.2) ahead) ?_
    refine gC (0 ≤ Lib.idxS (fun x : RuleV => decide (x.1 = z.1)) ahead) (fun hc4 => ?_) fun hc4 => ?_
    ·
     refine gS [] [] 21 [(4, vc (i6 20))] [] trivial ?_
     exact gT (vc (i6 20)) (by rw [show oneC ahead z = 20 from by unfold oneC; rw [← there_idx] <;> grind])
    ·
     refine AMx.skip ?_
     refine gS [] [] 21 [(4, vc (i6 0))] [] trivial ?_
     exact gT (vc (i6 0)) (by rw [show oneC ahead z = 0 from by unfold oneC; rw [← there_idx] <;> grind])
 ·
  refine AMx.skip ?_
  refine gQ ?_
  refine gS [] [] 21 [(1, vc (slP ahead)), (2, vp 2 0), (17, vc (bo (decide (63 < z.2))))] [(2, AObj.row [.s (st z.1), .s (u8 z.2)])] trivial ?_
  refine gC (63 < z.2) (fun hc5 => ?_) fun hc5 => ?_
  ·
   refine gS [] [] 21 [(4, vc (i6 2))] [] trivial ?_
   exact gT (vc (i6 2)) (by rw [show oneC ahead z = 2 from by unfold oneC; rw [← there_idx] <;> grind])
  ·
   refine AMx.skip ?_
   refine gQ ?_
   refine gS [(2, CE.call [2] [] (vc (bo (decide (0 ≤ Lib.idxS (fun x : RuleV => decide (x.1 = z.1)) ahead)))) [])] [Spec Tryz.prog 101 [tc (slP ahead), TV.c (.fn 102 [.s (SC.ref 2 (rl [st z.1, u8 z.2]))])] (ofH []) (vc (bo (decide (0 ≤ Lib.idxS (fun x : RuleV => decide (x.1 = z.1)) ahead)))) (ofH [])] 21 [(20, vc (bo (decide (0 ≤ Lib.idxS (fun x : RuleV => decide (x.1 = z.1)) ahead))))] [] (Contains_c 102 [.s (SC.ref 2 (rl [st z.1, u8 z.2]))] (fun x : RuleV => decide (x.1 = z.1)) (fun x => same_c x z.1 z.2) ahead) ?_
   refine gC (0 ≤ Lib.idxS (fun x : RuleV => decide (x.1 = z.1)) ahead) (fun hc6 => ?_) fun hc6 => ?_
   ·
    refine gS [] [] 21 [(4, vc (i6 20))] [] trivial ?_
    exact gT (vc (i6 20)) (by rw [show oneC ahead z = 20 from by unfold oneC; rw [← there_idx] <;> grind])
   ·
    refine AMx.skip ?_
    refine gS [] [] 21 [(4, vc (i6 0))] [] trivial ?_
    exact gT (vc (i6 0)) (by rw [show oneC ahead z = 0 from by unfold oneC; rw [← there_idx] <;> grind])
theorem f41_body : Tryz.f41.body = some (.seq (.region 0 (rg Tryz.f41 0) false) (.seq (.seq (.region 1 (rg Tryz.f41 1) false) (.cond (.tmp 8) (.seq (.region 2 (rg Tryz.f41 2) false) (.ret)) (.skip))) (.seq (.seq (.region 3 (rg Tryz.f41 3) false) (.block 0 (.loop (.seq (.region 4 (rg Tryz.f41 4) false) (.seq (.cond (.tmp 12) (.skip) (.exit 0)) (.seq (.block 1 (.seq (.region 5 (rg Tryz.f41 5) false) (.seq (.region 6 (rg Tryz.f41 6) true) (.seq (.region 7 (rg Tryz.f41 7) false) (.cond (.tmp 22) (.seq (.region 8 (rg Tryz.f41 8) false) (.ret)) (.skip)))))) (.region 9 (rg Tryz.f41 9) false))))))) (.seq (.region 10 (rg Tryz.f41 10) false) (.ret))))) := by kernel_rfl
set_option maxRecDepth 100000 in
set_option maxHeartbeats 8000000 in
theorem Check_c (l : List RuleV) : Pure Tryz.prog 41 [tc (slP l)] (vc (i6 (checkP l))) := by
 refine Pure.of_body Tryz.func41 f41_body (by kernel_rfl) Tryz.ntmps41 (by kernel_rfl) (by kernel_rfl) ?_
 refine AMx.sl 0 (l := l) rfl (fun hl => ?_)
 simp only [maxLen] at hl
 refine gS [] [] 25 [(0, vc (slP l))] [] trivial ?_
 refine gQ ?_
 refine gS [] [] 25 [(0, vc (slP l)), (8, vc (bo (decide (4 < (List.length l : Int)))))] [] trivial ?_
 refine gC (4 < (List.length l : Int)) (fun hc1 => ?_) fun hc1 => ?_
 ·
  refine gS [] [] 25 [(2, vc (i6 24))] [] trivial ?_
  exact gT (vc (i6 24)) (by rw [show checkP l = 24 from by first | exact chk_many (by omega) | exact chk_bad (by omega) (by omega) hN (by assumption) | exact chk_end (by omega) (by omega) hN])
 ·
  refine AMx.skip ?_
  refine gQ ?_
  refine gS [] [] 25 [(0, vc (slP l)), (9, vc (slP l)), (10, vc (i6 (List.length l : Int))), (11, vc (i6 0))] [] trivial ?_
  refine AMx.block ?_
  refine AMx.ent (s' := AS.lst 25 [(0, vc (slP l)), (9, vc (slP l)), (10, vc (i6 (List.length l : Int))), (11, vc (i6 0))] []) (ent_proj [0, 9, 10, 11] []) ?_
  refine AMx.loop (fun mm ss => ∃ (k : Nat), (k ≤ l.length ∧ ChkAt l k) ∧ mm = l.length - k ∧ ss = AS.lst 25 [(0, vc (slP l)), (9, vc (slP l)), (10, vc (i6 (List.length l : Int))), (11, vc (i6 (k : Int)))] []) ⟨0, ?_, rfl, ?_⟩ ?_
  · exact ⟨Nat.zero_le _, chk_0 l⟩
  · rfl
  rintro mm ss ⟨k, ⟨hI, hN⟩, rfl, rfl⟩
  refine gS [] [] 25 [(0, vc (slP l)), (9, vc (slP l)), (10, vc (i6 (List.length l : Int))), (11, vc (i6 (k : Int))), (12, vc (bo (decide ((k : Int) < (List.length l : Int)))))] [] trivial ?_
  refine gQ ?_
  refine gC ((k : Int) < (List.length l : Int)) (fun hc2 => ?_) fun hc2 => ?_
  ·
   refine AMx.skip ?_
   refine gQ ?_
   refine AMx.block ?_
   refine gS [] [(0 : Int) ≤ (k : Int), (k : Int) < List.length l] 25 [(0, vc (slP l)), (3, vc (i6 (k : Int))), (4, vp 4 0), (9, vc (slP l)), (10, vc (i6 (List.length l : Int))), (11, vc (i6 (k : Int)))] [(4, AObj.row [.s (st ((List.getD l k ([], 0)).1)), .s (u8 ((List.getD l k ([], 0)).2))])] ⟨(by omega), (show (k : Int) < List.length l from (by omega))⟩ ?_
   refine gY [(4, CE.call [] [] (vc (i6 (oneC (List.take k l) (List.getD l k ([], 0))))) [])] [(0, [4])] [0 ≤ (k : Int), (k : Int) ≤ List.length l, Spec Tryz.prog 73 [TV.agg [.s (st ((List.getD l k ([], 0)).1)), .s (u8 ((List.getD l k ([], 0)).2))], tc (slP (List.take k l))] (ofH []) (vc (i6 (oneC (List.take k l) (List.getD l k ([], 0))))) (ofH [])] 25 [(0, vc (slP l)), (5, vc (i6 (oneC (List.take k l) (List.getD l k ([], 0))))), (9, vc (slP l)), (10, vc (i6 (List.length l : Int))), (11, vc (i6 (k : Int)))] [] mixed ⟨(by omega), (by omega), (check1_c (List.getD l k ([], 0)) (List.take k l))⟩ ?_
   refine gS [] [] 25 [(0, vc (slP l)), (5, vc (i6 (oneC (List.take k l) (List.getD l k ([], 0))))), (9, vc (slP l)), (10, vc (i6 (List.length l : Int))), (11, vc (i6 (k : Int))), (22, vc (bo (!decide (oneC (List.take k l) (List.getD l k ([], 0)) = 0))))] [] trivial ?_
   refine gN (oneC (List.take k l) (List.getD l k ([], 0)) = 0) (fun hc3 => ?_) fun hc3 => ?_
   ·
    refine gS [] [] 25 [(2, vc (i6 (oneC (List.take k l) (List.getD l k ([], 0)))))] [] trivial ?_
    exact gT (vc (i6 (oneC (List.take k l) (List.getD l k ([], 0))))) (by rw [show checkP l = oneC (List.take k l) (List.getD l k ([], 0)) from by first | exact chk_many (by omega) | exact chk_bad (by omega) (by omega) hN (by assumption) | exact chk_end (by omega) (by omega) hN])
   ·
    refine AMx.skip ?_
    refine AMx.blk ?_
    refine gR [] [InR .i64 ((k : Int) + 1)] 25 [(0, vc (slP l)), (9, vc (slP l)), (10, vc (i6 (List.length l : Int))), (11, vc (i6 ((k : Int) + 1)))] [] (show InR .i64 ((k : Int) + 1) from (inR64 (by omega) (by omega))) ?_
    refine AMx.ent_inv (s' := AS.lst 25 [(0, vc (slP l)), (9, vc (slP l)), (10, vc (i6 (List.length l : Int))), (11, vc (i6 ((k : Int) + 1)))] []) (ent_proj [0, 9, 10, 11] []) ?_
    refine AMx.inv ⟨_, ?_, k + 1, ?_, rfl, ?_⟩
    rotate_left
    · exact ⟨by omega, chk_step (by omega) hN (by assumption)⟩
    · rfl
    · omega
  ·
   refine AMx.exit ?_
   refine AMx.code_exit ?_
   refine AMx.inv_exit ?_
   refine AMx.blk_exit ?_
   refine gS [] [] 25 [(2, vc (i6 0))] [] trivial ?_
   exact gT (vc (i6 0)) (by rw [show checkP l = 0 from by first | exact chk_many (by omega) | exact chk_bad (by omega) (by omega) hN (by assumption) | exact chk_end (by omega) (by omega) hN])
end AL.Policy
namespace AL.Policy
open Go Go.Proofs AL AL.Rune
set_option linter.unusedVariables false
set_option linter.unusedSimpArgs false
theorem f84_body : Tryz.f84.body = some (.seq (.region 0 (rg Tryz.f84 0) false) (.seq (.region 1 (rg Tryz.f84 1) false) (.seq (.seq (.region 2 (rg Tryz.f84 2) false) (.block 0 (.loop (.seq (.region 3 (rg Tryz.f84 3) false) (.seq (.cond (.tmp 12) (.skip) (.exit 0)) (.seq (.block 1 (.seq (.region 4 (rg Tryz.f84 4) false) (.region 5 (rg Tryz.f84 5) false))) (.region 6 (rg Tryz.f84 6) false))))))) (.seq (.region 7 (rg Tryz.f84 7) false) (.ret))))) := by kernel_rfl
set_option maxRecDepth 100000 in
set_option maxHeartbeats 8000000 in
theorem prefixes_c (l : List RuleV) (hl : l.length ≤ 100000) : Pure Tryz.prog 84 [tc (slP l)] (vc (AL.Fnv.slS (prefS l))) := by
 refine Pure.of_body Tryz.func84 f84_body (by kernel_rfl) Tryz.ntmps84 (by kernel_rfl) (by kernel_rfl) ?_
 refine gS [] [] 23 [(0, vc (slP l))] [] trivial ?_
 refine gS [(2, CE.obj (AObj.grow 9 1 Bytes [] AL.Fnv.rowS (List.replicate (List.length l) [])))] [0 ≤ (List.length l : Int), (List.length l : Int) ≤ (List.length l : Int), (16 : Int) * (List.length l : Int) ≤ 281474976710656, (List.length l : Int) ≤ 9223372036854775807, MakeC (List.length l) [.s (st [])] (AObj.grow 9 1 Bytes [] AL.Fnv.rowS (List.replicate (List.length l) []))] 23 [(0, vc (slP l)), (3, vo 8)] [(8, AObj.grow 9 1 Bytes [] AL.Fnv.rowS (List.replicate (List.length l) []))] ⟨(by first | omega | (simp only [List.length_append, List.length_replicate, pref_len, List.length_take]; omega)), (by first | omega | (simp only [List.length_append, List.length_replicate, pref_len, List.length_take]; omega)), (by first | omega | (simp only [List.length_append, List.length_replicate, pref_len, List.length_take]; omega)), (by first | omega | (simp only [List.length_append, List.length_replicate, pref_len, List.length_take]; omega)), (⟨_, rfl, rfl⟩)⟩ ?_
 refine gQ ?_
 refine gS [] [] 23 [(3, vo 8), (9, vc (slP l)), (10, vc (i6 (List.length l : Int))), (11, vc (i6 0))] [(8, AObj.grow 9 1 Bytes [] AL.Fnv.rowS (List.replicate (List.length l) []))] trivial ?_
 refine AMx.block ?_
 refine AMx.ent (s' := AS.lst 23 [(3, vo 8), (9, vc (slP l)), (10, vc (i6 (List.length l : Int))), (11, vc (i6 0))] [(8, AObj.grow 9 1 Bytes [] AL.Fnv.rowS (List.replicate (List.length l) []))]) (ent_proj [3, 9, 10, 11] [8]) ?_
 refine AMx.loop (fun mm ss => ∃ (k : Nat), (k ≤ l.length) ∧ mm = l.length - k ∧ ss = AS.lst 23 [(3, vo 8), (9, vc (slP l)), (10, vc (i6 (List.length l : Int))), (11, vc (i6 (k : Int)))] [(8, AObj.grow 9 1 Bytes [] AL.Fnv.rowS (prefS (List.take k l) ++ List.replicate (l.length - k) []))]) ⟨0, ?_, rfl, ?_⟩ ?_
 · omega
 · rfl
 rintro mm ss ⟨k, hI, rfl, rfl⟩
 refine gS [] [] 23 [(3, vo 8), (9, vc (slP l)), (10, vc (i6 (List.length l : Int))), (11, vc (i6 (k : Int))), (12, vc (bo (decide ((k : Int) < (List.length l : Int)))))] [(8, AObj.grow 9 1 Bytes [] AL.Fnv.rowS (prefS (List.take k l) ++ List.replicate (l.length - k) []))] trivial ?_
 refine gQ ?_
 refine gC ((k : Int) < (List.length l : Int)) (fun hc1 => ?_) fun hc1 => ?_
 ·
  refine AMx.skip ?_
  refine gQ ?_
  refine AMx.block ?_
  refine gS [] [(0 : Int) ≤ (k : Int), (k : Int) < List.length l] 23 [(3, vo 8), (4, vc (i6 (k : Int))), (5, vp 5 0), (9, vc (slP l)), (10, vc (i6 (List.length l : Int))), (11, vc (i6 (k : Int)))] [(5, AObj.row [.s (st ((List.getD l k ([], 0)).1)), .s (u8 ((List.getD l k ([], 0)).2))]), (8, AObj.grow 9 1 Bytes [] AL.Fnv.rowS (prefS (List.take k l) ++ List.replicate (l.length - k) []))] ⟨(by first | omega | (simp only [List.length_append, List.length_replicate, pref_len, List.length_take]; omega)), (show (k : Int) < List.length l from (by first | omega | (simp only [List.length_append, List.length_replicate, pref_len, List.length_take]; omega)))⟩ ?_
  refine gR [(5, CE.obj (AObj.grow 9 1 Bytes [] AL.Fnv.rowS (List.set (prefS (List.take k l) ++ List.replicate (l.length - k) []) k ((List.getD l k ([], 0)).1))))] [(0 : Int) ≤ (k : Int), (k : Int) < List.length (prefS (List.take k l) ++ List.replicate (l.length - k) [] : List Bytes), StoreC k 0 [.s (st ((List.getD l k ([], 0)).1))] (AObj.grow 9 1 Bytes [] AL.Fnv.rowS (prefS (List.take k l) ++ List.replicate (l.length - k) [])) (AObj.grow 9 1 Bytes [] AL.Fnv.rowS (List.set (prefS (List.take k l) ++ List.replicate (l.length - k) []) k ((List.getD l k ([], 0)).1)))] 23 [(3, vo 8), (9, vc (slP l)), (10, vc (i6 (List.length l : Int))), (11, vc (i6 (k : Int)))] [(8, AObj.grow 9 1 Bytes [] AL.Fnv.rowS (List.set (prefS (List.take k l) ++ List.replicate (l.length - k) []) k ((List.getD l k ([], 0)).1)))] ⟨(by first | omega | (simp only [List.length_append, List.length_replicate, pref_len, List.length_take]; omega)), (by first | omega | (simp only [List.length_append, List.length_replicate, pref_len, List.length_take]; omega)), (⟨(List.getD l k ([], 0)).1, rfl, by first | omega | (simp only [List.length_append, List.length_replicate, pref_len, List.length_take]; omega), rfl⟩)⟩ ?_
  refine AMx.blk ?_
  refine gR [] [InR .i64 ((k : Int) + 1)] 23 [(3, vo 8), (9, vc (slP l)), (10, vc (i6 (List.length l : Int))), (11, vc (i6 ((k : Int) + 1)))] [(8, AObj.grow 9 1 Bytes [] AL.Fnv.rowS (List.set (prefS (List.take k l) ++ List.replicate (l.length - k) []) k ((List.getD l k ([], 0)).1)))] (show InR .i64 ((k : Int) + 1) from (inR64 (by first | omega | (simp only [List.length_append, List.length_replicate, pref_len, List.length_take]; omega)) (by first | omega | (simp only [List.length_append, List.length_replicate, pref_len, List.length_take]; omega)))) ?_
  refine AMx.ent_inv (s' := AS.lst 23 [(3, vo 8), (9, vc (slP l)), (10, vc (i6 (List.length l : Int))), (11, vc (i6 ((k : Int) + 1)))] [(8, AObj.grow 9 1 Bytes [] AL.Fnv.rowS (List.set (prefS (List.take k l) ++ List.replicate (l.length - k) []) k ((List.getD l k ([], 0)).1)))]) (ent_proj [3, 9, 10, 11] [8]) ?_
  refine AMx.inv ⟨_, ?_, k + 1, ?_, rfl, ?_⟩
  rotate_left
  · omega
  · rw [pref_step l k (by omega)]; rfl
  · omega
 ·
  refine AMx.exit ?_
  refine AMx.code_exit ?_
  refine AMx.inv_exit ?_
  refine AMx.blk_exit ?_
  refine gS [] [] 23 [(2, vo 8)] [(8, AObj.grow 9 1 Bytes [] AL.Fnv.rowS (prefS (List.take k l) ++ List.replicate (l.length - k) []))] trivial ?_
  refine AMx.ent (s' := AS.lst 23 [(2, vc (AL.Fnv.slS (prefS (List.take k l) ++ List.replicate (l.length - k) [])))] []) (ent_freeze (id := 8) (T := 9) (by kernel_rfl)) ?_
  exact gT (vc (AL.Fnv.slS (prefS (List.take k l) ++ List.replicate (l.length - k) []))) (by rw [pref_end l k (by omega)])
theorem f56_body : Tryz.f56.body = some (.seq (.region 0 (rg Tryz.f56 0) false) (.seq (.region 1 (rg Tryz.f56 1) false) (.seq (.seq (.region 2 (rg Tryz.f56 2) false) (.cond (.tmp 11) (.seq (.region 3 (rg Tryz.f56 3) false) (.ret)) (.skip))) (.seq (.region 4 (rg Tryz.f56 4) false) (.ret))))) := by kernel_rfl
set_option maxRecDepth 100000 in
set_option maxHeartbeats 8000000 in
theorem Caps_c (l : List RuleV) (path : Bytes) (hl : l.length ≤ 100000) : Pure Tryz.prog 56 [tc (slP l), tc (st path)] (vc (u8 (capsP l path))) := by
 refine Pure.of_body Tryz.func56 f56_body (by kernel_rfl) Tryz.ntmps56 (by kernel_rfl) (by kernel_rfl) ?_
 have hr := longest_rng path l
 refine gS [] [] 17 [(0, vc (slP l)), (1, vc (st path))] [] trivial ?_
 refine gS [(2, CE.call [] [] (vc (AL.Fnv.slS (prefS l))) []), (3, CE.call [] [] (vc (i6 (Under.longestS path (prefS l)))) [])] [Spec Tryz.prog 84 [tc (slP l)] (ofH []) (vc (AL.Fnv.slS (prefS l))) (ofH []), Spec Tryz.prog 83 [tc (st path), tc (AL.Fnv.slS (prefS l))] (ofH []) (vc (i6 (Under.longestS path (prefS l)))) (ofH [])] 17 [(0, vc (slP l)), (5, vc (i6 (Under.longestS path (prefS l))))] [] ⟨(prefixes_c l (by omega)), (Under.Longest_c path (prefS l))⟩ ?_
 refine gQ ?_
 refine gS [] [] 17 [(0, vc (slP l)), (5, vc (i6 (Under.longestS path (prefS l)))), (11, vc (bo (decide (Under.longestS path (prefS l) < 0))))] [] trivial ?_
 refine gC (Under.longestS path (prefS l) < 0) (fun hc1 => ?_) fun hc1 => ?_
 ·
  refine gS [] [] 17 [(4, vc (u8 0))] [] trivial ?_
  exact gT (vc (u8 0)) (by rw [show capsP l path = 0 from by unfold capsP; first | rw [if_pos (by omega)] | rw [if_neg (by omega)]])
 ·
  refine AMx.skip ?_
  refine gS [] [(0 : Int) ≤ Under.longestS path (prefS l), Under.longestS path (prefS l) < List.length l] 17 [(4, vc (u8 ((List.getD l (Under.longestS path (prefS l)).toNat ([], 0)).2)))] [] ⟨(by omega), (show Under.longestS path (prefS l) < List.length l from (by omega))⟩ ?_
  exact gT (vc (u8 ((List.getD l (Under.longestS path (prefS l)).toNat ([], 0)).2))) (by rw [show capsP l path = (List.getD l (Under.longestS path (prefS l)).toNat ([], 0)).2 from by unfold capsP; first | rw [if_pos (by omega)] | rw [if_neg (by omega)]])
theorem f59_body : Tryz.f59.body = some (.seq (.region 0 (rg Tryz.f59 0) false) (.seq (.region 1 (rg Tryz.f59 1) false) (.ret))) := by kernel_rfl
set_option maxRecDepth 100000 in
set_option maxHeartbeats 8000000 in
theorem Allows_c (l : List RuleV) (path : Bytes) (caps : Int) (hl : l.length ≤ 100000) : Pure Tryz.prog 59 [tc (slP l), tc (st path), tc (u8 caps)] (vc (bo (allowsS l path caps))) := by
 refine Pure.of_body Tryz.func59 f59_body (by kernel_rfl) Tryz.ntmps59 (by kernel_rfl) (by kernel_rfl) ?_
 refine gS [] [] 13 [(0, vc (slP l)), (1, vc (st path)), (2, vc (u8 caps))] [] trivial ?_
 refine gS [(3, CE.call [] [] (vc (u8 (capsP l path))) [])] [Spec Tryz.prog 56 [tc (slP l), tc (st path)] (ofH []) (vc (u8 (capsP l path))) (ofH [])] 13 [(6, vc (bo (decide (IntKind.wrap .u8 ((BitVec.ofInt 8 caps &&& ~~~(BitVec.ofInt 8 (capsP l path))).toNat) = 0))))] [] (Caps_c l path (by omega)) ?_
 exact gT (vc (bo (decide (IntKind.wrap .u8 ((BitVec.ofInt 8 caps &&& ~~~(BitVec.ofInt 8 (capsP l path))).toNat) = 0)))) (by rw [show allowsS l path caps = decide (IntKind.wrap .u8 ((BitVec.ofInt 8 caps &&& ~~~(BitVec.ofInt 8 (capsP l path))).toNat) = 0) from (has_val _ _).symm])
theorem f60_body : Tryz.f60.body = some (.seq (.region 0 (rg Tryz.f60 0) false) (.seq (.seq (.region 1 (rg Tryz.f60 1) false) (.cond (.tmp 10) (.seq (.region 2 (rg Tryz.f60 2) false) (.ret)) (.skip))) (.seq (.seq (.region 3 (rg Tryz.f60 3) false) (.block 0 (.loop (.seq (.region 4 (rg Tryz.f60 4) false) (.seq (.cond (.tmp 14) (.skip) (.exit 0)) (.seq (.block 1 (.seq (.region 5 (rg Tryz.f60 5) false) (.seq (.region 6 (rg Tryz.f60 6) true) (.cond (.tmp 24) (.seq (.region 7 (rg Tryz.f60 7) false) (.ret)) (.skip))))) (.region 8 (rg Tryz.f60 8) false))))))) (.seq (.region 9 (rg Tryz.f60 9) false) (.ret))))) := by kernel_rfl
set_option maxRecDepth 100000 in
set_option maxHeartbeats 8000000 in
theorem Equal_c (a b : List RuleV) : Pure Tryz.prog 60 [tc (slP a), tc (slP b)] (vc (bo (decide (a = b)))) := by
 refine Pure.of_body Tryz.func60 f60_body (by kernel_rfl) Tryz.ntmps60 (by kernel_rfl) (by kernel_rfl) ?_
 refine AMx.sl 0 (l := a) rfl (fun hl => ?_)
 simp only [maxLen] at hl
 refine gS [] [] 26 [(0, vc (slP a)), (1, vc (slP b))] [] trivial ?_
 refine gQ ?_
 refine gS [] [] 26 [(0, vc (slP a)), (1, vc (slP b)), (10, vc (bo (!decide ((List.length a : Int) = (List.length b : Int)))))] [] trivial ?_
 refine gN ((List.length a : Int) = (List.length b : Int)) (fun hc1 => ?_) fun hc1 => ?_
 ·
  refine gS [] [] 26 [(4, vc (bo false))] [] trivial ?_
  exact gT (vc (bo false)) (by rw [decide_eq_false (fun h => by subst h; simp_all)])
 ·
  refine AMx.skip ?_
  refine gQ ?_
  refine gS [] [] 26 [(0, vc (slP a)), (1, vc (slP b)), (12, vc (i6 (List.length a : Int))), (13, vc (i6 0))] [] trivial ?_
  refine AMx.block ?_
  refine AMx.ent (s' := AS.lst 26 [(0, vc (slP a)), (1, vc (slP b)), (12, vc (i6 (List.length a : Int))), (13, vc (i6 0))] []) (ent_proj [0, 1, 12, 13] []) ?_
  refine AMx.loop (fun mm ss => ∃ (i : Nat), (i ≤ a.length ∧ List.take i a = List.take i b) ∧ mm = a.length - i ∧ ss = AS.lst 26 [(0, vc (slP a)), (1, vc (slP b)), (12, vc (i6 (List.length a : Int))), (13, vc (i6 (i : Int)))] []) ⟨0, ?_, rfl, ?_⟩ ?_
  · exact ⟨by omega, rfl⟩
  · rfl
  rintro mm ss ⟨i, ⟨hI, hE⟩, rfl, rfl⟩
  refine gS [] [] 26 [(0, vc (slP a)), (1, vc (slP b)), (12, vc (i6 (List.length a : Int))), (13, vc (i6 (i : Int))), (14, vc (bo (decide ((i : Int) < (List.length a : Int)))))] [] trivial ?_
  refine gQ ?_
  refine gC ((i : Int) < (List.length a : Int)) (fun hc2 => ?_) fun hc2 => ?_
  ·
   refine AMx.skip ?_
   refine gQ ?_
   refine AMx.block ?_
   refine gS [] [] 26 [(0, vc (slP a)), (1, vc (slP b)), (5, vc (i6 (i : Int))), (12, vc (i6 (List.length a : Int))), (13, vc (i6 (i : Int)))] [] trivial ?_
   refine gY [] [] [(0 : Int) ≤ (i : Int), (i : Int) < List.length a, (0 : Int) ≤ (i : Int), (i : Int) < List.length b] 26 [(0, vc (slP a)), (1, vc (slP b)), (12, vc (i6 (List.length a : Int))), (13, vc (i6 (i : Int))), (24, vc (bo (!(decide ((List.getD a i ([], 0)).1 = (List.getD b i ([], 0)).1) && (decide ((List.getD a i ([], 0)).2 = (List.getD b i ([], 0)).2) && true)))))] [] mixed ⟨(by omega), (by omega), (by omega), (show (i : Int) < List.length b from (by omega))⟩ ?_
   refine gB (!(decide ((List.getD a i ([], 0)).1 = (List.getD b i ([], 0)).1) && (decide ((List.getD a i ([], 0)).2 = (List.getD b i ([], 0)).2) && true))) (fun hc3 => ?_) fun hc3 => ?_
   ·
    try simp only [xT, xF, xA, xB, xN, xM] at hc3
    refine gS [] [] 26 [(4, vc (bo false))] [] trivial ?_
    exact gT (vc (bo false)) (by rw [decide_eq_false (fun h => by subst h; simp_all)])
   ·
    try simp only [xT, xF, xA, xB, xN, xM] at hc3
    refine AMx.skip ?_
    refine AMx.blk ?_
    refine gR [] [InR .i64 ((i : Int) + 1)] 26 [(0, vc (slP a)), (1, vc (slP b)), (12, vc (i6 (List.length a : Int))), (13, vc (i6 ((i : Int) + 1)))] [] (show InR .i64 ((i : Int) + 1) from (inR64 (by omega) (by omega))) ?_
    refine AMx.ent_inv (s' := AS.lst 26 [(0, vc (slP a)), (1, vc (slP b)), (12, vc (i6 (List.length a : Int))), (13, vc (i6 ((i : Int) + 1)))] []) (ent_proj [0, 1, 12, 13] []) ?_
    refine AMx.inv ⟨_, ?_, i + 1, ?_, rfl, ?_⟩
    rotate_left
    · exact ⟨by omega, Lib.same_step ([], 0) a b i (by omega) (by omega) hE (by grind)⟩
    · rfl
    · omega
  ·
   refine AMx.exit ?_
   refine AMx.code_exit ?_
   refine AMx.inv_exit ?_
   refine AMx.blk_exit ?_
   refine gS [] [] 26 [(4, vc (bo true))] [] trivial ?_
   exact gT (vc (bo true)) (by rw [decide_eq_true (Lib.same_end a b i (by omega) (by omega) hE)])
theorem f29_body : Tryz.f29.body = some (.seq (.region 0 (rg Tryz.f29 0) false) (.seq (.region 1 (rg Tryz.f29 1) false) (.ret))) := by kernel_rfl
set_option maxRecDepth 100000 in
set_option maxHeartbeats 8000000 in
theorem Same_c (a b : List RuleV) : Pure Tryz.prog 29 [tc (slP a), tc (slP b)] (vc (bo (decide (a = b)))) := by
 refine Pure.of_body Tryz.func29 f29_body (by kernel_rfl) Tryz.ntmps29 (by kernel_rfl) (by kernel_rfl) ?_
 refine gS [] [] 8 [(0, vc (slP a)), (1, vc (slP b))] [] trivial ?_
 refine gS [(2, CE.call [] [] (vc (bo (decide (a = b)))) [])] [Spec Tryz.prog 60 [tc (slP a), tc (slP b)] (ofH []) (vc (bo (decide (a = b)))) (ofH [])] 8 [(4, vc (bo (decide (a = b))))] [] (Equal_c a b) ?_
 exact gT (vc (bo (decide (a = b)))) rfl
end AL.Policy
namespace Go.Proofs
open Go.Shelf
def Tryz.lays168_ren : Go.Shelf.Ren := ⟨fun | 168 => 120 | 240 => 141 | 242 => 142 | 276 => 156 | 278 => 157 | n => n, fun | 0 => 0 | 3 => 3 | 4 => 4 | 5 => 5 | 9 => 9 | 20 => 20 | 21 => 21 | 37 => 104 | 46 => 129 | 51 => 171 | 70 => 175 | 72 => 177 | 75 => 179 | 164 => 213 | 80 => 182 | n => n, fun | n => n⟩
theorem Tryz.lays168 : Go.Proofs.Lays.n168 Tryz.prog Tryz.lays168_ren := {
  mixed := by kernel_rfl
  f168 := Tryz.func120.trans (congrArg some (by kernel_rfl))
  f240 := Tryz.func141.trans (congrArg some (by kernel_rfl))
  f242 := Tryz.func142.trans (congrArg some (by kernel_rfl))
  f276 := Tryz.func156.trans (congrArg some (by kernel_rfl))
  f278 := Tryz.func157.trans (congrArg some (by kernel_rfl))
  t0 := Tryz.underlying0
  a0 := Tryz.isAgg0
  z0 := Tryz.sizeOf0
  v0 := Tryz.zeroValue0
  t3 := Tryz.underlying3
  a3 := Tryz.isAgg3
  z3 := Tryz.sizeOf3
  v3 := Tryz.zeroValue3
  t4 := Tryz.underlying4
  a4 := Tryz.isAgg4
  z4 := Tryz.sizeOf4
  v4 := Tryz.zeroValue4
  t5 := Tryz.underlying5
  a5 := Tryz.isAgg5
  z5 := Tryz.sizeOf5
  v5 := Tryz.zeroValue5
  t9 := Tryz.underlying9
  a9 := Tryz.isAgg9
  z9 := Tryz.sizeOf9
  v9 := Tryz.zeroValue9
  t20 := Tryz.underlying20
  a20 := Tryz.isAgg20
  z20 := Tryz.sizeOf20
  v20 := Tryz.zeroValue20
  t21 := Tryz.underlying21
  a21 := Tryz.isAgg21
  z21 := Tryz.sizeOf21
  v21 := Tryz.zeroValue21
  t37 := Tryz.underlying104
  a37 := Tryz.isAgg104
  z37 := Tryz.sizeOf104
  v37 := Tryz.zeroValue104
  t46 := Tryz.underlying129
  a46 := Tryz.isAgg129
  z46 := Tryz.sizeOf129
  v46 := Tryz.zeroValue129
  t51 := Tryz.underlying171
  a51 := Tryz.isAgg171
  z51 := Tryz.sizeOf171
  v51 := Tryz.zeroValue171
  t70 := Tryz.underlying175
  a70 := Tryz.isAgg175
  z70 := Tryz.sizeOf175
  v70 := Tryz.zeroValue175
  t72 := Tryz.underlying177
  a72 := Tryz.isAgg177
  z72 := Tryz.sizeOf177
  v72 := Tryz.zeroValue177
  t75 := Tryz.underlying179
  a75 := Tryz.isAgg179
  z75 := Tryz.sizeOf179
  v75 := Tryz.zeroValue179
  t164 := Tryz.underlying213
  a164 := Tryz.isAgg213
  z164 := Tryz.sizeOf213
  v164 := Tryz.zeroValue213 }
theorem Tryz.Builder_Extra_168 : Builder.Extra Tryz.prog Tryz.lays168_ren := {
  sizeBuilder := by kernel_rfl
  liesBuilder := by kernel_rfl
  t5 := Tryz.underlying5
  a5 := Tryz.isAgg5
  z5 := Tryz.sizeOf5
  v5 := Tryz.zeroValue5
  infoByte := by kernel_rfl
  cellsByte := by kernel_rfl
  sizeByte := by kernel_rfl
  neB5 := by decide }
open Go.RowKit in
theorem Tryz.WriteRune_k (B b : Nat) (bs : List Value) (r : Int) (hr0 : -2147483648 ≤ r) (hr1 : r ≤ 2147483647) (w : World) (h : Lib.IsBuilderF 177 5 B b bs w) (hlen : bs.length + 4 ≤ 140737488355328) (hBw : B ≤ w.heap.size) :
    Calls Tryz.prog 120 #[.pointer (some ⟨b, 0, none⟩), .int .i32 r] w fun e w' => e = .returned (.tuple #[.int .i64 (Lib.runeCells r).length, .nilIface]) ∧ (Lib.BuilderAtF 177 5 B b (.pointer (some ⟨b, 0, none⟩)) (bs ++ Lib.runeCells r) w' ∧ Below B w w' ∧ Lib.OthersKept 5 (some b) w w') :=
  Any.Builder_WriteRune_k Tryz.lays168 Tryz.Builder_Extra_168 B b bs r hr0 hr1 w h hlen hBw
end Go.Proofs
namespace AL.Policy
open Go Go.Proofs Go.RowKit AL AL.Rune
set_option linter.unusedVariables false
set_option linter.unusedSimpArgs false
theorem and_1 : ∀ m : Nat, m < 256 → (bits BinOp.and IntKind.u8 (m : Int) 1 == 1) = decide ((m : Int) % 2 = 1) := by decide +kernel
theorem bit_and {n : Int} (h0 : 0 ≤ n) (h1 : n ≤ 255) (pos : Nat) : (bits BinOp.and IntKind.u8 (n / 2 ^ pos) 1 == 1) = bitN n pos := by
  have hr := shr_rng h0 (by omega : n < 256) pos
  unfold shrN at hr
  obtain ⟨m, hm⟩ := Int.eq_ofNat_of_zero_le hr.1
  unfold bitN
  rw [hm]
  exact and_1 m (by omega)
theorem dec_lets : ∀ pos, pos < 6 → decS lets pos = ((List.getD lets pos 0).toNat, 1) ∧ Go.Lib.encodeRune (((List.getD lets pos 0).toNat : Nat) : Int) = [List.getD lets pos 0] := by decide +kernel
set_option maxHeartbeats 6400000 in
set_option maxRecDepth 1000000 in
theorem lay_walk (n : Int) (h0 : 0 ≤ n) (h1 : n ≤ 255) (w : World) :
    Calls Tryz.prog 87 #[.int .u8 n] w fun e w' => e = .returned (.string (ba (layS n))) ∧ Below w.heap.size w w' := by
  go_enter Tryz.func87, Tryz.ntmps87
  go_wp2
  go_loopw [7] (fun _ wr => ∃ pos : Nat, pos ≤ 6 ∧ Go.Lib.IsBuilderF 177 5 w.heap.size w.heap.size (Go.Lib.byteCells (layK n pos)) wr ∧ wr.heap[w.heap.size + 1]? = some (.stringIter (ba lets) pos) ∧ Below w.heap.size w wr)
    (fun _ wr => 6 - wr.iterPos (w.heap.size + 1))
  case atStart =>
    refine ⟨0, Nat.zero_le _, (Go.Lib.IsBuilderF.of (Go.Lib.fresh_isBuilder 177 5 w)).alloc _, ?_, ((Below.refl _ w).alloc (Nat.le_refl _) _).alloc (by simp) _⟩
    have := World.iter_heap (w.alloc (.cells #[.pointer none, .slice none 0 0] 177)) (ba lets) 0
    have e : ba lets = ⟨#[114, 119, 100, 120, 108, 115]⟩ := rfl
    rw [e] at this ⊢
    simpa using this
  case round =>
    obtain ⟨pos, hps, hI, hit, hbw⟩ := hrel
    have hlt : w.heap.size + 1 < wr.heap.size := (Array.getElem?_eq_some_iff.1 hit).1
    have hmu : wr.iterPos (w.heap.size + 1) = pos := by simp [World.iterPos, hit]
    by_cases hp : pos < 6
    · have hnx : ∀ ty, (Instr.next (.pointer (some ⟨w.heap.size + 1, 0, none⟩)) true ty).run Tryz.prog wr = Result.ok (Value.tuple #[Value.bool true, Value.int .i64 (pos : Int), Value.int .i32 ((decS lets pos).1 : Int)]) (wr.iterAt (w.heap.size + 1) (ba lets) (pos + (decS lets pos).2)) := fun ty => Go.Lib.run_next_any_at wr (w.heap.size + 1) (ba lets) pos ty hit (by show pos < 6; exact hp)
      have hd := dec_ok (s := lets) (pos := pos) hp
      have hI2 := hI.iterAt hit (pos + (decS lets pos).2)
      have hit2 := Go.Lib.iterAt_heap wr (w.heap.size + 1) (ba lets) pos (pos + (decS lets pos).2) hit
      have hbw2 := Go.Lib.below_iterAt hbw (k := w.heap.size + 1) (by omega) (ba lets) (pos + (decS lets pos).2)
      have hsz2 : w.heap.size + 1 < (wr.iterAt (w.heap.size + 1) (ba lets) (pos + (decS lets pos).2)).heap.size := by rw [Go.Lib.iterAt_size]; exact hlt
      generalize wr.iterAt (w.heap.size + 1) (ba lets) (pos + (decS lets pos).2) = W1 at hnx hI2 hit2 hbw2 hsz2
      have hrm := dec_max lets pos
      have hll := lay_len n pos
      cases hb : bitN n pos with
      | true =>
        have hbt := (bit_and h0 h1 pos).trans hb
        go_wp2_with (go_at_call 120; go_loud (refine (Tryz.WriteRune_k w.heap.size w.heap.size _ _ (by omega) (by omega) _ hI2 (by rw [Go.Lib.byteCells_length]; omega) (hbw2.size)).mono ?_); rintro e W3 ⟨rfl, h1, b1, k1⟩)
        go_wp2
        go_roundw
        case rel =>
          obtain ⟨d1, d2⟩ := dec_lets pos hp
          refine ⟨pos + (decS lets pos).2, by rw [d1]; exact hp, ?_, k1.iter hit2 (by omega), hbw2.trans b1⟩
          rw [d1] at h1 ⊢
          rw [lay_t hb, Go.Lib.byteCells_append]
          rw [← d2, Go.Lib.byteCells_encodeRune]; exact .inr h1
        case measure =>
          simp only [World.iterPos, k1.iter hit2 (by omega), hit]
          omega
      | false =>
        have hbt := (bit_and h0 h1 pos).trans hb
        go_wp2
        go_roundw
        case rel =>
          obtain ⟨d1, d2⟩ := dec_lets pos hp
          refine ⟨pos + (decS lets pos).2, by rw [d1]; exact hp, ?_, hit2, hbw2⟩
          rw [d1]
          rw [lay_f hb]; exact hI2
        case measure =>
          simp only [World.iterPos, hit2, hit]
          omega
    · have hnx : ∀ ty, (Instr.next (.pointer (some ⟨w.heap.size + 1, 0, none⟩)) true ty).run Tryz.prog wr = _ := fun ty => Go.Lib.run_next_end_at wr (w.heap.size + 1) (ba lets) pos ty hit (by show ¬ pos < 6; exact hp)
      go_wp2_with (go_at_call 121; refine (Tryz.Builder_String_any_k w.heap.size w.heap.size (layK n pos) wr hI hbw.size).mono ?_; rintro e W1 ⟨rfl, _, hb1, _⟩)
      go_wp2
      go_ret
      refine ⟨?_, hbw.trans hb1⟩
      rw [show pos = 6 by omega, lay_6 h0]; rfl
theorem lay_c (n : Int) : Pure Tryz.prog 87 [tc (u8 n)] (vc (st (layS n))) := by
  refine Pure.of_below ⟨_, Tryz.func87, by kernel_rfl, by kernel_rfl⟩ fun Γ w cargs hh hm => ?_
  obtain ⟨u, rfl, ⟨rfl, hu⟩⟩ := args1 hm
  rw [inR8_iff] at hu
  refine (lay_walk n hu.1 hu.2 w).mono ?_
  rintro e w' ⟨rfl, hb⟩
  have h := layS_len n
  exact ⟨_, rfl, hb, rfl, by simp only [maxLen]; omega⟩
end AL.Policy
namespace AL.Policy
open Go Go.Proofs AL AL.Rune
set_option linter.unusedVariables false
set_option linter.unusedSimpArgs false
theorem f61_body : Tryz.f61.body = some (.seq (.region 0 (rg Tryz.f61 0) false) (.seq (.seq (.region 1 (rg Tryz.f61 1) false) (.seq (.region 2 (rg Tryz.f61 2) false) (.cond (.tmp 11) (.seq (.region 3 (rg Tryz.f61 3) false) (.ret)) (.skip)))) (.seq (.region 4 (rg Tryz.f61 4) false) (.seq (.seq (.region 5 (rg Tryz.f61 5) false) (.block 0 (.loop (.seq (.region 6 (rg Tryz.f61 6) false) (.seq (.cond (.tmp 19) (.skip) (.exit 0)) (.seq (.block 1 (.seq (.region 7 (rg Tryz.f61 7) false) (.region 8 (rg Tryz.f61 8) true))) (.region 9 (rg Tryz.f61 9) false))))))) (.seq (.region 10 (rg Tryz.f61 10) false) (.ret)))))) := by kernel_rfl
set_option maxRecDepth 100000 in
set_option maxHeartbeats 8000000 in
theorem Text_c (l : List RuleV) : Pure Tryz.prog 61 [tc (slP l)] (AV.tup [tc (st ((textP l).1)), tc (i6 ((textP l).2))]) := by
 refine Pure.of_body Tryz.func61 f61_body (by kernel_rfl) Tryz.ntmps61 (by kernel_rfl) (by kernel_rfl) ?_
 refine AMx.sl 0 (l := l) rfl (fun hl => ?_)
 simp only [maxLen] at hl
 refine gS [] [] 36 [(0, vc (slP l))] [] trivial ?_
 refine gQ ?_
 refine gS [(1, CE.call [] [] (vc (i6 (checkP l))) [])] [Spec Tryz.prog 41 [tc (slP l)] (ofH []) (vc (i6 (checkP l))) (ofH [])] 36 [(0, vc (slP l)), (4, vc (i6 (checkP l)))] [] (Check_c l) ?_
 refine gS [] [] 36 [(0, vc (slP l)), (4, vc (i6 (checkP l))), (11, vc (bo (!decide (checkP l = 0))))] [] trivial ?_
 refine gN (checkP l = 0) (fun hc1 => ?_) fun hc1 => ?_
 ·
  refine gS [] [] 36 [(2, vc (st [])), (3, vc (i6 (checkP l)))] [] trivial ?_
  exact gT (AV.tup [tc (st []), tc (i6 (checkP l))]) (by rw [show textP l = ([], checkP l) from by first | rw [text_no (by assumption)] | (rw [text_ok (by assumption)]; rfl)])
 ·
  refine AMx.skip ?_
  refine gS [(2, CE.obj (AObj.grow 9 1 Bytes [] AL.Fnv.rowS (List.replicate (List.length l) [])))] [0 ≤ (List.length l : Int), (List.length l : Int) ≤ (List.length l : Int), (16 : Int) * (List.length l : Int) ≤ 281474976710656, (List.length l : Int) ≤ 9223372036854775807, MakeC (List.length l) [.s (st [])] (AObj.grow 9 1 Bytes [] AL.Fnv.rowS (List.replicate (List.length l) []))] 36 [(0, vc (slP l)), (5, vo 15)] [(15, AObj.grow 9 1 Bytes [] AL.Fnv.rowS (List.replicate (List.length l) []))] ⟨(by first | omega | (have q1 := check_len (l := l) (by assumption); first | omega | ((try simp only [List.length_append, List.length_cons, List.length_nil, List.length_replicate, List.length_map, List.length_take, List.length_drop, pref_len, ruled_len]); omega)) | (have q4 := text_small (l := l) (by assumption); omega) | (have q1 := check_len (l := l) (by assumption); have q2 := ok_at (l := l) (k := k) (by assumption) (by omega); have q3 := layS_len (List.getD l k ([], 0)).2; (try simp only [List.length_append, List.length_cons, List.length_nil, List.length_replicate, List.length_map, List.length_take, List.length_drop, pref_len, ruled_len]); omega)), (by first | omega | (have q1 := check_len (l := l) (by assumption); first | omega | ((try simp only [List.length_append, List.length_cons, List.length_nil, List.length_replicate, List.length_map, List.length_take, List.length_drop, pref_len, ruled_len]); omega)) | (have q4 := text_small (l := l) (by assumption); omega) | (have q1 := check_len (l := l) (by assumption); have q2 := ok_at (l := l) (k := k) (by assumption) (by omega); have q3 := layS_len (List.getD l k ([], 0)).2; (try simp only [List.length_append, List.length_cons, List.length_nil, List.length_replicate, List.length_map, List.length_take, List.length_drop, pref_len, ruled_len]); omega)), (by first | omega | (have q1 := check_len (l := l) (by assumption); first | omega | ((try simp only [List.length_append, List.length_cons, List.length_nil, List.length_replicate, List.length_map, List.length_take, List.length_drop, pref_len, ruled_len]); omega)) | (have q4 := text_small (l := l) (by assumption); omega) | (have q1 := check_len (l := l) (by assumption); have q2 := ok_at (l := l) (k := k) (by assumption) (by omega); have q3 := layS_len (List.getD l k ([], 0)).2; (try simp only [List.length_append, List.length_cons, List.length_nil, List.length_replicate, List.length_map, List.length_take, List.length_drop, pref_len, ruled_len]); omega)), (by first | omega | (have q1 := check_len (l := l) (by assumption); first | omega | ((try simp only [List.length_append, List.length_cons, List.length_nil, List.length_replicate, List.length_map, List.length_take, List.length_drop, pref_len, ruled_len]); omega)) | (have q4 := text_small (l := l) (by assumption); omega) | (have q1 := check_len (l := l) (by assumption); have q2 := ok_at (l := l) (k := k) (by assumption) (by omega); have q3 := layS_len (List.getD l k ([], 0)).2; (try simp only [List.length_append, List.length_cons, List.length_nil, List.length_replicate, List.length_map, List.length_take, List.length_drop, pref_len, ruled_len]); omega)), (⟨_, rfl, rfl⟩)⟩ ?_
  refine gQ ?_
  refine gS [] [] 36 [(5, vo 15), (16, vc (slP l)), (17, vc (i6 (List.length l : Int))), (18, vc (i6 0))] [(15, AObj.grow 9 1 Bytes [] AL.Fnv.rowS (List.replicate (List.length l) []))] trivial ?_
  refine AMx.block ?_
  refine AMx.ent (s' := AS.lst 36 [(5, vo 15), (16, vc (slP l)), (17, vc (i6 (List.length l : Int))), (18, vc (i6 0))] [(15, AObj.grow 9 1 Bytes [] AL.Fnv.rowS (List.replicate (List.length l) []))]) (ent_proj [5, 16, 17, 18] [15]) ?_
  refine AMx.loop (fun mm ss => ∃ (k : Nat), (k ≤ l.length) ∧ mm = l.length - k ∧ ss = AS.lst 36 [(5, vo 15), (16, vc (slP l)), (17, vc (i6 (List.length l : Int))), (18, vc (i6 (k : Int)))] [(15, AObj.grow 9 1 Bytes [] AL.Fnv.rowS ((List.take k l).map pieceS ++ List.replicate (l.length - k) []))]) ⟨0, ?_, rfl, ?_⟩ ?_
  · omega
  · rfl
  rintro mm ss ⟨k, hI, rfl, rfl⟩
  refine gS [] [] 36 [(5, vo 15), (16, vc (slP l)), (17, vc (i6 (List.length l : Int))), (18, vc (i6 (k : Int))), (19, vc (bo (decide ((k : Int) < (List.length l : Int)))))] [(15, AObj.grow 9 1 Bytes [] AL.Fnv.rowS ((List.take k l).map pieceS ++ List.replicate (l.length - k) []))] trivial ?_
  refine gQ ?_
  refine gC ((k : Int) < (List.length l : Int)) (fun hc2 => ?_) fun hc2 => ?_
  ·
   refine AMx.skip ?_
   refine gQ ?_
   refine AMx.block ?_
   refine gS [] [(0 : Int) ≤ (k : Int), (k : Int) < List.length l] 36 [(5, vo 15), (6, vc (i6 (k : Int))), (7, vp 7 0), (16, vc (slP l)), (17, vc (i6 (List.length l : Int))), (18, vc (i6 (k : Int)))] [(7, AObj.row [.s (st ((List.getD l k ([], 0)).1)), .s (u8 ((List.getD l k ([], 0)).2))]), (15, AObj.grow 9 1 Bytes [] AL.Fnv.rowS ((List.take k l).map pieceS ++ List.replicate (l.length - k) []))] ⟨(by first | omega | (have q1 := check_len (l := l) (by assumption); first | omega | ((try simp only [List.length_append, List.length_cons, List.length_nil, List.length_replicate, List.length_map, List.length_take, List.length_drop, pref_len, ruled_len]); omega)) | (have q4 := text_small (l := l) (by assumption); omega) | (have q1 := check_len (l := l) (by assumption); have q2 := ok_at (l := l) (k := k) (by assumption) (by omega); have q3 := layS_len (List.getD l k ([], 0)).2; (try simp only [List.length_append, List.length_cons, List.length_nil, List.length_replicate, List.length_map, List.length_take, List.length_drop, pref_len, ruled_len]); omega)), (show (k : Int) < List.length l from (by first | omega | (have q1 := check_len (l := l) (by assumption); first | omega | ((try simp only [List.length_append, List.length_cons, List.length_nil, List.length_replicate, List.length_map, List.length_take, List.length_drop, pref_len, ruled_len]); omega)) | (have q4 := text_small (l := l) (by assumption); omega) | (have q1 := check_len (l := l) (by assumption); have q2 := ok_at (l := l) (k := k) (by assumption) (by omega); have q3 := layS_len (List.getD l k ([], 0)).2; (try simp only [List.length_append, List.length_cons, List.length_nil, List.length_replicate, List.length_map, List.length_take, List.length_drop, pref_len, ruled_len]); omega)))⟩ ?_
   refine gX [(7, CE.call [] [] (vc (st (layS ((List.getD l k ([], 0)).2)))) []), (10, CE.obj (AObj.grow 9 1 Bytes [] AL.Fnv.rowS (List.set ((List.take k l).map pieceS ++ List.replicate (l.length - k) []) k ((((List.getD l k ([], 0)).1) ++ [58]) ++ (layS ((List.getD l k ([], 0)).2))))))] [(3, [7]), (6, [7]), (9, [15]), (10, [15])] [List.length ((List.getD l k ([], 0)).1 : List UInt8) + List.length ([58] : List UInt8) ≤ maxLen, Spec Tryz.prog 87 [tc (u8 ((List.getD l k ([], 0)).2))] (ofH []) (vc (st (layS ((List.getD l k ([], 0)).2)))) (ofH []), List.length (((List.getD l k ([], 0)).1) ++ [58] : List UInt8) + List.length (layS ((List.getD l k ([], 0)).2) : List UInt8) ≤ maxLen, (0 : Int) ≤ (k : Int), (k : Int) < List.length ((List.take k l).map pieceS ++ List.replicate (l.length - k) [] : List Bytes), StoreC k 0 [.s (st ((((List.getD l k ([], 0)).1) ++ [58]) ++ (layS ((List.getD l k ([], 0)).2))))] (AObj.grow 9 1 Bytes [] AL.Fnv.rowS ((List.take k l).map pieceS ++ List.replicate (l.length - k) [])) (AObj.grow 9 1 Bytes [] AL.Fnv.rowS (List.set ((List.take k l).map pieceS ++ List.replicate (l.length - k) []) k ((((List.getD l k ([], 0)).1) ++ [58]) ++ (layS ((List.getD l k ([], 0)).2)))))] 36 [(5, vo 15), (16, vc (slP l)), (17, vc (i6 (List.length l : Int))), (18, vc (i6 (k : Int)))] [(15, AObj.grow 9 1 Bytes [] AL.Fnv.rowS (List.set ((List.take k l).map pieceS ++ List.replicate (l.length - k) []) k ((((List.getD l k ([], 0)).1) ++ [58]) ++ (layS ((List.getD l k ([], 0)).2)))))] mixed ⟨(by simp only [List.length_append, List.length_cons, List.length_nil, maxLen]; first | omega | (first | omega | (have q1 := check_len (l := l) (by assumption); first | omega | ((try simp only [List.length_append, List.length_cons, List.length_nil, List.length_replicate, List.length_map, List.length_take, List.length_drop, pref_len, ruled_len]); omega)) | (have q4 := text_small (l := l) (by assumption); omega) | (have q1 := check_len (l := l) (by assumption); have q2 := ok_at (l := l) (k := k) (by assumption) (by omega); have q3 := layS_len (List.getD l k ([], 0)).2; (try simp only [List.length_append, List.length_cons, List.length_nil, List.length_replicate, List.length_map, List.length_take, List.length_drop, pref_len, ruled_len]); omega))), (lay_c ((List.getD l k ([], 0)).2)), (by simp only [List.length_append, List.length_cons, List.length_nil, maxLen]; first | omega | (first | omega | (have q1 := check_len (l := l) (by assumption); first | omega | ((try simp only [List.length_append, List.length_cons, List.length_nil, List.length_replicate, List.length_map, List.length_take, List.length_drop, pref_len, ruled_len]); omega)) | (have q4 := text_small (l := l) (by assumption); omega) | (have q1 := check_len (l := l) (by assumption); have q2 := ok_at (l := l) (k := k) (by assumption) (by omega); have q3 := layS_len (List.getD l k ([], 0)).2; (try simp only [List.length_append, List.length_cons, List.length_nil, List.length_replicate, List.length_map, List.length_take, List.length_drop, pref_len, ruled_len]); omega))), (by first | omega | (have q1 := check_len (l := l) (by assumption); first | omega | ((try simp only [List.length_append, List.length_cons, List.length_nil, List.length_replicate, List.length_map, List.length_take, List.length_drop, pref_len, ruled_len]); omega)) | (have q4 := text_small (l := l) (by assumption); omega) | (have q1 := check_len (l := l) (by assumption); have q2 := ok_at (l := l) (k := k) (by assumption) (by omega); have q3 := layS_len (List.getD l k ([], 0)).2; (try simp only [List.length_append, List.length_cons, List.length_nil, List.length_replicate, List.length_map, List.length_take, List.length_drop, pref_len, ruled_len]); omega)), (by first | omega | (have q1 := check_len (l := l) (by assumption); first | omega | ((try simp only [List.length_append, List.length_cons, List.length_nil, List.length_replicate, List.length_map, List.length_take, List.length_drop, pref_len, ruled_len]); omega)) | (have q4 := text_small (l := l) (by assumption); omega) | (have q1 := check_len (l := l) (by assumption); have q2 := ok_at (l := l) (k := k) (by assumption) (by omega); have q3 := layS_len (List.getD l k ([], 0)).2; (try simp only [List.length_append, List.length_cons, List.length_nil, List.length_replicate, List.length_map, List.length_take, List.length_drop, pref_len, ruled_len]); omega)), (⟨(((List.getD l k ([], 0)).1) ++ [58]) ++ (layS ((List.getD l k ([], 0)).2)), rfl, by first | omega | (have q1 := check_len (l := l) (by assumption); first | omega | ((try simp only [List.length_append, List.length_cons, List.length_nil, List.length_replicate, List.length_map, List.length_take, List.length_drop, pref_len, ruled_len]); omega)) | (have q4 := text_small (l := l) (by assumption); omega) | (have q1 := check_len (l := l) (by assumption); have q2 := ok_at (l := l) (k := k) (by assumption) (by omega); have q3 := layS_len (List.getD l k ([], 0)).2; (try simp only [List.length_append, List.length_cons, List.length_nil, List.length_replicate, List.length_map, List.length_take, List.length_drop, pref_len, ruled_len]); omega), rfl⟩)⟩ ?_
   refine AMx.blk ?_
   refine gR [] [InR .i64 ((k : Int) + 1)] 36 [(5, vo 15), (16, vc (slP l)), (17, vc (i6 (List.length l : Int))), (18, vc (i6 ((k : Int) + 1)))] [(15, AObj.grow 9 1 Bytes [] AL.Fnv.rowS (List.set ((List.take k l).map pieceS ++ List.replicate (l.length - k) []) k ((((List.getD l k ([], 0)).1) ++ [58]) ++ (layS ((List.getD l k ([], 0)).2)))))] (show InR .i64 ((k : Int) + 1) from (inR64 (by first | omega | (have q1 := check_len (l := l) (by assumption); first | omega | ((try simp only [List.length_append, List.length_cons, List.length_nil, List.length_replicate, List.length_map, List.length_take, List.length_drop, pref_len, ruled_len]); omega)) | (have q4 := text_small (l := l) (by assumption); omega) | (have q1 := check_len (l := l) (by assumption); have q2 := ok_at (l := l) (k := k) (by assumption) (by omega); have q3 := layS_len (List.getD l k ([], 0)).2; (try simp only [List.length_append, List.length_cons, List.length_nil, List.length_replicate, List.length_map, List.length_take, List.length_drop, pref_len, ruled_len]); omega)) (by first | omega | (have q1 := check_len (l := l) (by assumption); first | omega | ((try simp only [List.length_append, List.length_cons, List.length_nil, List.length_replicate, List.length_map, List.length_take, List.length_drop, pref_len, ruled_len]); omega)) | (have q4 := text_small (l := l) (by assumption); omega) | (have q1 := check_len (l := l) (by assumption); have q2 := ok_at (l := l) (k := k) (by assumption) (by omega); have q3 := layS_len (List.getD l k ([], 0)).2; (try simp only [List.length_append, List.length_cons, List.length_nil, List.length_replicate, List.length_map, List.length_take, List.length_drop, pref_len, ruled_len]); omega)))) ?_
   refine AMx.ent_inv (s' := AS.lst 36 [(5, vo 15), (16, vc (slP l)), (17, vc (i6 (List.length l : Int))), (18, vc (i6 ((k : Int) + 1)))] [(15, AObj.grow 9 1 Bytes [] AL.Fnv.rowS (List.set ((List.take k l).map pieceS ++ List.replicate (l.length - k) []) k ((((List.getD l k ([], 0)).1) ++ [58]) ++ (layS ((List.getD l k ([], 0)).2)))))]) (ent_proj [5, 16, 17, 18] [15]) ?_
   refine AMx.inv ⟨_, ?_, k + 1, ?_, rfl, ?_⟩
   rotate_left
   · omega
   · rw [← piece_step l k (by omega)]; rfl
   · omega
  ·
   refine AMx.exit ?_
   refine AMx.code_exit ?_
   refine AMx.inv_exit ?_
   refine AMx.blk_exit ?_
   rw [show (List.take k l).map pieceS ++ List.replicate (l.length - k) [] = l.map pieceS from piece_end l k (by omega)]
   refine gS [(1, CE.call [15] [] (vc (st (AL.Sep.joinC 44 (l.map pieceS)))) [])] [Spec Tryz.prog 88 [tc (AL.Fnv.slS (l.map pieceS)), tc (st [44])] (ofH []) (vc (st (AL.Sep.joinC 44 (l.map pieceS)))) (ofH [])] 36 [(2, vc (st (AL.Sep.joinC 44 (l.map pieceS)))), (3, vc (i6 0))] [] (AL.Sep.Join_c 44 (l.map pieceS) (by first | omega | (have q1 := check_len (l := l) (by assumption); first | omega | ((try simp only [List.length_append, List.length_cons, List.length_nil, List.length_replicate, List.length_map, List.length_take, List.length_drop, pref_len, ruled_len]); omega)) | (have q4 := text_small (l := l) (by assumption); omega) | (have q1 := check_len (l := l) (by assumption); have q2 := ok_at (l := l) (k := k) (by assumption) (by omega); have q3 := layS_len (List.getD l k ([], 0)).2; (try simp only [List.length_append, List.length_cons, List.length_nil, List.length_replicate, List.length_map, List.length_take, List.length_drop, pref_len, ruled_len]); omega))) ?_
   exact gT (AV.tup [tc (st (AL.Sep.joinC 44 (l.map pieceS))), tc (i6 0)]) (by rw [show textP l = (AL.Sep.joinC 44 (l.map pieceS), 0) from by first | rw [text_no (by assumption)] | (rw [text_ok (by assumption)]; rfl)])
end AL.Policy
namespace AL.Policy
open Go Go.Proofs AL AL.Rune
set_option linter.unusedVariables false
set_option linter.unusedSimpArgs false
theorem f28_body : Tryz.f28.body = some (.seq (.region 0 (rg Tryz.f28 0) false) (.seq (.seq (.region 1 (rg Tryz.f28 1) false) (.cond (.tmp 16) (.seq (.region 2 (rg Tryz.f28 2) false) (.ret)) (.skip))) (.seq (.seq (.region 3 (rg Tryz.f28 3) false) (.block 0 (.loop (.seq (.region 4 (rg Tryz.f28 4) false) (.seq (.cond (.tmp 21) (.skip) (.exit 0)) (.seq (.block 1 (.seq (.region 5 (rg Tryz.f28 5) false) (.seq (.region 6 (rg Tryz.f28 6) false) (.block 2 (.loop (.seq (.region 7 (rg Tryz.f28 7) false) (.seq (.cond (.tmp 26) (.skip) (.exit 2)) (.seq (.block 3 (.seq (.region 8 (rg Tryz.f28 8) false) (.seq (.region 9 (rg Tryz.f28 9) true) (.cond (.tmp 37) (.seq (.region 10 (rg Tryz.f28 10) false) (.ret)) (.skip))))) (.region 11 (rg Tryz.f28 11) false))))))))) (.region 12 (rg Tryz.f28 12) false))))))) (.seq (.region 13 (rg Tryz.f28 13) false) (.ret))))) := by kernel_rfl
set_option maxRecDepth 100000 in
set_option maxHeartbeats 8000000 in
theorem Covers_c (a b : List RuleV) : Pure Tryz.prog 28 [tc (slP a), tc (slP b)] (vc (bo (coversS a b))) := by
 refine Pure.of_body Tryz.func28 f28_body (by kernel_rfl) Tryz.ntmps28 (by kernel_rfl) (by kernel_rfl) ?_
 refine gS [] [] 40 [(0, vc (slP a)), (1, vc (slP b))] [] trivial ?_
 refine gQ ?_
 refine gS [(1, CE.call [] [] (vc (i6 (checkP a))) []), (5, CE.call [] [] (vc (i6 (checkP b))) [])] [Spec Tryz.prog 41 [tc (slP a)] (ofH []) (vc (i6 (checkP a))) (ofH []), ((!decide (checkP a = 0)) = false) → allP [(!decide (checkP a = 0)) = false, Spec Tryz.prog 41 [tc (slP b)] (ofH []) (vc (i6 (checkP b))) (ofH [])], ((!decide (checkP a = 0)) = false) → allP [(!decide (checkP a = 0)) = false], (!decide (checkP a = 0)) = false → allP [(!decide (checkP a = 0)) = false]] 40 [(0, vc (slP a)), (1, vc (slP b)), (16, vc (bo ((!decide (checkP a = 0)) || (!decide (checkP b = 0)))))] [] ⟨(Check_c a), (fun hp => by have hq := hp; (try simp only [xT, xF, xA, xO, xB, xP, xN, xM, Bool.not_eq_true, Bool.not_eq_false] at hq); exact ⟨hp, (Check_c b)⟩), (fun hp => hp), (fun hp2 => (by first | exact hp2 | exact ⟨hp, hp2⟩))⟩ ?_
 refine gB (((!decide (checkP a = 0)) || (!decide (checkP b = 0)))) (fun hc1 => ?_) fun hc1 => ?_
 ·
  try simp only [xT, xF, xO, xP, xN, xM] at hc1
  refine gS [] [] 40 [(4, vc (bo false))] [] trivial ?_
  exact gT (vc (bo false)) (by first | (rw [covers_no (by omega)]; done) | (rw [covers_bad (l := a) (.inl rfl) (k := j) (by omega) (by assumption)]; done) | (rw [covers_bad (l := b) (.inr rfl) (k := j) (by omega) (by assumption)]))
 ·
  try simp only [xT, xF, xO, xP, xN, xM] at hc1
  refine AMx.skip ?_
  refine gQ ?_
  refine gS [] [] 40 [(0, vc (slP a)), (1, vc (slP b)), (19, AV.t (TV.agg [.s (slP a), .s (slP b)])), (20, vc (i6 0))] [] trivial ?_
  refine AMx.block ?_
  refine AMx.ent (s' := AS.lst 40 [(0, vc (slP a)), (1, vc (slP b)), (19, AV.t (TV.agg [.s (slP a), .s (slP b)])), (20, vc (i6 0))] []) (ent_proj [0, 1, 19, 20] []) ?_
  refine AMx.loop (fun mm ss => ∃ (k : Nat), (k ≤ 2 ∧ (k = 0 ∨ coverS a b (prefS a) = true) ∧ (k ≤ 1 ∨ coverS a b (prefS b) = true)) ∧ mm = 2 - k ∧ ss = AS.lst 40 [(0, vc (slP a)), (1, vc (slP b)), (19, AV.t (TV.agg [.s (slP a), .s (slP b)])), (20, vc (i6 (k : Int)))] []) ⟨0, ?_, rfl, ?_⟩ ?_
  · exact ⟨by omega, .inl rfl, .inl (by omega)⟩
  · rfl
  rintro mm ss ⟨k, ⟨hI, hA, hB⟩, rfl, rfl⟩
  rcases (show k = 0 ∨ k = 1 ∨ k = 2 by omega) with rfl | rfl | rfl
  ·
   refine gS [] [] 40 [(0, vc (slP a)), (1, vc (slP b)), (19, AV.t (TV.agg [.s (slP a), .s (slP b)])), (20, vc (i6 0)), (21, vc (bo true))] [] trivial ?_
   refine gQ ?_
   refine gBt ?_
   refine AMx.skip ?_
   refine gQ ?_
   refine AMx.block ?_
   refine gS [] [(0 : Int) ≤ 0, (0 : Int) < 2] 40 [(0, vc (slP a)), (1, vc (slP b)), (6, vc (slP a)), (19, AV.t (TV.agg [.s (slP a), .s (slP b)])), (20, vc (i6 0))] [] ⟨(by first | omega | (have q1 := check_len (l := a) (by omega); have q2 := check_len (l := b) (by omega); omega)), (show (0 : Int) < 2 from (by first | omega | (have q1 := check_len (l := a) (by omega); have q2 := check_len (l := b) (by omega); omega)))⟩ ?_
   refine gS [] [] 40 [(0, vc (slP a)), (1, vc (slP b)), (19, AV.t (TV.agg [.s (slP a), .s (slP b)])), (20, vc (i6 0)), (23, vc (slP a)), (24, vc (i6 (List.length a : Int))), (25, vc (i6 0))] [] trivial ?_
   refine AMx.block ?_
   refine AMx.ent (s' := AS.lst 40 [(0, vc (slP a)), (1, vc (slP b)), (19, AV.t (TV.agg [.s (slP a), .s (slP b)])), (20, vc (i6 0)), (23, vc (slP a)), (24, vc (i6 (List.length a : Int))), (25, vc (i6 0))] []) (ent_proj [0, 1, 19, 20, 23, 24, 25] []) ?_
   refine AMx.loop (fun mm ss => ∃ (j : Nat), (j ≤ a.length ∧ coverS a b (prefS (List.take j a)) = true) ∧ mm = a.length - j ∧ ss = AS.lst 40 [(0, vc (slP a)), (1, vc (slP b)), (19, AV.t (TV.agg [.s (slP a), .s (slP b)])), (20, vc (i6 0)), (23, vc (slP a)), (24, vc (i6 (List.length a : Int))), (25, vc (i6 (j : Int)))] []) ⟨0, ?_, rfl, ?_⟩ ?_
   · exact ⟨Nat.zero_le _, rfl⟩
   · rfl
   rintro mm ss ⟨j, ⟨hJ, hC⟩, rfl, rfl⟩
   refine gS [] [] 40 [(0, vc (slP a)), (1, vc (slP b)), (19, AV.t (TV.agg [.s (slP a), .s (slP b)])), (20, vc (i6 0)), (23, vc (slP a)), (24, vc (i6 (List.length a : Int))), (25, vc (i6 (j : Int))), (26, vc (bo (decide ((j : Int) < (List.length a : Int)))))] [] trivial ?_
   refine gQ ?_
   refine gC ((j : Int) < (List.length a : Int)) (fun hc3 => ?_) fun hc3 => ?_
   ·
    refine AMx.skip ?_
    refine gQ ?_
    refine AMx.block ?_
    refine gS [] [(0 : Int) ≤ (j : Int), (j : Int) < List.length a] 40 [(0, vc (slP a)), (1, vc (slP b)), (8, vp 8 0), (19, AV.t (TV.agg [.s (slP a), .s (slP b)])), (20, vc (i6 0)), (23, vc (slP a)), (24, vc (i6 (List.length a : Int))), (25, vc (i6 (j : Int)))] [(8, AObj.row [.s (st ((List.getD a j ([], 0)).1)), .s (u8 ((List.getD a j ([], 0)).2))])] ⟨(by first | omega | (have q1 := check_len (l := a) (by omega); have q2 := check_len (l := b) (by omega); omega)), (show (j : Int) < List.length a from (by first | omega | (have q1 := check_len (l := a) (by omega); have q2 := check_len (l := b) (by omega); omega)))⟩ ?_
    refine gY [(6, CE.call [] [] (vc (u8 (capsP a ((List.getD a j ([], 0)).1)))) []), (7, CE.call [] [] (vc (bo (allowsS b ((List.getD a j ([], 0)).1) (capsP a ((List.getD a j ([], 0)).1))))) [])] [(2, [8]), (5, [8])] [Spec Tryz.prog 56 [tc (slP a), tc (st ((List.getD a j ([], 0)).1))] (ofH []) (vc (u8 (capsP a ((List.getD a j ([], 0)).1)))) (ofH []), Spec Tryz.prog 59 [tc (slP b), tc (st ((List.getD a j ([], 0)).1)), tc (u8 (capsP a ((List.getD a j ([], 0)).1)))] (ofH []) (vc (bo (allowsS b ((List.getD a j ([], 0)).1) (capsP a ((List.getD a j ([], 0)).1))))) (ofH [])] 40 [(0, vc (slP a)), (1, vc (slP b)), (19, AV.t (TV.agg [.s (slP a), .s (slP b)])), (20, vc (i6 0)), (23, vc (slP a)), (24, vc (i6 (List.length a : Int))), (25, vc (i6 (j : Int))), (37, vc (bo (!(allowsS b ((List.getD a j ([], 0)).1) (capsP a ((List.getD a j ([], 0)).1))))))] [] mixed ⟨(Caps_c a ((List.getD a j ([], 0)).1) (by first | omega | (have q1 := check_len (l := a) (by omega); have q2 := check_len (l := b) (by omega); omega))), (Allows_c b ((List.getD a j ([], 0)).1) (capsP a ((List.getD a j ([], 0)).1)) (by first | omega | (have q1 := check_len (l := a) (by omega); have q2 := check_len (l := b) (by omega); omega)))⟩ ?_
    refine gB (!(allowsS b ((List.getD a j ([], 0)).1) (capsP a ((List.getD a j ([], 0)).1)))) (fun hc4 => ?_) fun hc4 => ?_
    ·
     try simp only [xT, xF, xN, xM] at hc4
     refine gS [] [] 40 [(4, vc (bo false))] [] trivial ?_
     exact gT (vc (bo false)) (by first | (rw [covers_no (by omega)]; done) | (rw [covers_bad (l := a) (.inl rfl) (k := j) (by omega) (by assumption)]; done) | (rw [covers_bad (l := b) (.inr rfl) (k := j) (by omega) (by assumption)]))
    ·
     try simp only [xT, xF, xN, xM] at hc4
     refine AMx.skip ?_
     refine AMx.blk ?_
     refine gR [] [InR .i64 ((j : Int) + 1)] 40 [(0, vc (slP a)), (1, vc (slP b)), (19, AV.t (TV.agg [.s (slP a), .s (slP b)])), (20, vc (i6 0)), (23, vc (slP a)), (24, vc (i6 (List.length a : Int))), (25, vc (i6 ((j : Int) + 1)))] [] (show InR .i64 ((j : Int) + 1) from (inR64 (by first | omega | (have q1 := check_len (l := a) (by omega); have q2 := check_len (l := b) (by omega); omega)) (by first | omega | (have q1 := check_len (l := a) (by omega); have q2 := check_len (l := b) (by omega); omega)))) ?_
     refine AMx.ent_inv (s' := AS.lst 40 [(0, vc (slP a)), (1, vc (slP b)), (19, AV.t (TV.agg [.s (slP a), .s (slP b)])), (20, vc (i6 0)), (23, vc (slP a)), (24, vc (i6 (List.length a : Int))), (25, vc (i6 ((j : Int) + 1)))] []) (ent_proj [0, 1, 19, 20, 23, 24, 25] []) ?_
     refine AMx.inv ⟨_, ?_, j + 1, ?_, rfl, ?_⟩
     rotate_left
     · exact ⟨by omega, cover_next (by omega) hC (by assumption)⟩
     · rfl
     · omega
   ·
    refine AMx.exit ?_
    refine AMx.code_exit ?_
    refine AMx.inv_exit ?_
    refine AMx.blk_exit ?_
    refine AMx.blk ?_
    refine gR [] [InR .i64 (0 + 1)] 40 [(0, vc (slP a)), (1, vc (slP b)), (19, AV.t (TV.agg [.s (slP a), .s (slP b)])), (20, vc (i6 (0 + 1)))] [] (show InR .i64 (0 + 1) from (inR64 (by first | omega | (have q1 := check_len (l := a) (by omega); have q2 := check_len (l := b) (by omega); omega)) (by first | omega | (have q1 := check_len (l := a) (by omega); have q2 := check_len (l := b) (by omega); omega)))) ?_
    refine AMx.ent_inv (s' := AS.lst 40 [(0, vc (slP a)), (1, vc (slP b)), (19, AV.t (TV.agg [.s (slP a), .s (slP b)])), (20, vc (i6 (0 + 1)))] []) (ent_proj [0, 1, 19, 20] []) ?_
    refine AMx.inv ⟨_, ?_, 1, ?_, rfl, ?_⟩
    rotate_left
    · exact ⟨by omega, .inr (by rw [List.take_of_length_le (by omega)] at hC; exact hC), .inl (by omega)⟩
    · rfl
    · omega
  ·
   refine gS [] [] 40 [(0, vc (slP a)), (1, vc (slP b)), (19, AV.t (TV.agg [.s (slP a), .s (slP b)])), (20, vc (i6 1)), (21, vc (bo true))] [] trivial ?_
   refine gQ ?_
   refine gBt ?_
   refine AMx.skip ?_
   refine gQ ?_
   refine AMx.block ?_
   refine gS [] [(0 : Int) ≤ 1, (1 : Int) < 2] 40 [(0, vc (slP a)), (1, vc (slP b)), (6, vc (slP b)), (19, AV.t (TV.agg [.s (slP a), .s (slP b)])), (20, vc (i6 1))] [] ⟨(by first | omega | (have q1 := check_len (l := a) (by omega); have q2 := check_len (l := b) (by omega); omega)), (show (1 : Int) < 2 from (by first | omega | (have q1 := check_len (l := a) (by omega); have q2 := check_len (l := b) (by omega); omega)))⟩ ?_
   refine gS [] [] 40 [(0, vc (slP a)), (1, vc (slP b)), (19, AV.t (TV.agg [.s (slP a), .s (slP b)])), (20, vc (i6 1)), (23, vc (slP b)), (24, vc (i6 (List.length b : Int))), (25, vc (i6 0))] [] trivial ?_
   refine AMx.block ?_
   refine AMx.ent (s' := AS.lst 40 [(0, vc (slP a)), (1, vc (slP b)), (19, AV.t (TV.agg [.s (slP a), .s (slP b)])), (20, vc (i6 1)), (23, vc (slP b)), (24, vc (i6 (List.length b : Int))), (25, vc (i6 0))] []) (ent_proj [0, 1, 19, 20, 23, 24, 25] []) ?_
   refine AMx.loop (fun mm ss => ∃ (j : Nat), (j ≤ b.length ∧ coverS a b (prefS (List.take j b)) = true) ∧ mm = b.length - j ∧ ss = AS.lst 40 [(0, vc (slP a)), (1, vc (slP b)), (19, AV.t (TV.agg [.s (slP a), .s (slP b)])), (20, vc (i6 1)), (23, vc (slP b)), (24, vc (i6 (List.length b : Int))), (25, vc (i6 (j : Int)))] []) ⟨0, ?_, rfl, ?_⟩ ?_
   · exact ⟨Nat.zero_le _, rfl⟩
   · rfl
   rintro mm ss ⟨j, ⟨hJ, hC⟩, rfl, rfl⟩
   refine gS [] [] 40 [(0, vc (slP a)), (1, vc (slP b)), (19, AV.t (TV.agg [.s (slP a), .s (slP b)])), (20, vc (i6 1)), (23, vc (slP b)), (24, vc (i6 (List.length b : Int))), (25, vc (i6 (j : Int))), (26, vc (bo (decide ((j : Int) < (List.length b : Int)))))] [] trivial ?_
   refine gQ ?_
   refine gC ((j : Int) < (List.length b : Int)) (fun hc6 => ?_) fun hc6 => ?_
   ·
    refine AMx.skip ?_
    refine gQ ?_
    refine AMx.block ?_
    refine gS [] [(0 : Int) ≤ (j : Int), (j : Int) < List.length b] 40 [(0, vc (slP a)), (1, vc (slP b)), (8, vp 8 0), (19, AV.t (TV.agg [.s (slP a), .s (slP b)])), (20, vc (i6 1)), (23, vc (slP b)), (24, vc (i6 (List.length b : Int))), (25, vc (i6 (j : Int)))] [(8, AObj.row [.s (st ((List.getD b j ([], 0)).1)), .s (u8 ((List.getD b j ([], 0)).2))])] ⟨(by first | omega | (have q1 := check_len (l := a) (by omega); have q2 := check_len (l := b) (by omega); omega)), (show (j : Int) < List.length b from (by first | omega | (have q1 := check_len (l := a) (by omega); have q2 := check_len (l := b) (by omega); omega)))⟩ ?_
    refine gY [(6, CE.call [] [] (vc (u8 (capsP a ((List.getD b j ([], 0)).1)))) []), (7, CE.call [] [] (vc (bo (allowsS b ((List.getD b j ([], 0)).1) (capsP a ((List.getD b j ([], 0)).1))))) [])] [(2, [8]), (5, [8])] [Spec Tryz.prog 56 [tc (slP a), tc (st ((List.getD b j ([], 0)).1))] (ofH []) (vc (u8 (capsP a ((List.getD b j ([], 0)).1)))) (ofH []), Spec Tryz.prog 59 [tc (slP b), tc (st ((List.getD b j ([], 0)).1)), tc (u8 (capsP a ((List.getD b j ([], 0)).1)))] (ofH []) (vc (bo (allowsS b ((List.getD b j ([], 0)).1) (capsP a ((List.getD b j ([], 0)).1))))) (ofH [])] 40 [(0, vc (slP a)), (1, vc (slP b)), (19, AV.t (TV.agg [.s (slP a), .s (slP b)])), (20, vc (i6 1)), (23, vc (slP b)), (24, vc (i6 (List.length b : Int))), (25, vc (i6 (j : Int))), (37, vc (bo (!(allowsS b ((List.getD b j ([], 0)).1) (capsP a ((List.getD b j ([], 0)).1))))))] [] mixed ⟨(Caps_c a ((List.getD b j ([], 0)).1) (by first | omega | (have q1 := check_len (l := a) (by omega); have q2 := check_len (l := b) (by omega); omega))), (Allows_c b ((List.getD b j ([], 0)).1) (capsP a ((List.getD b j ([], 0)).1)) (by first | omega | (have q1 := check_len (l := a) (by omega); have q2 := check_len (l := b) (by omega); omega)))⟩ ?_
    refine gB (!(allowsS b ((List.getD b j ([], 0)).1) (capsP a ((List.getD b j ([], 0)).1)))) (fun hc7 => ?_) fun hc7 => ?_
    ·
     try simp only [xT, xF, xN, xM] at hc7
     refine gS [] [] 40 [(4, vc (bo false))] [] trivial ?_
     exact gT (vc (bo false)) (by first | (rw [covers_no (by omega)]; done) | (rw [covers_bad (l := a) (.inl rfl) (k := j) (by omega) (by assumption)]; done) | (rw [covers_bad (l := b) (.inr rfl) (k := j) (by omega) (by assumption)]))
    ·
     try simp only [xT, xF, xN, xM] at hc7
     refine AMx.skip ?_
     refine AMx.blk ?_
     refine gR [] [InR .i64 ((j : Int) + 1)] 40 [(0, vc (slP a)), (1, vc (slP b)), (19, AV.t (TV.agg [.s (slP a), .s (slP b)])), (20, vc (i6 1)), (23, vc (slP b)), (24, vc (i6 (List.length b : Int))), (25, vc (i6 ((j : Int) + 1)))] [] (show InR .i64 ((j : Int) + 1) from (inR64 (by first | omega | (have q1 := check_len (l := a) (by omega); have q2 := check_len (l := b) (by omega); omega)) (by first | omega | (have q1 := check_len (l := a) (by omega); have q2 := check_len (l := b) (by omega); omega)))) ?_
     refine AMx.ent_inv (s' := AS.lst 40 [(0, vc (slP a)), (1, vc (slP b)), (19, AV.t (TV.agg [.s (slP a), .s (slP b)])), (20, vc (i6 1)), (23, vc (slP b)), (24, vc (i6 (List.length b : Int))), (25, vc (i6 ((j : Int) + 1)))] []) (ent_proj [0, 1, 19, 20, 23, 24, 25] []) ?_
     refine AMx.inv ⟨_, ?_, j + 1, ?_, rfl, ?_⟩
     rotate_left
     · exact ⟨by omega, cover_next (by omega) hC (by assumption)⟩
     · rfl
     · omega
   ·
    refine AMx.exit ?_
    refine AMx.code_exit ?_
    refine AMx.inv_exit ?_
    refine AMx.blk_exit ?_
    refine AMx.blk ?_
    refine gR [] [InR .i64 (1 + 1)] 40 [(0, vc (slP a)), (1, vc (slP b)), (19, AV.t (TV.agg [.s (slP a), .s (slP b)])), (20, vc (i6 (1 + 1)))] [] (show InR .i64 (1 + 1) from (inR64 (by first | omega | (have q1 := check_len (l := a) (by omega); have q2 := check_len (l := b) (by omega); omega)) (by first | omega | (have q1 := check_len (l := a) (by omega); have q2 := check_len (l := b) (by omega); omega)))) ?_
    refine AMx.ent_inv (s' := AS.lst 40 [(0, vc (slP a)), (1, vc (slP b)), (19, AV.t (TV.agg [.s (slP a), .s (slP b)])), (20, vc (i6 (1 + 1)))] []) (ent_proj [0, 1, 19, 20] []) ?_
    refine AMx.inv ⟨_, ?_, 2, ?_, rfl, ?_⟩
    rotate_left
    · exact ⟨by omega, .inr (hA.resolve_left (by omega)), .inr (by rw [List.take_of_length_le (by omega)] at hC; exact hC)⟩
    · rfl
    · omega
  ·
   refine gS [] [] 40 [(0, vc (slP a)), (1, vc (slP b)), (19, AV.t (TV.agg [.s (slP a), .s (slP b)])), (20, vc (i6 2)), (21, vc (bo false))] [] trivial ?_
   refine gQ ?_
   refine gBf ?_
   refine AMx.exit ?_
   refine AMx.code_exit ?_
   refine AMx.inv_exit ?_
   refine AMx.blk_exit ?_
   refine gS [] [] 40 [(4, vc (bo true))] [] trivial ?_
   exact gT (vc (bo true)) (by rw [covers_yes (by omega) (by omega) (hA.resolve_left (by omega)) (hB.resolve_left (by omega))])
end AL.Policy
namespace AL.Policy
open Go Go.Proofs AL AL.Rune
set_option linter.unusedVariables false
set_option linter.unusedSimpArgs false
theorem f42_body : Tryz.f42.body = some (.seq (.region 0 (rg Tryz.f42 0) false) (.seq (.region 1 (rg Tryz.f42 1) false) (.seq (.seq (.region 2 (rg Tryz.f42 2) false) (.block 0 (.loop (.seq (.seq (.region 3 (rg Tryz.f42 3) false) (.cond (.tmp 8) (.skip) (.exit 0))) (.seq (.block 1 (.region 5 (rg Tryz.f42 5) false)) (.region 4 (rg Tryz.f42 4) false)))))) (.seq (.region 6 (rg Tryz.f42 6) false) (.ret))))) := by kernel_rfl
set_option maxRecDepth 100000 in
set_option maxHeartbeats 8000000 in
theorem Own_c (l : List RuleV) (hl : l.length ≤ 100000) : Pure Tryz.prog 42 [tc (slP l)] (vc (slP l)) := by
 refine Pure.of_body Tryz.func42 f42_body (by kernel_rfl) Tryz.ntmps42 (by kernel_rfl) (by kernel_rfl) ?_
 refine gS [] [] 19 [(0, vc (slP l))] [] trivial ?_
 refine gS [] [] 19 [(0, vc (slP l)), (3, vc (SC.nilsl))] [] trivial ?_
 refine gQ ?_
 refine gS [] [] 19 [(0, vc (slP l)), (3, vc (SC.nilsl)), (4, vc (i6 0))] [] trivial ?_
 refine AMx.block ?_
 refine AMx.ent (s' := AS.lst 19 [(0, vc (slP l)), (3, vo 3), (4, vc (i6 0))] [(3, AObj.grow 80 2 RuleV ([], 0) rowP [])]) (ent_adopt (t := 3) (d := 3) 80 2 RuleV ([], 0) rowP (by kernel_rfl) (by kernel_rfl) (by kernel_rfl) (by kernel_rfl)) ?_
 refine AMx.ent (s' := AS.lst 19 [(0, vc (slP l)), (3, vo 3), (4, vc (i6 0))] [(3, AObj.grow 80 2 RuleV ([], 0) rowP [])]) (ent_proj [0, 3, 4] [3]) ?_
 refine AMx.loop (fun mm ss => ∃ (i : Nat), (i ≤ l.length) ∧ mm = l.length - i ∧ ss = AS.lst 19 [(0, vc (slP l)), (3, vo 3), (4, vc (i6 (i : Int)))] [(3, AObj.grow 80 2 RuleV ([], 0) rowP (List.take i l))]) ⟨0, ?_, rfl, ?_⟩ ?_
 · omega
 · rfl
 rintro mm ss ⟨i, hI, rfl, rfl⟩
 refine gQ ?_
 refine gS [] [] 19 [(0, vc (slP l)), (3, vo 3), (4, vc (i6 (i : Int))), (8, vc (bo (decide ((i : Int) < (List.length l : Int)))))] [(3, AObj.grow 80 2 RuleV ([], 0) rowP (List.take i l))] trivial ?_
 refine gC ((i : Int) < (List.length l : Int)) (fun hc1 => ?_) fun hc1 => ?_
 ·
  refine AMx.skip ?_
  refine gQ ?_
  refine AMx.block ?_
  refine gR [(5, CE.obj (AObj.grow 80 2 RuleV ([], 0) rowP [(List.getD l i ([], 0))])), (6, CE.obj (AObj.grow 80 2 RuleV ([], 0) rowP ((List.take i l) ++ [(List.getD l i ([], 0))])))] [(0 : Int) ≤ (i : Int), (i : Int) < List.length l, flat 2 rowP [(List.getD l i ([], 0))] = [.s (st ((List.getD l i ([], 0)).1)), .s (u8 ((List.getD l i ([], 0)).2))], List.length ([(List.getD l i ([], 0))] : List RuleV) = 1, AppC (flat 2 rowP [(List.getD l i ([], 0))]) (List.length ([(List.getD l i ([], 0))] : List RuleV)) 24 (AObj.grow 80 2 RuleV ([], 0) rowP (List.take i l)) (AObj.grow 80 2 RuleV ([], 0) rowP ((List.take i l) ++ [(List.getD l i ([], 0))]))] 19 [(0, vc (slP l)), (3, vo 17), (4, vc (i6 (i : Int)))] [(17, AObj.grow 80 2 RuleV ([], 0) rowP ((List.take i l) ++ [(List.getD l i ([], 0))]))] ⟨(by omega), (by omega), rfl, rfl, (⟨_, rfl, rfl, rfl, by simp only [List.length_take, List.length_cons, List.length_nil]; omega, by simp only [maxLen, List.length_take, List.length_cons, List.length_nil]; omega⟩)⟩ ?_
  refine AMx.blk ?_
  refine gR [] [InR .i64 ((i : Int) + 1)] 19 [(0, vc (slP l)), (3, vo 17), (4, vc (i6 ((i : Int) + 1)))] [(17, AObj.grow 80 2 RuleV ([], 0) rowP ((List.take i l) ++ [(List.getD l i ([], 0))]))] (show InR .i64 ((i : Int) + 1) from (inR64 (by omega) (by omega))) ?_
  refine AMx.ent_inv (s' := AS.lst 19 [(0, vc (slP l)), (3, vo 3), (4, vc (i6 ((i : Int) + 1)))] [(3, AObj.grow 80 2 RuleV ([], 0) rowP ((List.take i l) ++ [(List.getD l i ([], 0))]))]) (ent_swap 17 3 (by kernel_rfl) (by kernel_rfl)) ?_
  refine AMx.ent_inv (s' := AS.lst 19 [(0, vc (slP l)), (3, vo 3), (4, vc (i6 ((i : Int) + 1)))] [(3, AObj.grow 80 2 RuleV ([], 0) rowP ((List.take i l) ++ [(List.getD l i ([], 0))]))]) (ent_proj [0, 3, 4] [3]) ?_
  refine AMx.inv ⟨_, ?_, i + 1, ?_, rfl, ?_⟩
  rotate_left
  · omega
  · rw [Lib.take_succ ([], 0) l i (by omega)]; rfl
  · omega
 ·
  refine AMx.exit ?_
  refine AMx.code_exit ?_
  refine AMx.inv_exit ?_
  refine AMx.blk_exit ?_
  refine gS [] [] 19 [(2, vo 3)] [(3, AObj.grow 80 2 RuleV ([], 0) rowP (List.take i l))] trivial ?_
  refine AMx.ent (s' := AS.lst 19 [(2, vc (slP (List.take i l)))] []) (ent_freeze (id := 3) (T := 80) (by kernel_rfl)) ?_
  exact gT (vc (slP (List.take i l))) (by rw [List.take_of_length_le (by omega)])
theorem f38_body : Tryz.f38.body = some (.seq (.region 0 (rg Tryz.f38 0) false) (.seq (.seq (.region 1 (rg Tryz.f38 1) false) (.cond (.tmp 6) (.seq (.region 2 (rg Tryz.f38 2) false) (.ret)) (.skip))) (.seq (.seq (.region 3 (rg Tryz.f38 3) false) (.block 0 (.loop (.seq (.seq (.region 4 (rg Tryz.f38 4) false) (.cond (.tmp 10) (.skip) (.exit 0))) (.seq (.block 1 (.seq (.region 6 (rg Tryz.f38 6) false) (.cond (.tmp 19) (.seq (.region 7 (rg Tryz.f38 7) false) (.ret)) (.skip)))) (.region 5 (rg Tryz.f38 5) false)))))) (.seq (.region 8 (rg Tryz.f38 8) false) (.ret))))) := by kernel_rfl
set_option maxRecDepth 100000 in
set_option maxHeartbeats 8000000 in
theorem Over_c (l : List RuleV) : Pure Tryz.prog 38 [tc (slP l)] (vc (i6 (overP l))) := by
 refine Pure.of_body Tryz.func38 f38_body (by kernel_rfl) Tryz.ntmps38 (by kernel_rfl) (by kernel_rfl) ?_
 refine AMx.sl 0 (l := l) rfl (fun hl => ?_)
 simp only [maxLen] at hl
 refine gS [] [] 20 [(0, vc (slP l))] [] trivial ?_
 refine gQ ?_
 refine gS [] [] 20 [(0, vc (slP l)), (6, vc (bo (decide (8 < (List.length l : Int)))))] [] trivial ?_
 refine gC (8 < (List.length l : Int)) (fun hc1 => ?_) fun hc1 => ?_
 ·
  refine gS [] [] 20 [(2, vc (i6 1))] [] trivial ?_
  exact gT (vc (i6 1)) (by first | rw [over_1 (by omega)] | rw [over_2 (k := i) (by omega) (by omega)])
 ·
  refine AMx.skip ?_
  refine gQ ?_
  refine gS [] [] 20 [(0, vc (slP l)), (3, vc (i6 0))] [] trivial ?_
  refine AMx.block ?_
  refine AMx.ent (s' := AS.lst 20 [(0, vc (slP l)), (3, vc (i6 0))] []) (ent_proj [0, 3] []) ?_
  refine AMx.loop (fun mm ss => ∃ (i : Nat), (i ≤ l.length ∧ ShortTo l i) ∧ mm = l.length - i ∧ ss = AS.lst 20 [(0, vc (slP l)), (3, vc (i6 (i : Int)))] []) ⟨0, ?_, rfl, ?_⟩ ?_
  · exact ⟨Nat.zero_le _, fun j hj => by omega⟩
  · rfl
  rintro mm ss ⟨i, ⟨hI, hN⟩, rfl, rfl⟩
  refine gQ ?_
  refine gS [] [] 20 [(0, vc (slP l)), (3, vc (i6 (i : Int))), (10, vc (bo (decide ((i : Int) < (List.length l : Int)))))] [] trivial ?_
  refine gC ((i : Int) < (List.length l : Int)) (fun hc2 => ?_) fun hc2 => ?_
  ·
   refine AMx.skip ?_
   refine gQ ?_
   refine AMx.block ?_
   refine gS [] [(0 : Int) ≤ (i : Int), (i : Int) < List.length l] 20 [(0, vc (slP l)), (3, vc (i6 (i : Int))), (19, vc (bo (decide (100 < (List.length ((List.getD l i ([], 0)).1 : List UInt8) : Int)))))] [] ⟨(by omega), (show (i : Int) < List.length l from (by omega))⟩ ?_
   refine gC (100 < (List.length ((List.getD l i ([], 0)).1 : List UInt8) : Int)) (fun hc3 => ?_) fun hc3 => ?_
   ·
    refine gS [] [] 20 [(2, vc (i6 1))] [] trivial ?_
    exact gT (vc (i6 1)) (by first | rw [over_1 (by omega)] | rw [over_2 (k := i) (by omega) (by omega)])
   ·
    refine AMx.skip ?_
    refine AMx.blk ?_
    refine gR [] [InR .i64 ((i : Int) + 1)] 20 [(0, vc (slP l)), (3, vc (i6 ((i : Int) + 1)))] [] (show InR .i64 ((i : Int) + 1) from (inR64 (by omega) (by omega))) ?_
    refine AMx.ent_inv (s' := AS.lst 20 [(0, vc (slP l)), (3, vc (i6 ((i : Int) + 1)))] []) (ent_proj [0, 3] []) ?_
    refine AMx.inv ⟨_, ?_, i + 1, ?_, rfl, ?_⟩
    rotate_left
    · exact ⟨by omega, short_step hN (by omega)⟩
    · rfl
    · omega
  ·
   refine AMx.exit ?_
   refine AMx.code_exit ?_
   refine AMx.inv_exit ?_
   refine AMx.blk_exit ?_
   refine gS [] [] 20 [(2, vc (i6 0))] [] trivial ?_
   exact gT (vc (i6 0)) (by rw [over_0 (by omega) (by omega) hN])
end AL.Policy
namespace AL.Token
open Go Go.Proofs AL
open AL.Policy (RuleV rowP slP checkP coversS capsP)
set_option linter.unusedVariables false
set_option linter.unusedSimpArgs false
theorem f40_body : Tryz.f40.body = some (.seq (.region 0 (rg Tryz.f40 0) false) (.seq (.region 1 (rg Tryz.f40 1) false) (.ret))) := by kernel_rfl
set_option maxRecDepth 100000 in
set_option maxHeartbeats 8000000 in
theorem named_c (s : Bytes) : Pure Tryz.prog 40 [tc (st s)] (vc (bo (Rows.namedS s))) := by
 refine Pure.of_body Tryz.func40 f40_body (by kernel_rfl) Tryz.ntmps40 (by kernel_rfl) (by kernel_rfl) ?_
 refine gS [] [] 7 [(0, vc (st s))] [] trivial ?_
 refine gS [(2, CE.call [] [] (vc (i6 (Rows.checkK ((3, s, 0) : AL.Rows.KeyV)))) [])] [Spec Tryz.prog 72 [TV.agg [.s (u8 3), .s (st s), .s (i6 0)]] (ofH []) (vc (i6 (Rows.checkK ((3, s, 0) : AL.Rows.KeyV)))) (ofH [])] 7 [(2, vc (bo (decide (Rows.checkK ((3, s, 0) : AL.Rows.KeyV) = 0))))] [] (Rows.Check_c ((3, s, 0) : AL.Rows.KeyV)) ?_
 exact gT (vc (bo (decide (Rows.checkK ((3, s, 0) : AL.Rows.KeyV) = 0)))) (by rw [named_key])
theorem f13_body : Tryz.f13.body = some (.seq (.region 0 (rg Tryz.f13 0) false) (.seq (.seq (.region 1 (rg Tryz.f13 1) false) (.cond (.tmp 7) (.seq (.region 2 (rg Tryz.f13 2) false) (.ret)) (.skip))) (.seq (.seq (.region 3 (rg Tryz.f13 3) false) (.seq (.region 4 (rg Tryz.f13 4) false) (.cond (.tmp 12) (.seq (.region 5 (rg Tryz.f13 5) false) (.ret)) (.skip)))) (.seq (.block 0 (.seq (.region 6 (rg Tryz.f13 6) false) (.cond (.tmp 14) (.seq (.region 7 (rg Tryz.f13 7) false) (.ret)) (.seq (.region 8 (rg Tryz.f13 8) false) (.cond (.tmp 23) (.seq (.region 9 (rg Tryz.f13 9) false) (.ret)) (.skip)))))) (.seq (.region 10 (rg Tryz.f13 10) false) (.ret)))))) := by kernel_rfl
set_option maxRecDepth 100000 in
set_option maxHeartbeats 8000000 in
theorem Check_c (t : TokV) : Pure Tryz.prog 13 [TV.agg [.s (st t.1), .s (st t.2.1), .s (AL.Policy.slP t.2.2)]] (vc (i6 (checkT t))) := by
 refine Pure.of_body Tryz.func13 f13_body (by kernel_rfl) Tryz.ntmps13 (by kernel_rfl) (by kernel_rfl) ?_
 refine gS [] [] 34 [(1, vp 1 0)] [(1, AObj.row [.s (st t.1), .s (st t.2.1), .s (AL.Policy.slP t.2.2)])] trivial ?_
 refine gQ ?_
 refine gS [(2, CE.call [] [] (vc (bo (Rows.namedS t.1))) [])] [Spec Tryz.prog 40 [tc (st t.1)] (ofH []) (vc (bo (Rows.namedS t.1))) (ofH [])] 34 [(1, vp 1 0), (7, vc (bo (!(Rows.namedS t.1))))] [(1, AObj.row [.s (st t.1), .s (st t.2.1), .s (AL.Policy.slP t.2.2)])] (named_c t.1) ?_
 refine gB (!(Rows.namedS t.1)) (fun hc1 => ?_) fun hc1 => ?_
 ·
  try simp only [xT, xF, xN, xM] at hc1
  refine gS [] [] 34 [(2, vc (i6 2))] [] trivial ?_
  exact gT (vc (i6 2)) (by rw [show checkT t = 2 from by unfold checkT; grind])
 ·
  try simp only [xT, xF, xN, xM] at hc1
  refine AMx.skip ?_
  refine gQ ?_
  refine gS [(2, CE.call [] [] (vc (i6 (Policy.checkP t.2.2))) [])] [Spec Tryz.prog 41 [tc (AL.Policy.slP t.2.2)] (ofH []) (vc (i6 (Policy.checkP t.2.2))) (ofH [])] 34 [(1, vp 1 0), (3, vc (i6 (Policy.checkP t.2.2)))] [(1, AObj.row [.s (st t.1), .s (st t.2.1), .s (AL.Policy.slP t.2.2)])] (Policy.Check_c t.2.2) ?_
  refine gS [] [] 34 [(1, vp 1 0), (3, vc (i6 (Policy.checkP t.2.2))), (12, vc (bo (!decide (Policy.checkP t.2.2 = 0))))] [(1, AObj.row [.s (st t.1), .s (st t.2.1), .s (AL.Policy.slP t.2.2)])] trivial ?_
  refine gN (Policy.checkP t.2.2 = 0) (fun hc2 => ?_) fun hc2 => ?_
  ·
   refine gS [] [] 34 [(2, vc (i6 (Policy.checkP t.2.2)))] [] trivial ?_
   exact gT (vc (i6 (Policy.checkP t.2.2))) (by rw [show checkT t = Policy.checkP t.2.2 from by unfold checkT; grind])
  ·
   refine AMx.skip ?_
   refine gQ ?_
   refine AMx.block ?_
   refine gS [] [((decide (t.2.1 = [])) = true) → allP [(decide (t.2.1 = [])) = true], ((decide (t.2.1 = [])) = true) → allP [(decide (t.2.1 = [])) = true], (decide (t.2.1 = [])) = true → allP [(decide (t.2.1 = [])) = true]] 34 [(1, vp 1 0), (14, vc (bo ((decide (t.2.1 = [])) && (decide (t.1 = [114, 111, 111, 116])))))] [(1, AObj.row [.s (st t.1), .s (st t.2.1), .s (AL.Policy.slP t.2.2)])] ⟨(fun hp => hp), (fun hp => hp), (fun hp2 => (by first | exact hp2 | exact ⟨hp, hp2⟩))⟩ ?_
   refine gB (((decide (t.2.1 = [])) && (decide (t.1 = [114, 111, 111, 116])))) (fun hc3 => ?_) fun hc3 => ?_
   ·
    try simp only [xT, xF, xA, xB] at hc3
    refine gS [] [] 34 [(2, vc (i6 0))] [] trivial ?_
    exact gT (vc (i6 0)) (by rw [show checkT t = 0 from by unfold checkT; grind])
   ·
    try simp only [xT, xF, xA, xB] at hc3
    refine gS [(2, CE.call [] [] (vc (bo (Rows.namedS t.2.1))) [])] [Spec Tryz.prog 40 [tc (st t.2.1)] (ofH []) (vc (bo (Rows.namedS t.2.1))) (ofH []), ((Rows.namedS t.2.1) = true) → allP [(Rows.namedS t.2.1) = true], ((Rows.namedS t.2.1) = true) → allP [(Rows.namedS t.2.1) = true], ((Rows.namedS t.2.1) = true) → allP [(Rows.namedS t.2.1) = true, (Rows.namedS t.2.1) = true], (Rows.namedS t.2.1) = true → allP [(Rows.namedS t.2.1) = true]] 34 [(23, vc (bo ((Rows.namedS t.2.1) && (!decide (t.2.1 = t.1)))))] [] ⟨(named_c t.2.1), (fun hp => hp), (fun hp => hp), (fun hp => ⟨hp, hp⟩), (fun hp2 => (by first | exact hp2 | exact ⟨hp, hp2⟩))⟩ ?_
    refine gB (((Rows.namedS t.2.1) && (!decide (t.2.1 = t.1)))) (fun hc4 => ?_) fun hc4 => ?_
    ·
     try simp only [xT, xF, xA, xB, xN, xM] at hc4
     refine gS [] [] 34 [(2, vc (i6 0))] [] trivial ?_
     exact gT (vc (i6 0)) (by rw [show checkT t = 0 from by unfold checkT; grind])
    ·
     try simp only [xT, xF, xA, xB, xN, xM] at hc4
     refine AMx.skip ?_
     refine AMx.blk ?_
     refine gS [] [] 34 [(2, vc (i6 2))] [] trivial ?_
     exact gT (vc (i6 2)) (by rw [show checkT t = 2 from by unfold checkT; grind])
theorem f39_body : Tryz.f39.body = some (.seq (.region 0 (rg Tryz.f39 0) false) (.seq (.region 1 (rg Tryz.f39 1) false) (.ret))) := by kernel_rfl
set_option maxRecDepth 100000 in
set_option maxHeartbeats 8000000 in
theorem first_c  : Pure Tryz.prog 39 [] (AV.t (TV.agg [.s (st firstT.1), .s (st firstT.2.1), .s (AL.Policy.slP firstT.2.2)])) := by
 refine Pure.of_body Tryz.func39 f39_body (by kernel_rfl) Tryz.ntmps39 (by kernel_rfl) (by kernel_rfl) ?_
 refine gS [] [] 4 [(0, vp 0 0)] [(0, AObj.row [.s (st []), .s (st []), .s (SC.nilsl)])] trivial ?_
 refine gS [(1, CE.shr (some (AObj.grow 80 2 AL.Policy.RuleV ([], 0) AL.Policy.rowP [(([], 63) : AL.Policy.RuleV)])))] [flat 2 AL.Policy.rowP [(([], 63) : AL.Policy.RuleV)] = [.s (st []), .s (u8 63)], List.length ([(([], 63) : AL.Policy.RuleV)] : List AL.Policy.RuleV) = 1] 4 [(0, vp 0 0)] [(0, AObj.row [.s (st [114, 111, 111, 116]), .s (st []), .s (AL.Policy.slP [(([], 63) : AL.Policy.RuleV)])])] ⟨rfl, rfl⟩ ?_
 exact gT (AV.t (TV.agg [.s (st [114, 111, 111, 116]), .s (st []), .s (AL.Policy.slP [(([], 63) : AL.Policy.RuleV)])])) rfl
theorem f11_body : Tryz.f11.body = some (.seq (.region 0 (rg Tryz.f11 0) false) (.seq (.region 1 (rg Tryz.f11 1) false) (.ret))) := by kernel_rfl
set_option maxRecDepth 100000 in
set_option maxHeartbeats 8000000 in
theorem New_c  : Pure Tryz.prog 11 [] (AV.t (TV.agg [.s (slT [firstT])])) := by
 refine Pure.of_body Tryz.func11 f11_body (by kernel_rfl) Tryz.ntmps11 (by kernel_rfl) (by kernel_rfl) ?_
 refine gS [] [] 4 [(0, vp 0 0)] [(0, AObj.row [.s (SC.nilsl)])] trivial ?_
 refine gS [(0, CE.call [] [] (AV.t (TV.agg [.s (st firstT.1), .s (st firstT.2.1), .s (AL.Policy.slP firstT.2.2)])) []), (1, CE.shr (some (AObj.grow 41 3 TokV tokd rowT [firstT])))] [Spec Tryz.prog 39 [] (ofH []) (AV.t (TV.agg [.s (st firstT.1), .s (st firstT.2.1), .s (AL.Policy.slP firstT.2.2)])) (ofH []), flat 3 rowT [firstT] = [.s (st firstT.1), .s (st firstT.2.1), .s (AL.Policy.slP firstT.2.2)], List.length ([firstT] : List TokV) = 1] 4 [(0, vp 0 0)] [(0, AObj.row [.s (slT [firstT])])] ⟨(first_c), rfl, rfl⟩ ?_
 exact gT (AV.t (TV.agg [.s (slT [firstT])])) rfl
theorem f86_body : Tryz.f86.body = some (.seq (.region 0 (rg Tryz.f86 0) false) (.seq (.seq (.region 1 (rg Tryz.f86 1) false) (.cond (.tmp 4) (.seq (.region 2 (rg Tryz.f86 2) false) (.ret)) (.skip))) (.seq (.region 3 (rg Tryz.f86 3) false) (.ret)))) := by kernel_rfl
set_option maxRecDepth 100000 in
set_option maxHeartbeats 8000000 in
theorem CloneP_c (l : List AL.Policy.RuleV) (hb : l.length ≤ 100000) : ∀ d, Spec Tryz.prog 86 [tc (AL.Policy.slP l)] H0 (vo d) (ofH [(d, AObj.grow 80 2 AL.Policy.RuleV ([], 0) AL.Policy.rowP l)]) := by
 refine Own.of_body Tryz.func86 f86_body (by kernel_rfl) Tryz.ntmps86 (by kernel_rfl) rfl ?_
 refine AMx.isnil 0 rfl (fun hnil0 => ?_) ?_
 ·
  refine gS [] [] 8 [(0, vc (SC.nilsl))] [] trivial ?_
  refine gQ ?_
  refine gS [] [] 8 [(0, vc (SC.nilsl)), (4, vc (bo true))] [] trivial ?_
  refine gBt ?_
  refine gS [] [] 8 [(2, vc (SC.nilsl))] [] trivial ?_
  refine AMx.ent (s' := AS.lst 8 [(2, vo 2)] [(2, AObj.grow 80 2 AL.Policy.RuleV ([], 0) AL.Policy.rowP [])]) (ent_adopt (t := 2) (d := 2) 80 2 AL.Policy.RuleV ([], 0) AL.Policy.rowP (by kernel_rfl) (by kernel_rfl) (by kernel_rfl) (by kernel_rfl)) ?_
  refine AMx.ret ?_
  exact ⟨.inl rfl, 2, AObj.grow 80 2 AL.Policy.RuleV ([], 0) AL.Policy.rowP [], by kernel_rfl, by kernel_rfl, by first | rfl | (rw [hnil0])⟩
 ·
  refine gS [] [] 8 [(0, vc (SC.nn (AL.Policy.slP l)))] [] trivial ?_
  refine gQ ?_
  refine gS [] [] 8 [(0, vc (SC.nn (AL.Policy.slP l))), (4, vc (bo false))] [] trivial ?_
  refine gBf ?_
  refine AMx.skip ?_
  refine gQ ?_
  refine AMx.ent (ent_weak 0 (v' := vc (AL.Policy.slP l)) (by kernel_rfl) (AV.le_t (TV.le_c AC.le_nn))) ?_
  refine gR [(0, CE.obj (AObj.grow 80 2 AL.Policy.RuleV ([], 0) AL.Policy.rowP [])), (2, CE.obj (AObj.grow 80 2 AL.Policy.RuleV ([], 0) AL.Policy.rowP ([] ++ l)))] [flat 2 AL.Policy.rowP [] = [], List.length ([] : List AL.Policy.RuleV) = 0, AppC (flat 2 AL.Policy.rowP l) (List.length l) 24 (AObj.grow 80 2 AL.Policy.RuleV ([], 0) AL.Policy.rowP []) (AObj.grow 80 2 AL.Policy.RuleV ([], 0) AL.Policy.rowP ([] ++ l))] 8 [(2, vo 7)] [(7, AObj.grow 80 2 AL.Policy.RuleV ([], 0) AL.Policy.rowP ([] ++ l))] ⟨rfl, rfl, (⟨_, rfl, rfl, rfl, by simp only [List.length_nil]; omega, by simp only [maxLen, List.length_nil]; omega⟩)⟩ ?_
  refine AMx.ret ?_
  exact ⟨.inl rfl, 7, AObj.grow 80 2 AL.Policy.RuleV ([], 0) AL.Policy.rowP ([] ++ l), by kernel_rfl, by kernel_rfl, by first | rfl | (rw [hnil0])⟩
theorem f58_body : Tryz.f58.body = some (.seq (.region 0 (rg Tryz.f58 0) false) (.seq (.region 1 (rg Tryz.f58 1) false) (.seq (.region 2 (rg Tryz.f58 2) false) (.ret)))) := by kernel_rfl
set_option maxRecDepth 100000 in
set_option maxHeartbeats 8000000 in
theorem copied_c (t : TokV) (hr : t.2.2.length ≤ 100000) : Pure Tryz.prog 58 [TV.agg [.s (st t.1), .s (st t.2.1), .s (AL.Policy.slP t.2.2)]] (AV.t (TV.agg [.s (st t.1), .s (st t.2.1), .s (AL.Policy.slP t.2.2)])) := by
 refine Pure.of_body Tryz.func58 f58_body (by kernel_rfl) Tryz.ntmps58 (by kernel_rfl) (by kernel_rfl) ?_
 refine gS [] [] 8 [(1, vp 1 0), (2, vp 2 0)] [(1, AObj.row [.s (st t.1), .s (st t.2.1), .s (AL.Policy.slP t.2.2)]), (2, AObj.row [.s (st []), .s (st []), .s (SC.nilsl)])] trivial ?_
 refine gS [(2, CE.call [] [] (vo 5) [(5, AObj.grow 80 2 AL.Policy.RuleV ([], 0) AL.Policy.rowP t.2.2)])] [Spec Tryz.prog 86 [tc (AL.Policy.slP t.2.2)] (ofH []) (vo 5) (ofH [(5, AObj.grow 80 2 AL.Policy.RuleV ([], 0) AL.Policy.rowP t.2.2)])] 8 [(1, vp 1 0), (2, vp 2 0)] [(1, AObj.row [.s (st t.1), .s (st t.2.1), .own 5]), (2, AObj.row [.s (st []), .s (st []), .s (SC.nilsl)]), (5, AObj.grow 80 2 AL.Policy.RuleV ([], 0) AL.Policy.rowP t.2.2)] (CloneP_c t.2.2 (by first | omega | (simp only [List.length_drop, List.length_take, List.length_append, List.length_cons, List.length_nil]; omega) | (omega)) 5) ?_
 refine gS [] [] 8 [(2, vp 2 0)] [(2, AObj.row [.s (st t.1), .s (st t.2.1), .own 5]), (5, AObj.grow 80 2 AL.Policy.RuleV ([], 0) AL.Policy.rowP t.2.2)] trivial ?_
 refine AMx.ent (s' := AS.lst 8 [(2, vp 2 0)] [(2, AObj.row [.s (st t.1), .s (st t.2.1), .s (AL.Policy.slP t.2.2)])]) (ent_freeze (id := 5) (T := 80) (by kernel_rfl)) ?_
 exact gT (AV.t (TV.agg [.s (st t.1), .s (st t.2.1), .s (AL.Policy.slP t.2.2)])) rfl
theorem f105_body : Tryz.f105.body = some (.seq (.region 0 (rg Tryz.f105 0) false) (.seq (.region 1 (rg Tryz.f105 1) false) (.ret))) := by kernel_rfl
set_option maxRecDepth 100000 in
set_option maxHeartbeats 8000000 in
theorem isNaN_c (s : Bytes) : Pure Tryz.prog 105 [tc (st s)] (vc (bo false)) := by
 refine Pure.of_body Tryz.func105 f105_body (by kernel_rfl) Tryz.ntmps105 (by kernel_rfl) (by kernel_rfl) ?_
 refine gS [] [] 6 [(0, vc (st s))] [] trivial ?_
 refine gS [] [] 6 [(2, vc (bo (!decide (s = s))))] [] trivial ?_
 exact gT (vc (bo (!decide (s = s)))) (by simp)
theorem f77_body : Tryz.f77.body = some (.seq (.region 0 (rg Tryz.f77 0) false) (.seq (.region 1 (rg Tryz.f77 1) false) (.seq (.region 2 (rg Tryz.f77 2) false) (.seq (.seq (.region 3 (rg Tryz.f77 3) false) (.cond (.tmp 11) (.seq (.seq (.region 4 (rg Tryz.f77 4) false) (.cond (.tmp 12) (.seq (.region 5 (rg Tryz.f77 5) false) (.ret)) (.skip))) (.seq (.region 6 (rg Tryz.f77 6) false) (.ret))) (.skip))) (.seq (.seq (.region 7 (rg Tryz.f77 7) false) (.cond (.tmp 13) (.seq (.region 8 (rg Tryz.f77 8) false) (.ret)) (.skip))) (.seq (.seq (.region 9 (rg Tryz.f77 9) false) (.cond (.tmp 16) (.seq (.region 10 (rg Tryz.f77 10) false) (.ret)) (.skip))) (.seq (.seq (.region 11 (rg Tryz.f77 11) false) (.cond (.tmp 19) (.seq (.region 12 (rg Tryz.f77 12) false) (.ret)) (.skip))) (.seq (.region 13 (rg Tryz.f77 13) false) (.ret))))))))) := by kernel_rfl
set_option maxRecDepth 100000 in
set_option maxHeartbeats 8000000 in
theorem Compare_c (a b : Bytes) : Pure Tryz.prog 77 [tc (st a), tc (st b)] (vc (i6 (cmpS a b))) := by
 refine Pure.of_body Tryz.func77 f77_body (by kernel_rfl) Tryz.ntmps77 (by kernel_rfl) (by kernel_rfl) ?_
 refine gS [] [] 20 [(0, vc (st a)), (1, vc (st b))] [] trivial ?_
 refine gS [(1, CE.call [] [] (vc (bo false)) [])] [Spec Tryz.prog 105 [tc (st a)] (ofH []) (vc (bo false)) (ofH [])] 20 [(0, vc (st a)), (1, vc (st b)), (5, vc (bo false))] [] (isNaN_c a) ?_
 refine gS [(1, CE.call [] [] (vc (bo false)) [])] [Spec Tryz.prog 105 [tc (st b)] (ofH []) (vc (bo false)) (ofH [])] 20 [(0, vc (st a)), (1, vc (st b)), (5, vc (bo false)), (6, vc (bo false))] [] (isNaN_c b) ?_
 refine gQ ?_
 refine gS [] [] 20 [(0, vc (st a)), (1, vc (st b)), (6, vc (bo false)), (11, vc (bo false))] [] trivial ?_
 refine gBf ?_
 refine AMx.skip ?_
 refine gQ ?_
 refine gS [] [] 20 [(0, vc (st a)), (1, vc (st b)), (13, vc (bo false))] [] trivial ?_
 refine gBf ?_
 refine AMx.skip ?_
 refine gQ ?_
 refine gS [] [] 20 [(0, vc (st a)), (1, vc (st b)), (16, vc (bo (Op.bytesLess a b)))] [] trivial ?_
 refine gB (Op.bytesLess a b) (fun hc3 => ?_) fun hc3 => ?_
 ·
  try simp only [xT, xF] at hc3
  refine gS [] [] 20 [(4, vc (i6 (-1)))] [] trivial ?_
  exact gT (vc (i6 (-1))) (by rw [show cmpS a b = (-1) from by first | exact cmp_1 (by assumption) | exact cmp_2 (by simp_all) (by simp_all) | exact cmp_3 (by simp_all) (by simp_all)])
 ·
  try simp only [xT, xF] at hc3
  refine AMx.skip ?_
  refine gQ ?_
  refine gS [] [] 20 [(19, vc (bo (!(Op.bytesLess a b || decide (a = b)))))] [] trivial ?_
  refine gB (!(Op.bytesLess a b || decide (a = b))) (fun hc4 => ?_) fun hc4 => ?_
  ·
   try simp only [xT, xF, xO, xP, xN, xM] at hc4
   refine gS [] [] 20 [(4, vc (i6 1))] [] trivial ?_
   exact gT (vc (i6 1)) (by rw [show cmpS a b = 1 from by first | exact cmp_1 (by assumption) | exact cmp_2 (by simp_all) (by simp_all) | exact cmp_3 (by simp_all) (by simp_all)])
  ·
   try simp only [xT, xF, xO, xP, xN, xM] at hc4
   refine AMx.skip ?_
   refine gS [] [] 20 [(4, vc (i6 0))] [] trivial ?_
   exact gT (vc (i6 0)) (by rw [show cmpS a b = 0 from by first | exact cmp_1 (by assumption) | exact cmp_2 (by simp_all) (by simp_all) | exact cmp_3 (by simp_all) (by simp_all)])
theorem f76_body : Tryz.f76.body = some (.seq (.region 0 (rg Tryz.f76 0) false) (.seq (.region 1 (rg Tryz.f76 1) false) (.ret))) := by kernel_rfl
set_option maxRecDepth 100000 in
set_option maxHeartbeats 8000000 in
theorem findC_c (t : TokV) (n : Bytes) : Pure Tryz.prog 76 [TV.agg [.s (st t.1), .s (st t.2.1), .s (AL.Policy.slP t.2.2)], tc (st n)] (vc (i6 (cmpS t.1 n))) := by
 refine Pure.of_body Tryz.func76 f76_body (by kernel_rfl) Tryz.ntmps76 (by kernel_rfl) (by kernel_rfl) ?_
 refine gS [] [] 9 [(1, vc (st n)), (2, vp 2 0)] [(2, AObj.row [.s (st t.1), .s (st t.2.1), .s (AL.Policy.slP t.2.2)])] trivial ?_
 refine gS [(3, CE.call [] [] (vc (i6 (cmpS t.1 n))) [])] [Spec Tryz.prog 77 [tc (st t.1), tc (st n)] (ofH []) (vc (i6 (cmpS t.1 n))) (ofH [])] 9 [(4, vc (i6 (cmpS t.1 n)))] [] (Compare_c t.1 n) ?_
 exact gT (vc (i6 (cmpS t.1 n))) rfl
theorem f75_body : Tryz.f75.body = some (.seq (.region 0 (rg Tryz.f75 0) false) (.seq (.region 1 (rg Tryz.f75 1) false) (.seq (.region 2 (rg Tryz.f75 2) false) (.seq (.block 0 (.loop (.seq (.seq (.region 3 (rg Tryz.f75 3) false) (.cond (.tmp 17) (.skip) (.exit 0))) (.block 1 (.seq (.region 4 (rg Tryz.f75 4) false) (.seq (.region 5 (rg Tryz.f75 5) false) (.cond (.tmp 31) (.region 6 (rg Tryz.f75 6) false) (.region 7 (rg Tryz.f75 7) false)))))))) (.seq (.region 8 (rg Tryz.f75 8) false) (.ret)))))) := by kernel_rfl
set_option maxRecDepth 100000 in
set_option maxHeartbeats 8000000 in
theorem Search_c (l : List TokV) (n : Bytes) (ha : Lib.Ahead (fun x : TokV => decide (cmpS x.1 n < 0)) l) (hb : l.length ≤ 100000) : Pure Tryz.prog 75 [tc (slT l), tc (st n), TV.c (.fn 76 [])] (AV.tup [tc (i6 (locT l n : Int)), tc (bo (decide ((locT l n : Int) < (List.length l : Int)) && decide (cmpS (List.getD l (locT l n) tokd).1 n = 0)))]) := by
 refine Pure.of_body Tryz.func75 f75_body (by kernel_rfl) Tryz.ntmps75 (by kernel_rfl) (by kernel_rfl) ?_
 refine AMx.sl 0 (l := l) rfl (fun hl => ?_)
 simp only [maxLen] at hl
 refine gS [] [] 49 [(0, vc (slT l)), (1, vc (st n)), (2, AV.t (TV.c (.fn 76 [])))] [] trivial ?_
 refine gS [] [] 49 [(0, vc (slT l)), (1, vc (st n)), (2, AV.t (TV.c (.fn 76 []))), (8, vc (i6 (List.length l : Int)))] [] trivial ?_
 refine gS [] [] 49 [(0, vc (slT l)), (1, vc (st n)), (2, AV.t (TV.c (.fn 76 []))), (8, vc (i6 (List.length l : Int))), (9, vc (i6 0)), (10, vc (i6 (List.length l : Int)))] [] trivial ?_
 refine gQ ?_
 refine AMx.block ?_
 refine AMx.ent (s' := AS.lst 49 [(0, vc (slT l)), (1, vc (st n)), (2, AV.t (TV.c (.fn 76 []))), (8, vc (i6 (List.length l : Int))), (9, vc (i6 0)), (10, vc (i6 (List.length l : Int)))] []) (ent_proj [0, 1, 2, 8, 9, 10] []) ?_
 refine AMx.loop (fun mm ss => ∃ (i : Nat) (j : Nat), (i ≤ j ∧ j ≤ l.length ∧ (∀ x ∈ List.take i l, (fun x : TokV => decide (cmpS x.1 n < 0)) x = true) ∧ (∀ x ∈ List.drop j l, (fun x : TokV => decide (cmpS x.1 n < 0)) x = false)) ∧ mm = j - i ∧ ss = AS.lst 49 [(0, vc (slT l)), (1, vc (st n)), (2, AV.t (TV.c (.fn 76 []))), (8, vc (i6 (List.length l : Int))), (9, vc (i6 (i : Int))), (10, vc (i6 (j : Int)))] []) ⟨0, l.length, ?_, rfl, ?_⟩ ?_
 · exact ⟨by omega, by omega, fun x hx => by simp at hx, fun x hx => by simp at hx⟩
 · rfl
 rintro mm ss ⟨i, j, ⟨hI, hJ, h1, h2⟩, rfl, rfl⟩
 have hh := Lib.half (i := i) (j := j) (by omega)
 refine gQ ?_
 refine gS [] [] 49 [(0, vc (slT l)), (1, vc (st n)), (2, AV.t (TV.c (.fn 76 []))), (8, vc (i6 (List.length l : Int))), (9, vc (i6 (i : Int))), (10, vc (i6 (j : Int))), (17, vc (bo (decide ((i : Int) < (j : Int)))))] [] trivial ?_
 refine gC ((i : Int) < (j : Int)) (fun hc1 => ?_) fun hc1 => ?_
 ·
  refine AMx.skip ?_
  refine AMx.block ?_
  refine gS [] [InR .i64 ((i : Int) + (j : Int)), (0 : Int) ≤ 1, InR .i64 (Int.fdiv (IntKind.wrap .u64 ((i : Int) + (j : Int))) (2 ^ (min (1 : Int).toNat (IntKind.bits .u64))))] 49 [(0, vc (slT l)), (1, vc (st n)), (2, AV.t (TV.c (.fn 76 []))), (8, vc (i6 (List.length l : Int))), (9, vc (i6 (i : Int))), (10, vc (i6 (j : Int))), (11, vc (i6 (Int.fdiv (IntKind.wrap .u64 ((i : Int) + (j : Int))) (2 ^ (min (1 : Int).toNat (IntKind.bits .u64))))))] [] ⟨(inR64 (by first | omega | (rw [hh]; omega)) (by first | omega | (rw [hh]; omega))), (by first | omega | (rw [hh]; omega)), (show InR .i64 (Int.fdiv (IntKind.wrap .u64 ((i : Int) + (j : Int))) (2 ^ (min (1 : Int).toNat (IntKind.bits .u64)))) from (inR64 (by first | omega | (rw [hh]; omega)) (by first | omega | (rw [hh]; omega))))⟩ ?_
  refine gS [(6, CE.call [] [] (vc (i6 (cmpS (List.getD l (Int.fdiv (IntKind.wrap .u64 ((i : Int) + (j : Int))) (2 ^ (min (1 : Int).toNat (IntKind.bits .u64)))).toNat tokd).1 n))) [])] [(0 : Int) ≤ Int.fdiv (IntKind.wrap .u64 ((i : Int) + (j : Int))) (2 ^ (min (1 : Int).toNat (IntKind.bits .u64))), Int.fdiv (IntKind.wrap .u64 ((i : Int) + (j : Int))) (2 ^ (min (1 : Int).toNat (IntKind.bits .u64))) < List.length l, Spec Tryz.prog 76 [TV.agg [.s (st ((List.getD l (Int.fdiv (IntKind.wrap .u64 ((i : Int) + (j : Int))) (2 ^ (min (1 : Int).toNat (IntKind.bits .u64)))).toNat tokd).1)), .s (st ((List.getD l (Int.fdiv (IntKind.wrap .u64 ((i : Int) + (j : Int))) (2 ^ (min (1 : Int).toNat (IntKind.bits .u64)))).toNat tokd).2.1)), .s (AL.Policy.slP ((List.getD l (Int.fdiv (IntKind.wrap .u64 ((i : Int) + (j : Int))) (2 ^ (min (1 : Int).toNat (IntKind.bits .u64)))).toNat tokd).2.2))], tc (st n)] (ofH []) (vc (i6 (cmpS (List.getD l (Int.fdiv (IntKind.wrap .u64 ((i : Int) + (j : Int))) (2 ^ (min (1 : Int).toNat (IntKind.bits .u64)))).toNat tokd).1 n))) (ofH [])] 49 [(0, vc (slT l)), (1, vc (st n)), (2, AV.t (TV.c (.fn 76 []))), (8, vc (i6 (List.length l : Int))), (9, vc (i6 (i : Int))), (10, vc (i6 (j : Int))), (11, vc (i6 (Int.fdiv (IntKind.wrap .u64 ((i : Int) + (j : Int))) (2 ^ (min (1 : Int).toNat (IntKind.bits .u64)))))), (31, vc (bo (decide (cmpS (List.getD l (Int.fdiv (IntKind.wrap .u64 ((i : Int) + (j : Int))) (2 ^ (min (1 : Int).toNat (IntKind.bits .u64)))).toNat tokd).1 n < 0))))] [] ⟨(by first | omega | (rw [hh]; omega)), (by first | omega | (rw [hh]; omega)), (findC_c (List.getD l (Int.fdiv (IntKind.wrap .u64 ((i : Int) + (j : Int))) (2 ^ (min (1 : Int).toNat (IntKind.bits .u64)))).toNat tokd) n)⟩ ?_
  refine gC (cmpS (List.getD l (Int.fdiv (IntKind.wrap .u64 ((i : Int) + (j : Int))) (2 ^ (min (1 : Int).toNat (IntKind.bits .u64)))).toNat tokd).1 n < 0) (fun hc2 => ?_) fun hc2 => ?_
  ·
   refine gR [] [InR .i64 ((Int.fdiv (IntKind.wrap .u64 ((i : Int) + (j : Int))) (2 ^ (min (1 : Int).toNat (IntKind.bits .u64)))) + 1)] 49 [(0, vc (slT l)), (1, vc (st n)), (2, AV.t (TV.c (.fn 76 []))), (8, vc (i6 (List.length l : Int))), (9, vc (i6 ((Int.fdiv (IntKind.wrap .u64 ((i : Int) + (j : Int))) (2 ^ (min (1 : Int).toNat (IntKind.bits .u64)))) + 1))), (10, vc (i6 (j : Int)))] [] (show InR .i64 ((Int.fdiv (IntKind.wrap .u64 ((i : Int) + (j : Int))) (2 ^ (min (1 : Int).toNat (IntKind.bits .u64)))) + 1) from (inR64 (by first | omega | (rw [hh]; omega)) (by first | omega | (rw [hh]; omega)))) ?_
   refine AMx.blk ?_
   refine AMx.ent_inv (s' := AS.lst 49 [(0, vc (slT l)), (1, vc (st n)), (2, AV.t (TV.c (.fn 76 []))), (8, vc (i6 (List.length l : Int))), (9, vc (i6 ((Int.fdiv (IntKind.wrap .u64 ((i : Int) + (j : Int))) (2 ^ (min (1 : Int).toNat (IntKind.bits .u64)))) + 1))), (10, vc (i6 (j : Int)))] []) (ent_proj [0, 1, 2, 8, 9, 10] []) ?_
   refine AMx.inv ⟨_, ?_, (i + j) / 2 + 1, j, ?_, rfl, ?_⟩
   rotate_left
   · exact ⟨by omega, by omega, Lib.ahead_lo tokd ha ((i + j) / 2) (by omega) (by have q := hc2; rw [hh, Int.toNat_natCast] at q; exact decide_eq_true q), h2⟩
   · rw [hh]; rfl
   · omega
  ·
   refine gR [] [] 49 [(0, vc (slT l)), (1, vc (st n)), (2, AV.t (TV.c (.fn 76 []))), (8, vc (i6 (List.length l : Int))), (9, vc (i6 (i : Int))), (10, vc (i6 (Int.fdiv (IntKind.wrap .u64 ((i : Int) + (j : Int))) (2 ^ (min (1 : Int).toNat (IntKind.bits .u64))))))] [] trivial ?_
   refine AMx.blk ?_
   refine AMx.ent_inv (s' := AS.lst 49 [(0, vc (slT l)), (1, vc (st n)), (2, AV.t (TV.c (.fn 76 []))), (8, vc (i6 (List.length l : Int))), (9, vc (i6 (i : Int))), (10, vc (i6 (Int.fdiv (IntKind.wrap .u64 ((i : Int) + (j : Int))) (2 ^ (min (1 : Int).toNat (IntKind.bits .u64))))))] []) (ent_proj [0, 1, 2, 8, 9, 10] []) ?_
   refine AMx.inv ⟨_, ?_, i, (i + j) / 2, ?_, rfl, ?_⟩
   rotate_left
   · exact ⟨by omega, by omega, h1, Lib.ahead_hi tokd ha ((i + j) / 2) (by omega) (by have q := hc2; rw [hh, Int.toNat_natCast] at q; exact decide_eq_false q)⟩
   · rw [hh]
   · omega
 ·
  refine AMx.exit ?_
  refine AMx.code_exit ?_
  refine AMx.inv_exit ?_
  refine AMx.blk_exit ?_
  refine gS [(11, CE.call [] [] (vc (i6 (cmpS (List.getD l i tokd).1 n))) [])] [((decide ((i : Int) < (List.length l : Int))) = true) → allP [(decide ((i : Int) < (List.length l : Int))) = true, (decide ((i : Int) < (List.length l : Int))) = true, (0 : Int) ≤ (i : Int), (i : Int) < List.length l], ((decide ((i : Int) < (List.length l : Int))) = true) → allP [(decide ((i : Int) < (List.length l : Int))) = true], ((decide ((i : Int) < (List.length l : Int))) = true) → allP [(decide ((i : Int) < (List.length l : Int))) = true, (decide ((i : Int) < (List.length l : Int))) = true, (decide ((i : Int) < (List.length l : Int))) = true, Spec Tryz.prog 76 [TV.agg [.s (st ((List.getD l i tokd).1)), .s (st ((List.getD l i tokd).2.1)), .s (AL.Policy.slP ((List.getD l i tokd).2.2))], tc (st n)] (ofH []) (vc (i6 (cmpS (List.getD l i tokd).1 n))) (ofH [])], ((decide ((i : Int) < (List.length l : Int))) = true) → allP [(decide ((i : Int) < (List.length l : Int))) = true], (decide ((i : Int) < (List.length l : Int))) = true → allP [(decide ((i : Int) < (List.length l : Int))) = true]] 49 [(6, vc (i6 (i : Int))), (7, vc (bo ((decide ((i : Int) < (List.length l : Int))) && (decide (cmpS (List.getD l i tokd).1 n = 0)))))] [] ⟨(fun hp => by have hq := hp; (try simp only [xT, xF, xA, xO, xB, xP, xN, xM, Bool.not_eq_true, Bool.not_eq_false] at hq); exact ⟨hp, hp, (by first | omega | (rw [hh]; omega)), (show (i : Int) < List.length l from (by first | omega | (rw [hh]; omega)))⟩), (fun hp => hp), (fun hp => by have hq := hp; (try simp only [xT, xF, xA, xO, xB, xP, xN, xM, Bool.not_eq_true, Bool.not_eq_false] at hq); exact ⟨hp, hp, hp, (findC_c (List.getD l i tokd) n)⟩), (fun hp => hp), (fun hp2 => (by first | exact hp2 | exact ⟨hp, hp2⟩))⟩ ?_
  exact gT (AV.tup [tc (i6 (i : Int)), tc (bo ((decide ((i : Int) < (List.length l : Int))) && (decide (cmpS (List.getD l i tokd).1 n = 0))))]) (by rw [show locT l n = i from Lib.lead_eq l i (by omega) h1 (by rw [show i = j by omega]; exact h2)])
theorem f45_body : Tryz.f45.body = some (.seq (.region 0 (rg Tryz.f45 0) false) (.seq (.region 1 (rg Tryz.f45 1) false) (.ret))) := by kernel_rfl
set_option maxRecDepth 100000 in
set_option maxHeartbeats 8000000 in
theorem find_c (l : List TokV) (n : Bytes) (hs : SortT l) (hb : l.length ≤ 100000) : Pure Tryz.prog 45 [TV.agg [.s (slT l)], tc (st n)] (AV.tup [tc (i6 (locT l n : Int)), tc (bo (decide (0 ≤ findT l n)))]) := by
 refine Pure.of_body Tryz.func45 f45_body (by kernel_rfl) Tryz.ntmps45 (by kernel_rfl) (by kernel_rfl) ?_
 refine gS [] [] 12 [(1, vc (st n)), (2, vp 2 0)] [(2, AObj.row [.s (slT l)])] trivial ?_
 refine gS [(3, CE.call [] [] (AV.tup [tc (i6 (locT l n : Int)), tc (bo (decide ((locT l n : Int) < (List.length (l : List TokV) : Int)) && decide (cmpS (List.getD l (locT l n) tokd).1 n = 0)))]) [])] [Spec Tryz.prog 75 [tc (slT l), tc (st n), TV.c (.fn 76 [])] (ofH []) (AV.tup [tc (i6 (locT l n : Int)), tc (bo (decide ((locT l n : Int) < (List.length (l : List TokV) : Int)) && decide (cmpS (List.getD l (locT l n) tokd).1 n = 0)))]) (ofH [])] 12 [(4, vc (i6 (locT l n : Int))), (5, vc (bo (decide ((locT l n : Int) < (List.length (l : List TokV) : Int)) && decide (cmpS (List.getD l (locT l n) tokd).1 n = 0))))] [] (Search_c l n (sort_ahead hs _) hb) ?_
 exact gT (AV.tup [tc (i6 (locT l n : Int)), tc (bo (decide ((locT l n : Int) < (List.length (l : List TokV) : Int)) && decide (cmpS (List.getD l (locT l n) tokd).1 n = 0)))]) (by rw [find_loc hs])
theorem f117_body : Tryz.f117.body = some (.seq (.region 0 (rg Tryz.f117 0) false) (.seq (.seq (.region 1 (rg Tryz.f117 1) false) (.cond (.tmp 6) (.region 2 (rg Tryz.f117 2) false) (.skip))) (.seq (.seq (.region 3 (rg Tryz.f117 3) false) (.seq (.region 4 (rg Tryz.f117 4) false) (.cond (.tmp 16) (.region 5 (rg Tryz.f117 5) false) (.skip)))) (.seq (.region 6 (rg Tryz.f117 6) false) (.ret))))) := by kernel_rfl
set_option maxRecDepth 100000 in
set_option maxHeartbeats 8000000 in
theorem GrowT_c (n : Int) (h0 : 0 ≤ n) (hb : n * 56 ≤ 140737488355328) : ∀ d, Spec Tryz.prog 117 [tc (SC.nilsl), tc (i6 n)] H0 (vo d) (ofH [(d, AObj.grow 41 3 TokV tokd rowT [])]) := by
 refine Own.of_body Tryz.func117 f117_body (by kernel_rfl) Tryz.ntmps117 (by kernel_rfl) rfl ?_
 refine gS [] [] 27 [(0, vc (SC.nilsl)), (1, vc (i6 n))] [] trivial ?_
 refine gQ ?_
 refine gS [] [] 27 [(0, vc (SC.nilsl)), (1, vc (i6 n)), (6, vc (bo (decide (n < 0))))] [] trivial ?_
 refine gC (n < 0) (fun hc1 => ?_) fun hc1 => ?_
 ·
  exfalso
  omega
 ·
  refine AMx.skip ?_
  refine gQ ?_
  refine gS [] [InR .i64 (0 - 0), InR .i64 (n - (0 - 0))] 27 [(0, vc (SC.nilsl)), (1, vc (i6 (n - (0 - 0))))] [] ⟨(inR64 (by omega) (by omega)), (show InR .i64 (n - (0 - 0)) from (inR64 (by omega) (by omega)))⟩ ?_
  refine gS [] [] 27 [(0, vc (SC.nilsl)), (1, vc (i6 (n - (0 - 0)))), (16, vc (bo (decide (0 < n - (0 - 0)))))] [] trivial ?_
  refine gC (0 < n - (0 - 0)) (fun hc2 => ?_) fun hc2 => ?_
  ·
   refine gR [(5, CE.obj (AObj.grow 41 3 Unit () rowZt (List.replicate (n - (0 - 0)).toNat ())))] [0 ≤ (0 : Int), (0 : Int) ≤ 0, 1 ≤ n - (0 - 0), (n - (0 - 0)) * (56 : Int) ≤ 140737488355328, MakeC (n - (0 - 0)).toNat [.s (st []), .s (st []), .s (SC.nilsl)] (AObj.grow 41 3 Unit () rowZt (List.replicate (n - (0 - 0)).toNat ())), 0 ≤ (0 : Int), (0 : Int) ≤ (List.length (List.replicate (n - (0 - 0)).toNat () : List Unit) : Int)] 27 [(0, vo 25)] [(25, AObj.grow 41 3 Unit () rowZt (List.take 0 (List.replicate (n - (0 - 0)).toNat ())))] ⟨(by omega), (by omega), (by omega), (by omega), (⟨_, rfl, rfl⟩), (by omega), (show (0 : Int) ≤ (List.length (List.replicate (n - (0 - 0)).toNat () : List Unit) : Int) from (by omega))⟩ ?_
   refine gS [] [] 27 [(4, vo 25)] [(25, AObj.grow 41 3 Unit () rowZt (List.take 0 (List.replicate (n - (0 - 0)).toNat ())))] trivial ?_
   refine AMx.ent (ent_regrow (T := 41) (k := 3) 25 (d := ()) (d2 := tokd) (row := rowZt) (row2 := rowT) (l := List.take 0 (List.replicate (n - (0 - 0)).toNat ())) (l2 := []) (by kernel_rfl) (by simp) (fun j x y h1 => by simp at h1)) ?_
   refine AMx.ent (s' := AS.lst 27 [(4, vo 25)] [(25, AObj.grow 41 3 TokV tokd rowT [])]) (ent_proj [4] [25]) ?_
   refine AMx.ret ?_
   exact ⟨.inl rfl, 25, AObj.grow 41 3 TokV tokd rowT [], by kernel_rfl, by kernel_rfl, rfl⟩
  ·
   refine AMx.skip ?_
   refine gS [] [] 27 [(4, vc (SC.nilsl))] [] trivial ?_
   refine AMx.ent (s' := AS.lst 27 [(4, vo 4)] [(4, AObj.grow 41 3 TokV tokd rowT [])]) (ent_adopt (t := 4) (d := 4) 41 3 TokV tokd rowT (by kernel_rfl) (by kernel_rfl) (by kernel_rfl) (by kernel_rfl)) ?_
   refine AMx.ret ?_
   exact ⟨.inl rfl, 4, AObj.grow 41 3 TokV tokd rowT [], by kernel_rfl, by kernel_rfl, rfl⟩
theorem f81_body : Tryz.f81.body = some (.seq (.region 0 (rg Tryz.f81 0) false) (.seq (.region 1 (rg Tryz.f81 1) false) (.seq (.seq (.region 2 (rg Tryz.f81 2) false) (.block 0 (.loop (.seq (.region 3 (rg Tryz.f81 3) false) (.seq (.cond (.tmp 12) (.skip) (.exit 0)) (.seq (.block 1 (.seq (.region 4 (rg Tryz.f81 4) false) (.seq (.region 5 (rg Tryz.f81 5) false) (.seq (.region 6 (rg Tryz.f81 6) false) (.cond (.tmp 20) (.region 7 (rg Tryz.f81 7) false) (.skip)))))) (.region 8 (rg Tryz.f81 8) false))))))) (.seq (.region 9 (rg Tryz.f81 9) false) (.seq (.seq (.region 10 (rg Tryz.f81 10) false) (.block 2 (.loop (.seq (.region 11 (rg Tryz.f81 11) false) (.seq (.cond (.tmp 28) (.skip) (.exit 2)) (.seq (.block 3 (.seq (.region 12 (rg Tryz.f81 12) false) (.region 13 (rg Tryz.f81 13) false))) (.region 14 (rg Tryz.f81 14) false))))))) (.seq (.region 15 (rg Tryz.f81 15) false) (.ret))))))) := by kernel_rfl
set_option maxRecDepth 100000 in
set_option maxHeartbeats 8000000 in
theorem ConcatT_c (ls : List (List TokV)) (hb : ls.flatten.length * 56 ≤ 140737488355328) : Pure Tryz.prog 81 [tc (SC.sl 1 (List TokV) [] rowTs ls)] (vc (slT ls.flatten)) := by
 refine Pure.of_body Tryz.func81 f81_body (by kernel_rfl) Tryz.ntmps81 (by kernel_rfl) (by kernel_rfl) ?_
 refine AMx.sl 0 (l := ls) rfl (fun hl => ?_)
 simp only [maxLen] at hl
 refine gS [] [] 36 [(0, vc (SC.sl 1 (List TokV) [] rowTs ls))] [] trivial ?_
 refine gS [] [] 36 [(0, vc (SC.sl 1 (List TokV) [] rowTs ls)), (3, vc (i6 0))] [] trivial ?_
 refine gQ ?_
 refine gS [] [] 36 [(0, vc (SC.sl 1 (List TokV) [] rowTs ls)), (3, vc (i6 0)), (9, vc (SC.sl 1 (List TokV) [] rowTs ls)), (10, vc (i6 (List.length ls : Int))), (11, vc (i6 0))] [] trivial ?_
 refine AMx.block ?_
 refine AMx.ent (s' := AS.lst 36 [(0, vc (SC.sl 1 (List TokV) [] rowTs ls)), (3, vc (i6 0)), (9, vc (SC.sl 1 (List TokV) [] rowTs ls)), (10, vc (i6 (List.length ls : Int))), (11, vc (i6 0))] []) (ent_proj [0, 3, 9, 10, 11] []) ?_
 refine AMx.loop (fun mm ss => ∃ (k : Nat), (k ≤ ls.length) ∧ mm = ls.length - k ∧ ss = AS.lst 36 [(0, vc (SC.sl 1 (List TokV) [] rowTs ls)), (3, vc (i6 ((List.take k ls).flatten.length : Int))), (9, vc (SC.sl 1 (List TokV) [] rowTs ls)), (10, vc (i6 (List.length ls : Int))), (11, vc (i6 (k : Int)))] []) ⟨0, ?_, rfl, ?_⟩ ?_
 · omega
 · rfl
 rintro mm ss ⟨k, hI, rfl, rfl⟩
 refine gS [] [] 36 [(0, vc (SC.sl 1 (List TokV) [] rowTs ls)), (3, vc (i6 ((List.take k ls).flatten.length : Int))), (9, vc (SC.sl 1 (List TokV) [] rowTs ls)), (10, vc (i6 (List.length ls : Int))), (11, vc (i6 (k : Int))), (12, vc (bo (decide ((k : Int) < (List.length ls : Int)))))] [] trivial ?_
 refine gQ ?_
 refine gC ((k : Int) < (List.length ls : Int)) (fun hc1 => ?_) fun hc1 => ?_
 ·
  refine AMx.skip ?_
  refine gQ ?_
  refine AMx.block ?_
  refine gS [] [(0 : Int) ≤ (k : Int), (k : Int) < List.length ls] 36 [(0, vc (SC.sl 1 (List TokV) [] rowTs ls)), (3, vc (i6 ((List.take k ls).flatten.length : Int))), (5, vc (slT (List.getD ls k []))), (9, vc (SC.sl 1 (List TokV) [] rowTs ls)), (10, vc (i6 (List.length ls : Int))), (11, vc (i6 (k : Int)))] [] ⟨(by first | omega | (have h1 := Lib.flat_len ls k (by omega); have h2 := Lib.flat_le ls (k + 1); omega) | (have h3 := Lib.flat_le ls k; omega)), (show (k : Int) < List.length ls from (by first | omega | (have h1 := Lib.flat_len ls k (by omega); have h2 := Lib.flat_le ls (k + 1); omega) | (have h3 := Lib.flat_le ls k; omega)))⟩ ?_
  refine gS [] [InR .i64 (((List.take k ls).flatten.length : Int) + (List.length ((List.getD ls k []) : List TokV) : Int))] 36 [(0, vc (SC.sl 1 (List TokV) [] rowTs ls)), (3, vc (i6 (((List.take k ls).flatten.length : Int) + (List.length ((List.getD ls k []) : List TokV) : Int)))), (9, vc (SC.sl 1 (List TokV) [] rowTs ls)), (10, vc (i6 (List.length ls : Int))), (11, vc (i6 (k : Int)))] [] (show InR .i64 (((List.take k ls).flatten.length : Int) + (List.length ((List.getD ls k []) : List TokV) : Int)) from (inR64 (by first | omega | (have h1 := Lib.flat_len ls k (by omega); have h2 := Lib.flat_le ls (k + 1); omega) | (have h3 := Lib.flat_le ls k; omega)) (by first | omega | (have h1 := Lib.flat_len ls k (by omega); have h2 := Lib.flat_le ls (k + 1); omega) | (have h3 := Lib.flat_le ls k; omega)))) ?_
  refine gS [] [] 36 [(0, vc (SC.sl 1 (List TokV) [] rowTs ls)), (3, vc (i6 (((List.take k ls).flatten.length : Int) + (List.length ((List.getD ls k []) : List TokV) : Int)))), (9, vc (SC.sl 1 (List TokV) [] rowTs ls)), (10, vc (i6 (List.length ls : Int))), (11, vc (i6 (k : Int))), (20, vc (bo (decide (((List.take k ls).flatten.length : Int) + (List.length ((List.getD ls k []) : List TokV) : Int) < 0))))] [] trivial ?_
  refine gC (((List.take k ls).flatten.length : Int) + (List.length ((List.getD ls k []) : List TokV) : Int) < 0) (fun hc2 => ?_) fun hc2 => ?_
  ·
   exfalso
   first | omega | (have h1 := Lib.flat_len ls k (by omega); have h2 := Lib.flat_le ls (k + 1); omega) | (have h3 := Lib.flat_le ls k; omega)
  ·
   refine AMx.skip ?_
   refine AMx.blk ?_
   refine gR [] [InR .i64 ((k : Int) + 1)] 36 [(0, vc (SC.sl 1 (List TokV) [] rowTs ls)), (3, vc (i6 (((List.take k ls).flatten.length : Int) + (List.length ((List.getD ls k []) : List TokV) : Int)))), (9, vc (SC.sl 1 (List TokV) [] rowTs ls)), (10, vc (i6 (List.length ls : Int))), (11, vc (i6 ((k : Int) + 1)))] [] (show InR .i64 ((k : Int) + 1) from (inR64 (by first | omega | (have h1 := Lib.flat_len ls k (by omega); have h2 := Lib.flat_le ls (k + 1); omega) | (have h3 := Lib.flat_le ls k; omega)) (by first | omega | (have h1 := Lib.flat_len ls k (by omega); have h2 := Lib.flat_le ls (k + 1); omega) | (have h3 := Lib.flat_le ls k; omega)))) ?_
   refine AMx.ent_inv (s' := AS.lst 36 [(0, vc (SC.sl 1 (List TokV) [] rowTs ls)), (3, vc (i6 (((List.take k ls).flatten.length : Int) + (List.length ((List.getD ls k []) : List TokV) : Int)))), (9, vc (SC.sl 1 (List TokV) [] rowTs ls)), (10, vc (i6 (List.length ls : Int))), (11, vc (i6 ((k : Int) + 1)))] []) (ent_proj [0, 3, 9, 10, 11] []) ?_
   refine AMx.inv ⟨_, ?_, k + 1, ?_, rfl, ?_⟩
   rotate_left
   · omega
   · rw [Lib.flat_len ls k (by omega)]; rfl
   · omega
 ·
  refine AMx.exit ?_
  refine AMx.code_exit ?_
  refine AMx.inv_exit ?_
  refine AMx.blk_exit ?_
  refine gS [(1, CE.call [] [] (vo 24) [(24, AObj.grow 41 3 TokV tokd rowT [])])] [Spec Tryz.prog 117 [tc (SC.nilsl), tc (i6 ((List.take k ls).flatten.length : Int))] (ofH []) (vo 24) (ofH [(24, AObj.grow 41 3 TokV tokd rowT [])])] 36 [(0, vc (SC.sl 1 (List TokV) [] rowTs ls)), (6, vo 24)] [(24, AObj.grow 41 3 TokV tokd rowT [])] (GrowT_c ((List.take k ls).flatten.length : Int) (by first | omega | (have h1 := Lib.flat_len ls k (by omega); have h2 := Lib.flat_le ls (k + 1); omega) | (have h3 := Lib.flat_le ls k; omega)) (by first | omega | (have h1 := Lib.flat_len ls k (by omega); have h2 := Lib.flat_le ls (k + 1); omega) | (have h3 := Lib.flat_le ls k; omega)) 24) ?_
  refine gQ ?_
  refine gS [] [] 36 [(6, vo 24), (25, vc (SC.sl 1 (List TokV) [] rowTs ls)), (26, vc (i6 (List.length ls : Int))), (27, vc (i6 0))] [(24, AObj.grow 41 3 TokV tokd rowT [])] trivial ?_
  refine AMx.block ?_
  refine AMx.ent (s' := AS.lst 36 [(6, vo 24), (25, vc (SC.sl 1 (List TokV) [] rowTs ls)), (26, vc (i6 (List.length ls : Int))), (27, vc (i6 0))] [(24, AObj.grow 41 3 TokV tokd rowT [])]) (ent_proj [6, 25, 26, 27] [24]) ?_
  refine AMx.loop (fun mm ss => ∃ (m : Nat), (m ≤ ls.length) ∧ mm = ls.length - m ∧ ss = AS.lst 36 [(6, vo 24), (25, vc (SC.sl 1 (List TokV) [] rowTs ls)), (26, vc (i6 (List.length ls : Int))), (27, vc (i6 (m : Int)))] [(24, AObj.grow 41 3 TokV tokd rowT ((List.take m ls).flatten))]) ⟨0, ?_, rfl, ?_⟩ ?_
  · omega
  · rfl
  rintro mm ss ⟨m, hI, rfl, rfl⟩
  refine gS [] [] 36 [(6, vo 24), (25, vc (SC.sl 1 (List TokV) [] rowTs ls)), (26, vc (i6 (List.length ls : Int))), (27, vc (i6 (m : Int))), (28, vc (bo (decide ((m : Int) < (List.length ls : Int)))))] [(24, AObj.grow 41 3 TokV tokd rowT ((List.take m ls).flatten))] trivial ?_
  refine gQ ?_
  refine gC ((m : Int) < (List.length ls : Int)) (fun hc3 => ?_) fun hc3 => ?_
  ·
   refine AMx.skip ?_
   refine gQ ?_
   refine AMx.block ?_
   refine gS [] [(0 : Int) ≤ (m : Int), (m : Int) < List.length ls] 36 [(6, vo 24), (8, vc (slT (List.getD ls m []))), (25, vc (SC.sl 1 (List TokV) [] rowTs ls)), (26, vc (i6 (List.length ls : Int))), (27, vc (i6 (m : Int)))] [(24, AObj.grow 41 3 TokV tokd rowT ((List.take m ls).flatten))] ⟨(by first | omega | (have h1 := Lib.flat_len ls k (by omega); have h2 := Lib.flat_le ls (k + 1); omega) | (have h3 := Lib.flat_le ls k; omega)), (show (m : Int) < List.length ls from (by first | omega | (have h1 := Lib.flat_len ls k (by omega); have h2 := Lib.flat_le ls (k + 1); omega) | (have h3 := Lib.flat_le ls k; omega)))⟩ ?_
   refine gR [(2, CE.obj (AObj.grow 41 3 TokV tokd rowT (((List.take m ls).flatten) ++ (List.getD ls m []))))] [AppC (flat 3 rowT (List.getD ls m [])) (List.length ((List.getD ls m []) : List TokV)) 56 (AObj.grow 41 3 TokV tokd rowT ((List.take m ls).flatten)) (AObj.grow 41 3 TokV tokd rowT (((List.take m ls).flatten) ++ (List.getD ls m [])))] 36 [(6, vo 33), (25, vc (SC.sl 1 (List TokV) [] rowTs ls)), (26, vc (i6 (List.length ls : Int))), (27, vc (i6 (m : Int)))] [(33, AObj.grow 41 3 TokV tokd rowT (((List.take m ls).flatten) ++ (List.getD ls m [])))] (⟨_, rfl, rfl, rfl, by have h1 := Lib.flat_len ls m (by omega); have h2 := Lib.flat_le ls (m + 1); omega, by simp only [maxLen]; have h1 := Lib.flat_len ls m (by omega); have h2 := Lib.flat_le ls (m + 1); omega⟩) ?_
   refine AMx.blk ?_
   refine gR [] [InR .i64 ((m : Int) + 1)] 36 [(6, vo 33), (25, vc (SC.sl 1 (List TokV) [] rowTs ls)), (26, vc (i6 (List.length ls : Int))), (27, vc (i6 ((m : Int) + 1)))] [(33, AObj.grow 41 3 TokV tokd rowT (((List.take m ls).flatten) ++ (List.getD ls m [])))] (show InR .i64 ((m : Int) + 1) from (inR64 (by first | omega | (have h1 := Lib.flat_len ls k (by omega); have h2 := Lib.flat_le ls (k + 1); omega) | (have h3 := Lib.flat_le ls k; omega)) (by first | omega | (have h1 := Lib.flat_len ls k (by omega); have h2 := Lib.flat_le ls (k + 1); omega) | (have h3 := Lib.flat_le ls k; omega)))) ?_
   refine AMx.ent_inv (s' := AS.lst 36 [(6, vo 24), (25, vc (SC.sl 1 (List TokV) [] rowTs ls)), (26, vc (i6 (List.length ls : Int))), (27, vc (i6 ((m : Int) + 1)))] [(24, AObj.grow 41 3 TokV tokd rowT (((List.take m ls).flatten) ++ (List.getD ls m [])))]) (ent_swap 33 24 (by kernel_rfl) (by kernel_rfl)) ?_
   refine AMx.ent_inv (s' := AS.lst 36 [(6, vo 24), (25, vc (SC.sl 1 (List TokV) [] rowTs ls)), (26, vc (i6 (List.length ls : Int))), (27, vc (i6 ((m : Int) + 1)))] [(24, AObj.grow 41 3 TokV tokd rowT (((List.take m ls).flatten) ++ (List.getD ls m [])))]) (ent_proj [6, 25, 26, 27] [24]) ?_
   refine AMx.inv ⟨_, ?_, m + 1, ?_, rfl, ?_⟩
   rotate_left
   · omega
   · rw [← Lib.flat_step [] ls m (by omega)]; rfl
   · omega
  ·
   refine AMx.exit ?_
   refine AMx.code_exit ?_
   refine AMx.inv_exit ?_
   refine AMx.blk_exit ?_
   refine gS [] [] 36 [(2, vo 24)] [(24, AObj.grow 41 3 TokV tokd rowT ((List.take m ls).flatten))] trivial ?_
   refine AMx.ent (s' := AS.lst 36 [(2, vc (slT ((List.take m ls).flatten)))] []) (ent_freeze (id := 24) (T := 41) (by kernel_rfl)) ?_
   exact gT (vc (slT ((List.take m ls).flatten))) (by rw [Lib.flat_all ls m (by omega)])
theorem f53_body : Tryz.f53.body = some (.seq (.region 0 (rg Tryz.f53 0) false) (.seq (.region 1 (rg Tryz.f53 1) false) (.seq (.region 2 (rg Tryz.f53 2) true) (.ret)))) := by kernel_rfl
set_option maxRecDepth 100000 in
set_option maxHeartbeats 8000000 in
theorem with_c (l : List TokV) (t : TokV) (hs : SortT l) (hb : l.length ≤ 100000) (hr : t.2.2.length ≤ 100000) : Pure Tryz.prog 53 [TV.agg [.s (slT l)], TV.agg [.s (st t.1), .s (st t.2.1), .s (AL.Policy.slP t.2.2)]] (AV.t (TV.agg [.s (slT (intoT l t))])) := by
 refine Pure.of_body Tryz.func53 f53_body (by kernel_rfl) Tryz.ntmps53 (by kernel_rfl) (by kernel_rfl) ?_
 refine gS [] [] 28 [(2, vp 2 0), (3, vp 3 0), (4, vp 4 0)] [(2, AObj.row [.s (slT l)]), (3, AObj.row [.s (st t.1), .s (st t.2.1), .s (AL.Policy.slP t.2.2)]), (4, AObj.row [.s (SC.nilsl)])] trivial ?_
 refine gS [(3, CE.call [] [] (AV.tup [tc (i6 (locT l t.1 : Int)), tc (bo (decide (0 ≤ findT l t.1)))]) [])] [Spec Tryz.prog 45 [TV.agg [.s (slT l)], tc (st t.1)] (ofH []) (AV.tup [tc (i6 (locT l t.1 : Int)), tc (bo (decide (0 ≤ findT l t.1)))]) (ofH [])] 28 [(2, vp 2 0), (3, vp 3 0), (4, vp 4 0), (5, vc (i6 (locT l t.1 : Int)))] [(2, AObj.row [.s (slT l)]), (3, AObj.row [.s (st t.1), .s (st t.2.1), .s (AL.Policy.slP t.2.2)]), (4, AObj.row [.s (SC.nilsl)])] (find_c l t.1 (by assumption) (by first | omega | (have z := loc_le l t.1; first | omega | (simp only [List.flatten_cons, List.flatten_nil, List.length_append, List.length_cons, List.length_nil, List.length_take, List.length_drop]; omega)))) ?_
 refine gY [(5, CE.call [] [] (AV.t (TV.agg [.s (st t.1), .s (st t.2.1), .s (AL.Policy.slP t.2.2)])) []), (6, CE.shr (some (AObj.grow 41 3 TokV tokd rowT [t]))), (11, CE.obj (AObj.grow 27 1 (List TokV) [] rowTs [List.take (locT l t.1) l, [t], List.drop (locT l t.1) l])), (12, CE.call [25] [] (vc (slT (([List.take (locT l t.1) l, [t], List.drop (locT l t.1) l]).flatten))) [])] [(1, [2]), (4, [3]), (8, [2]), (12, [25]), (14, [4])] [0 ≤ (locT l t.1 : Int), (locT l t.1 : Int) ≤ List.length l, Spec Tryz.prog 58 [TV.agg [.s (st t.1), .s (st t.2.1), .s (AL.Policy.slP t.2.2)]] (ofH []) (AV.t (TV.agg [.s (st t.1), .s (st t.2.1), .s (AL.Policy.slP t.2.2)])) (ofH []), flat 3 rowT [t] = [.s (st t.1), .s (st t.2.1), .s (AL.Policy.slP t.2.2)], List.length ([t] : List TokV) = 1, 0 ≤ (locT l t.1 : Int), (locT l t.1 : Int) ≤ List.length l, flat 1 rowTs [List.take (locT l t.1) l, [t], List.drop (locT l t.1) l] = [.s (slT (List.take (locT l t.1) l)), .s (slT [t]), .s (slT (List.drop (locT l t.1) l))], List.length ([List.take (locT l t.1) l, [t], List.drop (locT l t.1) l] : List (List TokV)) = 3, Spec Tryz.prog 81 [tc (SC.sl 1 (List TokV) [] rowTs [List.take (locT l t.1) l, [t], List.drop (locT l t.1) l])] (ofH []) (vc (slT (([List.take (locT l t.1) l, [t], List.drop (locT l t.1) l]).flatten))) (ofH [])] 28 [(4, vp 4 0)] [(4, AObj.row [.s (slT (([List.take (locT l t.1) l, [t], List.drop (locT l t.1) l]).flatten))])] mixed ⟨(by first | omega | (have z := loc_le l t.1; first | omega | (simp only [List.flatten_cons, List.flatten_nil, List.length_append, List.length_cons, List.length_nil, List.length_take, List.length_drop]; omega))), (by first | omega | (have z := loc_le l t.1; first | omega | (simp only [List.flatten_cons, List.flatten_nil, List.length_append, List.length_cons, List.length_nil, List.length_take, List.length_drop]; omega))), (copied_c t (by first | omega | (have z := loc_le l t.1; first | omega | (simp only [List.flatten_cons, List.flatten_nil, List.length_append, List.length_cons, List.length_nil, List.length_take, List.length_drop]; omega)))), rfl, rfl, (by first | omega | (have z := loc_le l t.1; first | omega | (simp only [List.flatten_cons, List.flatten_nil, List.length_append, List.length_cons, List.length_nil, List.length_take, List.length_drop]; omega))), (by first | omega | (have z := loc_le l t.1; first | omega | (simp only [List.flatten_cons, List.flatten_nil, List.length_append, List.length_cons, List.length_nil, List.length_take, List.length_drop]; omega))), rfl, rfl, (ConcatT_c [List.take (locT l t.1) l, [t], List.drop (locT l t.1) l] (by simp only [List.flatten_cons, List.flatten_nil, List.length_append, List.length_cons, List.length_nil, List.length_take, List.length_drop]; first | omega | (have z := loc_le l t.1; first | omega | (simp only [List.flatten_cons, List.flatten_nil, List.length_append, List.length_cons, List.length_nil, List.length_take, List.length_drop]; omega))))⟩ ?_
 exact gT (AV.t (TV.agg [.s (slT (([List.take (locT l t.1) l, [t], List.drop (locT l t.1) l]).flatten))])) (by rw [into_flat])
theorem f20_body : Tryz.f20.body = some (.seq (.region 0 (rg Tryz.f20 0) false) (.seq (.seq (.region 1 (rg Tryz.f20 1) false) (.seq (.region 2 (rg Tryz.f20 2) false) (.cond (.tmp 14) (.seq (.region 3 (rg Tryz.f20 3) false) (.ret)) (.skip)))) (.seq (.seq (.region 4 (rg Tryz.f20 4) false) (.cond (.tmp 19) (.seq (.region 5 (rg Tryz.f20 5) false) (.ret)) (.skip))) (.seq (.seq (.region 6 (rg Tryz.f20 6) false) (.seq (.region 7 (rg Tryz.f20 7) false) (.cond (.tmp 28) (.seq (.region 8 (rg Tryz.f20 8) false) (.ret)) (.skip)))) (.seq (.region 9 (rg Tryz.f20 9) false) (.seq (.seq (.region 10 (rg Tryz.f20 10) false) (.cond (.tmp 38) (.seq (.region 11 (rg Tryz.f20 11) false) (.ret)) (.skip))) (.seq (.seq (.region 12 (rg Tryz.f20 12) true) (.cond (.tmp 49) (.seq (.region 13 (rg Tryz.f20 13) false) (.ret)) (.skip))) (.seq (.region 14 (rg Tryz.f20 14) false) (.ret))))))))) := by kernel_rfl
set_option maxRecDepth 100000 in
set_option maxHeartbeats 8000000 in
theorem Make_c (l : List TokV) (t : TokV) (hs : SortT l) (hb : l.length ≤ 100000) : Pure Tryz.prog 20 [TV.agg [.s (slT l)], TV.agg [.s (st t.1), .s (st t.2.1), .s (AL.Policy.slP t.2.2)]] (AV.tup [TV.agg [.s (slT ((makeT l t).1))], tc (i6 ((makeT l t).2))]) := by
 refine Pure.of_body Tryz.func20 f20_body (by kernel_rfl) Tryz.ntmps20 (by kernel_rfl) (by kernel_rfl) ?_
 refine gS [] [] 54 [(2, vp 2 0), (3, vp 3 0), (4, vp 4 0)] [(2, AObj.row [.s (slT l)]), (3, AObj.row [.s (st t.1), .s (st t.2.1), .s (AL.Policy.slP t.2.2)]), (4, AObj.row [.s (SC.nilsl)])] trivial ?_
 refine gQ ?_
 refine gS [(1, CE.call [] [] (vc (i6 (checkT t))) [])] [Spec Tryz.prog 13 [TV.agg [.s (st t.1), .s (st t.2.1), .s (AL.Policy.slP t.2.2)]] (ofH []) (vc (i6 (checkT t))) (ofH [])] 54 [(2, vp 2 0), (3, vp 3 0), (4, vp 4 0), (6, vc (i6 (checkT t)))] [(2, AObj.row [.s (slT l)]), (3, AObj.row [.s (st t.1), .s (st t.2.1), .s (AL.Policy.slP t.2.2)]), (4, AObj.row [.s (SC.nilsl)])] (Check_c t) ?_
 refine gS [] [] 54 [(2, vp 2 0), (3, vp 3 0), (4, vp 4 0), (6, vc (i6 (checkT t))), (14, vc (bo (!decide (checkT t = 0))))] [(2, AObj.row [.s (slT l)]), (3, AObj.row [.s (st t.1), .s (st t.2.1), .s (AL.Policy.slP t.2.2)]), (4, AObj.row [.s (SC.nilsl)])] trivial ?_
 refine gN (checkT t = 0) (fun hc1 => ?_) fun hc1 => ?_
 ·
  refine gS [] [] 54 [(4, vp 4 0), (5, vc (i6 (checkT t)))] [(4, AObj.row [.s (slT l)])] trivial ?_
  exact gT (AV.tup [TV.agg [.s (slT l)], tc (i6 (checkT t))]) (by rw [show makeT l t = (l, checkT t) from by first | exact make_1 (by assumption) | exact make_2 (by omega) (by assumption) | exact make_3 (by omega) (by assumption) (by assumption) | exact make_4 (by omega) (by assumption) (by assumption) (by omega) | exact make_5 (by omega) (by assumption) (by assumption) (by omega) (by first | assumption | (rw [(at_loc hs (by assumption)).1]; assumption)) | exact make_0 (by omega) (by assumption) (by assumption) (by omega) (by first | assumption | (rw [(at_loc hs (by assumption)).1]; assumption))])
 ·
  refine AMx.skip ?_
  refine gQ ?_
  refine gS [] [] 54 [(2, vp 2 0), (3, vp 3 0), (4, vp 4 0), (19, vc (bo (decide (t.2.1 = []))))] [(2, AObj.row [.s (slT l)]), (3, AObj.row [.s (st t.1), .s (st t.2.1), .s (AL.Policy.slP t.2.2)]), (4, AObj.row [.s (SC.nilsl)])] trivial ?_
  refine gC (t.2.1 = []) (fun hc2 => ?_) fun hc2 => ?_
  ·
   refine gS [] [] 54 [(4, vp 4 0), (5, vc (i6 2))] [(4, AObj.row [.s (slT l)])] trivial ?_
   exact gT (AV.tup [TV.agg [.s (slT l)], tc (i6 2)]) (by rw [show makeT l t = (l, 2) from by first | exact make_1 (by assumption) | exact make_2 (by omega) (by assumption) | exact make_3 (by omega) (by assumption) (by assumption) | exact make_4 (by omega) (by assumption) (by assumption) (by omega) | exact make_5 (by omega) (by assumption) (by assumption) (by omega) (by first | assumption | (rw [(at_loc hs (by assumption)).1]; assumption)) | exact make_0 (by omega) (by assumption) (by assumption) (by omega) (by first | assumption | (rw [(at_loc hs (by assumption)).1]; assumption))])
  ·
   refine AMx.skip ?_
   refine gQ ?_
   refine gS [(3, CE.call [] [] (AV.tup [tc (i6 (locT l t.1 : Int)), tc (bo (decide (0 ≤ findT l t.1)))]) [])] [Spec Tryz.prog 45 [TV.agg [.s (slT l)], tc (st t.1)] (ofH []) (AV.tup [tc (i6 (locT l t.1 : Int)), tc (bo (decide (0 ≤ findT l t.1)))]) (ofH [])] 54 [(2, vp 2 0), (3, vp 3 0), (4, vp 4 0), (8, vc (bo (decide (0 ≤ findT l t.1))))] [(2, AObj.row [.s (slT l)]), (3, AObj.row [.s (st t.1), .s (st t.2.1), .s (AL.Policy.slP t.2.2)]), (4, AObj.row [.s (SC.nilsl)])] (find_c l t.1 (by assumption) (by first | omega | (have z := check_le (t := t) (by omega); omega) | (have z := at_loc hs (by assumption); omega))) ?_
   refine gS [] [] 54 [(2, vp 2 0), (3, vp 3 0), (4, vp 4 0), (28, vc (bo (decide (0 ≤ findT l t.1))))] [(2, AObj.row [.s (slT l)]), (3, AObj.row [.s (st t.1), .s (st t.2.1), .s (AL.Policy.slP t.2.2)]), (4, AObj.row [.s (SC.nilsl)])] trivial ?_
   refine gC (0 ≤ findT l t.1) (fun hc3 => ?_) fun hc3 => ?_
   ·
    refine gS [] [] 54 [(4, vp 4 0), (5, vc (i6 20))] [(4, AObj.row [.s (slT l)])] trivial ?_
    exact gT (AV.tup [TV.agg [.s (slT l)], tc (i6 20)]) (by rw [show makeT l t = (l, 20) from by first | exact make_1 (by assumption) | exact make_2 (by omega) (by assumption) | exact make_3 (by omega) (by assumption) (by assumption) | exact make_4 (by omega) (by assumption) (by assumption) (by omega) | exact make_5 (by omega) (by assumption) (by assumption) (by omega) (by first | assumption | (rw [(at_loc hs (by assumption)).1]; assumption)) | exact make_0 (by omega) (by assumption) (by assumption) (by omega) (by first | assumption | (rw [(at_loc hs (by assumption)).1]; assumption))])
   ·
    refine AMx.skip ?_
    refine gS [(3, CE.call [] [] (AV.tup [tc (i6 (locT l t.2.1 : Int)), tc (bo (decide (0 ≤ findT l t.2.1)))]) [])] [Spec Tryz.prog 45 [TV.agg [.s (slT l)], tc (st t.2.1)] (ofH []) (AV.tup [tc (i6 (locT l t.2.1 : Int)), tc (bo (decide (0 ≤ findT l t.2.1)))]) (ofH [])] 54 [(2, vp 2 0), (3, vp 3 0), (4, vp 4 0), (9, vc (i6 (locT l t.2.1 : Int))), (10, vc (bo (decide (0 ≤ findT l t.2.1))))] [(2, AObj.row [.s (slT l)]), (3, AObj.row [.s (st t.1), .s (st t.2.1), .s (AL.Policy.slP t.2.2)]), (4, AObj.row [.s (SC.nilsl)])] (find_c l t.2.1 (by assumption) (by first | omega | (have z := check_le (t := t) (by omega); omega) | (have z := at_loc hs (by assumption); omega))) ?_
    refine gQ ?_
    refine gS [] [] 54 [(2, vp 2 0), (3, vp 3 0), (4, vp 4 0), (9, vc (i6 (locT l t.2.1 : Int))), (38, vc (bo (!(decide (0 ≤ findT l t.2.1)))))] [(2, AObj.row [.s (slT l)]), (3, AObj.row [.s (st t.1), .s (st t.2.1), .s (AL.Policy.slP t.2.2)]), (4, AObj.row [.s (SC.nilsl)])] trivial ?_
    refine gB (!(decide (0 ≤ findT l t.2.1))) (fun hc4 => ?_) fun hc4 => ?_
    ·
     try simp only [xT, xF, xN, xM] at hc4
     refine gS [] [] 54 [(4, vp 4 0), (5, vc (i6 6))] [(4, AObj.row [.s (slT l)])] trivial ?_
     exact gT (AV.tup [TV.agg [.s (slT l)], tc (i6 6)]) (by rw [show makeT l t = (l, 6) from by first | exact make_1 (by assumption) | exact make_2 (by omega) (by assumption) | exact make_3 (by omega) (by assumption) (by assumption) | exact make_4 (by omega) (by assumption) (by assumption) (by omega) | exact make_5 (by omega) (by assumption) (by assumption) (by omega) (by first | assumption | (rw [(at_loc hs (by assumption)).1]; assumption)) | exact make_0 (by omega) (by assumption) (by assumption) (by omega) (by first | assumption | (rw [(at_loc hs (by assumption)).1]; assumption))])
    ·
     try simp only [xT, xF, xN, xM] at hc4
     refine AMx.skip ?_
     refine gQ ?_
     refine gY [(8, CE.call [] [] (vc (bo (Policy.coversS t.2.2 ((List.getD l (locT l t.2.1) tokd).2.2)))) [])] [(1, [3]), (3, [2])] [(0 : Int) ≤ (locT l t.2.1 : Int), (locT l t.2.1 : Int) < List.length l, Spec Tryz.prog 28 [tc (AL.Policy.slP t.2.2), tc (AL.Policy.slP ((List.getD l (locT l t.2.1) tokd).2.2))] (ofH []) (vc (bo (Policy.coversS t.2.2 ((List.getD l (locT l t.2.1) tokd).2.2)))) (ofH [])] 54 [(2, vp 2 0), (3, vp 3 0), (4, vp 4 0), (49, vc (bo (!(Policy.coversS t.2.2 ((List.getD l (locT l t.2.1) tokd).2.2)))))] [(2, AObj.row [.s (slT l)]), (3, AObj.row [.s (st t.1), .s (st t.2.1), .s (AL.Policy.slP t.2.2)]), (4, AObj.row [.s (SC.nilsl)])] mixed ⟨(by first | omega | (have z := check_le (t := t) (by omega); omega) | (have z := at_loc hs (by assumption); omega)), (by first | omega | (have z := check_le (t := t) (by omega); omega) | (have z := at_loc hs (by assumption); omega)), (Policy.Covers_c t.2.2 ((List.getD l (locT l t.2.1) tokd).2.2))⟩ ?_
     refine gB (!(Policy.coversS t.2.2 ((List.getD l (locT l t.2.1) tokd).2.2))) (fun hc5 => ?_) fun hc5 => ?_
     ·
      try simp only [xT, xF, xN, xM] at hc5
      refine gS [] [] 54 [(4, vp 4 0), (5, vc (i6 13))] [(4, AObj.row [.s (slT l)])] trivial ?_
      exact gT (AV.tup [TV.agg [.s (slT l)], tc (i6 13)]) (by rw [show makeT l t = (l, 13) from by first | exact make_1 (by assumption) | exact make_2 (by omega) (by assumption) | exact make_3 (by omega) (by assumption) (by assumption) | exact make_4 (by omega) (by assumption) (by assumption) (by omega) | exact make_5 (by omega) (by assumption) (by assumption) (by omega) (by first | assumption | (rw [(at_loc hs (by assumption)).1]; assumption)) | exact make_0 (by omega) (by assumption) (by assumption) (by omega) (by first | assumption | (rw [(at_loc hs (by assumption)).1]; assumption))])
     ·
      try simp only [xT, xF, xN, xM] at hc5
      refine AMx.skip ?_
      refine gS [(2, CE.call [] [] (AV.t (TV.agg [.s (slT (intoT l t))])) [])] [Spec Tryz.prog 53 [TV.agg [.s (slT l)], TV.agg [.s (st t.1), .s (st t.2.1), .s (AL.Policy.slP t.2.2)]] (ofH []) (AV.t (TV.agg [.s (slT (intoT l t))])) (ofH [])] 54 [(4, vp 4 0), (5, vc (i6 0))] [(4, AObj.row [.s (slT (intoT l t))])] (with_c l t (by assumption) (by first | omega | (have z := check_le (t := t) (by omega); omega) | (have z := at_loc hs (by assumption); omega)) (by first | omega | (have z := check_le (t := t) (by omega); omega) | (have z := at_loc hs (by assumption); omega))) ?_
      exact gT (AV.tup [TV.agg [.s (slT (intoT l t))], tc (i6 0)]) (by rw [show makeT l t = ((intoT l t), 0) from by first | exact make_1 (by assumption) | exact make_2 (by omega) (by assumption) | exact make_3 (by omega) (by assumption) (by assumption) | exact make_4 (by omega) (by assumption) (by assumption) (by omega) | exact make_5 (by omega) (by assumption) (by assumption) (by omega) (by first | assumption | (rw [(at_loc hs (by assumption)).1]; assumption)) | exact make_0 (by omega) (by assumption) (by assumption) (by omega) (by first | assumption | (rw [(at_loc hs (by assumption)).1]; assumption))])
end AL.Token
namespace AL.Token
open Go Go.Proofs AL
open AL.Policy (RuleV rowP slP checkP coversS capsP)
set_option linter.unusedVariables false
set_option linter.unusedSimpArgs false
theorem f27_body : Tryz.f27.body = some (.seq (.region 0 (rg Tryz.f27 0) false) (.seq (.region 1 (rg Tryz.f27 1) false) (.seq (.seq (.region 2 (rg Tryz.f27 2) false) (.cond (.tmp 15) (.seq (.region 3 (rg Tryz.f27 3) false) (.ret)) (.skip))) (.seq (.region 4 (rg Tryz.f27 4) false) (.ret))))) := by kernel_rfl
set_option maxRecDepth 100000 in
set_option maxHeartbeats 8000000 in
theorem Find_c (l : List TokV) (n : Bytes) (hs : SortT l) (hb : l.length ≤ 100000) (hr : ∀ x ∈ l, x.2.2.length ≤ 100000) : Pure Tryz.prog 27 [TV.agg [.s (slT l)], tc (st n)] (AV.tup [TV.agg [.s (st (((findR l n).1).1)), .s (st (((findR l n).1).2.1)), .s (AL.Policy.slP (((findR l n).1).2.2))], tc (bo ((findR l n).2))]) := by
 refine Pure.of_body Tryz.func27 f27_body (by kernel_rfl) Tryz.ntmps27 (by kernel_rfl) (by kernel_rfl) ?_
 refine gS [] [] 23 [(1, vc (st n)), (2, vp 2 0), (4, vp 4 0)] [(2, AObj.row [.s (slT l)]), (4, AObj.row [.s (st []), .s (st []), .s (SC.nilsl)])] trivial ?_
 refine gS [(2, CE.call [] [] (AV.tup [tc (i6 (locT l n : Int)), tc (bo (decide (0 ≤ findT l n)))]) [])] [Spec Tryz.prog 45 [TV.agg [.s (slT l)], tc (st n)] (ofH []) (AV.tup [tc (i6 (locT l n : Int)), tc (bo (decide (0 ≤ findT l n)))]) (ofH [])] 23 [(2, vp 2 0), (4, vp 4 0), (6, vc (i6 (locT l n : Int))), (7, vc (bo (decide (0 ≤ findT l n))))] [(2, AObj.row [.s (slT l)]), (4, AObj.row [.s (st []), .s (st []), .s (SC.nilsl)])] (find_c l n (by assumption) (by first | omega | (have z := at_loc hs (by assumption); first | omega | exact hr _ (Lib.getD_mem tokd l _ z.2)))) ?_
 refine gQ ?_
 refine gS [] [] 23 [(2, vp 2 0), (4, vp 4 0), (6, vc (i6 (locT l n : Int))), (15, vc (bo (!(decide (0 ≤ findT l n)))))] [(2, AObj.row [.s (slT l)]), (4, AObj.row [.s (st []), .s (st []), .s (SC.nilsl)])] trivial ?_
 refine gB (!(decide (0 ≤ findT l n))) (fun hc1 => ?_) fun hc1 => ?_
 ·
  try simp only [xT, xF, xN, xM] at hc1
  refine gS [] [] 23 [(4, vp 4 0), (5, vc (bo false))] [(4, AObj.row [.s (st []), .s (st []), .s (SC.nilsl)])] trivial ?_
  refine AMx.ent (ent_row 4 (l := [.s (st []), .s (st []), .s (SC.nilsl)]) (m := [.s (st []), .s (st []), .s (AL.Policy.slP [])]) (by kernel_rfl) ⟨AC.le_rfl, AC.le_rfl, AC.le_nil, trivial⟩) ?_
  exact gT (AV.tup [TV.agg [.s (st []), .s (st []), .s (AL.Policy.slP [])], tc (bo false)]) (by rw [show findR l n = ((([], [], []) : TokV), false) from by unfold findR; first | (rw [if_pos (by omega)]; done) | (rw [if_pos (by omega)]; rfl) | rw [if_neg (by omega), (at_loc hs (by assumption)).1]])
 ·
  try simp only [xT, xF, xN, xM] at hc1
  refine AMx.skip ?_
  refine gS [(5, CE.call [] [] (AV.t (TV.agg [.s (st ((List.getD l (locT l n) tokd).1)), .s (st ((List.getD l (locT l n) tokd).2.1)), .s (AL.Policy.slP ((List.getD l (locT l n) tokd).2.2))])) [])] [(0 : Int) ≤ (locT l n : Int), (locT l n : Int) < List.length l, Spec Tryz.prog 58 [TV.agg [.s (st ((List.getD l (locT l n) tokd).1)), .s (st ((List.getD l (locT l n) tokd).2.1)), .s (AL.Policy.slP ((List.getD l (locT l n) tokd).2.2))]] (ofH []) (AV.t (TV.agg [.s (st ((List.getD l (locT l n) tokd).1)), .s (st ((List.getD l (locT l n) tokd).2.1)), .s (AL.Policy.slP ((List.getD l (locT l n) tokd).2.2))])) (ofH [])] 23 [(4, vp 4 0), (5, vc (bo true))] [(4, AObj.row [.s (st ((List.getD l (locT l n) tokd).1)), .s (st ((List.getD l (locT l n) tokd).2.1)), .s (AL.Policy.slP ((List.getD l (locT l n) tokd).2.2))])] ⟨(by first | omega | (have z := at_loc hs (by assumption); first | omega | exact hr _ (Lib.getD_mem tokd l _ z.2))), (by first | omega | (have z := at_loc hs (by assumption); first | omega | exact hr _ (Lib.getD_mem tokd l _ z.2))), (copied_c (List.getD l (locT l n) tokd) (by first | omega | (have z := at_loc hs (by assumption); first | omega | exact hr _ (Lib.getD_mem tokd l _ z.2))))⟩ ?_
  exact gT (AV.tup [TV.agg [.s (st ((List.getD l (locT l n) tokd).1)), .s (st ((List.getD l (locT l n) tokd).2.1)), .s (AL.Policy.slP ((List.getD l (locT l n) tokd).2.2))], tc (bo true)]) (by rw [show findR l n = ((List.getD l (locT l n) tokd), true) from by unfold findR; first | (rw [if_pos (by omega)]; done) | (rw [if_pos (by omega)]; rfl) | rw [if_neg (by omega), (at_loc hs (by assumption)).1]])
theorem f23_body : Tryz.f23.body = some (.seq (.region 0 (rg Tryz.f23 0) false) (.seq (.region 1 (rg Tryz.f23 1) false) (.seq (.seq (.region 2 (rg Tryz.f23 2) false) (.cond (.tmp 16) (.seq (.region 3 (rg Tryz.f23 3) false) (.ret)) (.skip))) (.seq (.region 4 (rg Tryz.f23 4) false) (.ret))))) := by kernel_rfl
set_option maxRecDepth 100000 in
set_option maxHeartbeats 8000000 in
theorem Caps_c (l : List TokV) (n p : Bytes) (hs : SortT l) (hb : l.length ≤ 100000) (hr : ∀ x ∈ l, x.2.2.length ≤ 100000) : Pure Tryz.prog 23 [TV.agg [.s (slT l)], tc (st n), tc (st p)] (vc (u8 (capsR l n p))) := by
 refine Pure.of_body Tryz.func23 f23_body (by kernel_rfl) Tryz.ntmps23 (by kernel_rfl) (by kernel_rfl) ?_
 refine gS [] [] 25 [(1, vc (st n)), (2, vc (st p)), (3, vp 3 0)] [(3, AObj.row [.s (slT l)])] trivial ?_
 refine gS [(2, CE.call [] [] (AV.tup [tc (i6 (locT l n : Int)), tc (bo (decide (0 ≤ findT l n)))]) [])] [Spec Tryz.prog 45 [TV.agg [.s (slT l)], tc (st n)] (ofH []) (AV.tup [tc (i6 (locT l n : Int)), tc (bo (decide (0 ≤ findT l n)))]) (ofH [])] 25 [(2, vc (st p)), (3, vp 3 0), (7, vc (i6 (locT l n : Int))), (8, vc (bo (decide (0 ≤ findT l n))))] [(3, AObj.row [.s (slT l)])] (find_c l n (by assumption) (by first | omega | (have z := at_loc hs (by assumption); first | omega | exact hr _ (Lib.getD_mem tokd l _ z.2)))) ?_
 refine gQ ?_
 refine gS [] [] 25 [(2, vc (st p)), (3, vp 3 0), (7, vc (i6 (locT l n : Int))), (16, vc (bo (!(decide (0 ≤ findT l n)))))] [(3, AObj.row [.s (slT l)])] trivial ?_
 refine gB (!(decide (0 ≤ findT l n))) (fun hc1 => ?_) fun hc1 => ?_
 ·
  try simp only [xT, xF, xN, xM] at hc1
  refine gS [] [] 25 [(6, vc (u8 0))] [] trivial ?_
  exact gT (vc (u8 0)) (by rw [show capsR l n p = 0 from by unfold capsR; first | rw [if_pos (by omega)] | rw [if_neg (by omega), (at_loc hs (by assumption)).1]])
 ·
  try simp only [xT, xF, xN, xM] at hc1
  refine AMx.skip ?_
  refine gS [(7, CE.call [] [] (vc (u8 (Policy.capsP ((List.getD l (locT l n) tokd).2.2) p))) [])] [(0 : Int) ≤ (locT l n : Int), (locT l n : Int) < List.length l, Spec Tryz.prog 56 [tc (AL.Policy.slP ((List.getD l (locT l n) tokd).2.2)), tc (st p)] (ofH []) (vc (u8 (Policy.capsP ((List.getD l (locT l n) tokd).2.2) p))) (ofH [])] 25 [(6, vc (u8 (Policy.capsP ((List.getD l (locT l n) tokd).2.2) p)))] [] ⟨(by first | omega | (have z := at_loc hs (by assumption); first | omega | exact hr _ (Lib.getD_mem tokd l _ z.2))), (by first | omega | (have z := at_loc hs (by assumption); first | omega | exact hr _ (Lib.getD_mem tokd l _ z.2))), (Policy.Caps_c ((List.getD l (locT l n) tokd).2.2) p (by first | omega | (have z := at_loc hs (by assumption); first | omega | exact hr _ (Lib.getD_mem tokd l _ z.2))))⟩ ?_
  exact gT (vc (u8 (Policy.capsP ((List.getD l (locT l n) tokd).2.2) p))) (by rw [show capsR l n p = Policy.capsP ((List.getD l (locT l n) tokd).2.2) p from by unfold capsR; first | rw [if_pos (by omega)] | rw [if_neg (by omega), (at_loc hs (by assumption)).1]])
theorem f26_body : Tryz.f26.body = some (.seq (.region 0 (rg Tryz.f26 0) false) (.seq (.region 1 (rg Tryz.f26 1) false) (.seq (.seq (.region 2 (rg Tryz.f26 2) false) (.block 0 (.loop (.seq (.region 3 (rg Tryz.f26 3) false) (.seq (.cond (.tmp 10) (.skip) (.exit 0)) (.seq (.block 1 (.seq (.region 4 (rg Tryz.f26 4) false) (.region 5 (rg Tryz.f26 5) false))) (.region 6 (rg Tryz.f26 6) false))))))) (.seq (.region 7 (rg Tryz.f26 7) false) (.ret))))) := by kernel_rfl
set_option maxRecDepth 100000 in
set_option maxHeartbeats 8000000 in
theorem Names_c (l : List TokV) (hb : l.length ≤ 100000) : Pure Tryz.prog 26 [TV.agg [.s (slT l)]] (vc (AL.Fnv.slS (namesT l))) := by
 refine Pure.of_body Tryz.func26 f26_body (by kernel_rfl) Tryz.ntmps26 (by kernel_rfl) (by kernel_rfl) ?_
 refine gS [] [] 20 [(1, vp 1 0)] [(1, AObj.row [.s (slT l)])] trivial ?_
 refine gS [] [] 20 [(1, vp 1 0), (3, vc (SC.nilsl))] [(1, AObj.row [.s (slT l)])] trivial ?_
 refine gQ ?_
 refine gS [] [] 20 [(3, vc (SC.nilsl)), (7, vc (slT l)), (8, vc (i6 (List.length l : Int))), (9, vc (i6 0))] [] trivial ?_
 refine AMx.block ?_
 refine AMx.ent (s' := AS.lst 20 [(3, vo 3), (7, vc (slT l)), (8, vc (i6 (List.length l : Int))), (9, vc (i6 0))] [(3, AObj.grow 9 1 Bytes [] AL.Fnv.rowS [])]) (ent_adopt (t := 3) (d := 3) 9 1 Bytes [] AL.Fnv.rowS (by kernel_rfl) (by kernel_rfl) (by kernel_rfl) (by kernel_rfl)) ?_
 refine AMx.ent (s' := AS.lst 20 [(3, vo 3), (7, vc (slT l)), (8, vc (i6 (List.length l : Int))), (9, vc (i6 0))] [(3, AObj.grow 9 1 Bytes [] AL.Fnv.rowS [])]) (ent_proj [3, 7, 8, 9] [3]) ?_
 refine AMx.loop (fun mm ss => ∃ (k : Nat), (k ≤ l.length) ∧ mm = l.length - k ∧ ss = AS.lst 20 [(3, vo 3), (7, vc (slT l)), (8, vc (i6 (List.length l : Int))), (9, vc (i6 (k : Int)))] [(3, AObj.grow 9 1 Bytes [] AL.Fnv.rowS (namesT (List.take k l)))]) ⟨0, ?_, rfl, ?_⟩ ?_
 · omega
 · rfl
 rintro mm ss ⟨k, hI, rfl, rfl⟩
 refine gS [] [] 20 [(3, vo 3), (7, vc (slT l)), (8, vc (i6 (List.length l : Int))), (9, vc (i6 (k : Int))), (10, vc (bo (decide ((k : Int) < (List.length l : Int)))))] [(3, AObj.grow 9 1 Bytes [] AL.Fnv.rowS (namesT (List.take k l)))] trivial ?_
 refine gQ ?_
 refine gC ((k : Int) < (List.length l : Int)) (fun hc1 => ?_) fun hc1 => ?_
 ·
  refine AMx.skip ?_
  refine gQ ?_
  refine AMx.block ?_
  refine gS [] [(0 : Int) ≤ (k : Int), (k : Int) < List.length l] 20 [(3, vo 3), (5, vp 5 0), (7, vc (slT l)), (8, vc (i6 (List.length l : Int))), (9, vc (i6 (k : Int)))] [(3, AObj.grow 9 1 Bytes [] AL.Fnv.rowS (namesT (List.take k l))), (5, AObj.row [.s (st ((List.getD l k tokd).1)), .s (st ((List.getD l k tokd).2.1)), .s (AL.Policy.slP ((List.getD l k tokd).2.2))])] ⟨(by first | omega | (simp only [List.length_append, List.length_cons, List.length_nil, names_len, List.length_take]; omega)), (show (k : Int) < List.length l from (by first | omega | (simp only [List.length_append, List.length_cons, List.length_nil, names_len, List.length_take]; omega)))⟩ ?_
  refine gR [(3, CE.obj (AObj.grow 9 1 Bytes [] AL.Fnv.rowS [(List.getD l k tokd).1])), (4, CE.obj (AObj.grow 9 1 Bytes [] AL.Fnv.rowS ((namesT (List.take k l)) ++ [(List.getD l k tokd).1])))] [flat 1 AL.Fnv.rowS [(List.getD l k tokd).1] = [.s (st ((List.getD l k tokd).1))], List.length ([(List.getD l k tokd).1] : List Bytes) = 1, AppC (flat 1 AL.Fnv.rowS [(List.getD l k tokd).1]) (List.length ([(List.getD l k tokd).1] : List Bytes)) 16 (AObj.grow 9 1 Bytes [] AL.Fnv.rowS (namesT (List.take k l))) (AObj.grow 9 1 Bytes [] AL.Fnv.rowS ((namesT (List.take k l)) ++ [(List.getD l k tokd).1]))] 20 [(3, vo 17), (7, vc (slT l)), (8, vc (i6 (List.length l : Int))), (9, vc (i6 (k : Int)))] [(17, AObj.grow 9 1 Bytes [] AL.Fnv.rowS ((namesT (List.take k l)) ++ [(List.getD l k tokd).1]))] ⟨rfl, rfl, (⟨_, rfl, rfl, rfl, by simp only [List.length_append, List.length_cons, List.length_nil, names_len, List.length_take]; omega, by simp only [maxLen, List.length_append, List.length_cons, List.length_nil, names_len, List.length_take]; omega⟩)⟩ ?_
  refine AMx.blk ?_
  refine gR [] [InR .i64 ((k : Int) + 1)] 20 [(3, vo 17), (7, vc (slT l)), (8, vc (i6 (List.length l : Int))), (9, vc (i6 ((k : Int) + 1)))] [(17, AObj.grow 9 1 Bytes [] AL.Fnv.rowS ((namesT (List.take k l)) ++ [(List.getD l k tokd).1]))] (show InR .i64 ((k : Int) + 1) from (inR64 (by first | omega | (simp only [List.length_append, List.length_cons, List.length_nil, names_len, List.length_take]; omega)) (by first | omega | (simp only [List.length_append, List.length_cons, List.length_nil, names_len, List.length_take]; omega)))) ?_
  refine AMx.ent_inv (s' := AS.lst 20 [(3, vo 3), (7, vc (slT l)), (8, vc (i6 (List.length l : Int))), (9, vc (i6 ((k : Int) + 1)))] [(3, AObj.grow 9 1 Bytes [] AL.Fnv.rowS ((namesT (List.take k l)) ++ [(List.getD l k tokd).1]))]) (ent_swap 17 3 (by kernel_rfl) (by kernel_rfl)) ?_
  refine AMx.ent_inv (s' := AS.lst 20 [(3, vo 3), (7, vc (slT l)), (8, vc (i6 (List.length l : Int))), (9, vc (i6 ((k : Int) + 1)))] [(3, AObj.grow 9 1 Bytes [] AL.Fnv.rowS ((namesT (List.take k l)) ++ [(List.getD l k tokd).1]))]) (ent_proj [3, 7, 8, 9] [3]) ?_
  refine AMx.inv ⟨_, ?_, k + 1, ?_, rfl, ?_⟩
  rotate_left
  · omega
  · rw [names_step l k (by omega)]; rfl
  · omega
 ·
  refine AMx.exit ?_
  refine AMx.code_exit ?_
  refine AMx.inv_exit ?_
  refine AMx.blk_exit ?_
  rw [show List.take k l = l from List.take_of_length_le (by omega)]
  refine gS [] [] 20 [(2, vo 3)] [(3, AObj.grow 9 1 Bytes [] AL.Fnv.rowS (namesT l))] trivial ?_
  refine AMx.ent (s' := AS.lst 20 [(2, vc (AL.Fnv.slS (namesT l)))] []) (ent_freeze (id := 3) (T := 9) (by kernel_rfl)) ?_
  exact gT (vc (AL.Fnv.slS (namesT l))) rfl
theorem f52_body : Tryz.f52.body = some (.seq (.region 0 (rg Tryz.f52 0) false) (.seq (.region 1 (rg Tryz.f52 1) false) (.ret))) := by kernel_rfl
set_option maxRecDepth 100000 in
set_option maxHeartbeats 8000000 in
theorem same_c (a b : TokV) : Pure Tryz.prog 52 [TV.agg [.s (st a.1), .s (st a.2.1), .s (AL.Policy.slP a.2.2)], TV.agg [.s (st b.1), .s (st b.2.1), .s (AL.Policy.slP b.2.2)]] (vc (bo (decide (a = b)))) := by
 refine Pure.of_body Tryz.func52 f52_body (by kernel_rfl) Tryz.ntmps52 (by kernel_rfl) (by kernel_rfl) ?_
 refine gS [] [] 24 [(2, vp 2 0), (3, vp 3 0)] [(2, AObj.row [.s (st a.1), .s (st a.2.1), .s (AL.Policy.slP a.2.2)]), (3, AObj.row [.s (st b.1), .s (st b.2.1), .s (AL.Policy.slP b.2.2)])] trivial ?_
 refine gS [(17, CE.call [] [] (vc (bo (decide (a.2.2 = b.2.2)))) [])] [((decide (a.1 = b.1)) = true) → allP [(decide (a.1 = b.1)) = true], ((decide (a.1 = b.1)) = true) → allP [(decide (a.1 = b.1)) = true], ((decide (a.1 = b.1)) = true) → allP [(decide (a.1 = b.1)) = true, (decide (a.1 = b.1)) = true], (decide (a.1 = b.1)) = true → allP [(decide (a.1 = b.1)) = true], (((decide (a.1 = b.1)) && (decide (a.2.1 = b.2.1))) = true) → allP [((decide (a.1 = b.1)) && (decide (a.2.1 = b.2.1))) = true], (((decide (a.1 = b.1)) && (decide (a.2.1 = b.2.1))) = true) → allP [((decide (a.1 = b.1)) && (decide (a.2.1 = b.2.1))) = true], (((decide (a.1 = b.1)) && (decide (a.2.1 = b.2.1))) = true) → allP [((decide (a.1 = b.1)) && (decide (a.2.1 = b.2.1))) = true, ((decide (a.1 = b.1)) && (decide (a.2.1 = b.2.1))) = true, Spec Tryz.prog 29 [tc (AL.Policy.slP a.2.2), tc (AL.Policy.slP b.2.2)] (ofH []) (vc (bo (decide (a.2.2 = b.2.2)))) (ofH [])], ((decide (a.1 = b.1)) && (decide (a.2.1 = b.2.1))) = true → allP [((decide (a.1 = b.1)) && (decide (a.2.1 = b.2.1))) = true]] 24 [(4, vc (bo (((decide (a.1 = b.1)) && (decide (a.2.1 = b.2.1))) && (decide (a.2.2 = b.2.2)))))] [] ⟨(fun hp => hp), (fun hp => hp), (fun hp => ⟨hp, hp⟩), (fun hp2 => (by first | exact hp2 | exact ⟨hp, hp2⟩)), (fun hp => hp), (fun hp => hp), (fun hp => by have hq := hp; (try simp only [xT, xF, xA, xO, xB, xP, xN, xM, Bool.not_eq_true, Bool.not_eq_false] at hq); exact ⟨hp, hp, (Policy.Same_c a.2.2 b.2.2)⟩), (fun hp2 => (by first | exact hp2 | exact ⟨hp, hp2⟩))⟩ ?_
 exact gT (vc (bo (((decide (a.1 = b.1)) && (decide (a.2.1 = b.2.1))) && (decide (a.2.2 = b.2.2))))) (by rw [same_tok])
theorem f51_body : Tryz.f51.body = some (.seq (.region 0 (rg Tryz.f51 0) false) (.seq (.seq (.region 1 (rg Tryz.f51 1) false) (.cond (.tmp 14) (.seq (.region 2 (rg Tryz.f51 2) false) (.ret)) (.skip))) (.seq (.seq (.region 3 (rg Tryz.f51 3) false) (.block 0 (.loop (.seq (.region 4 (rg Tryz.f51 4) false) (.seq (.cond (.tmp 18) (.skip) (.exit 0)) (.seq (.block 1 (.seq (.region 5 (rg Tryz.f51 5) false) (.seq (.region 6 (rg Tryz.f51 6) false) (.seq (.region 7 (rg Tryz.f51 7) false) (.cond (.tmp 30) (.seq (.region 8 (rg Tryz.f51 8) false) (.ret)) (.skip)))))) (.region 9 (rg Tryz.f51 9) false))))))) (.seq (.region 10 (rg Tryz.f51 10) false) (.ret))))) := by kernel_rfl
set_option maxRecDepth 100000 in
set_option maxHeartbeats 8000000 in
theorem EqualT_c (a b : List TokV) : Pure Tryz.prog 51 [tc (slT a), tc (slT b), TV.c (.fn 52 [])] (vc (bo (decide (a = b)))) := by
 refine Pure.of_body Tryz.func51 f51_body (by kernel_rfl) Tryz.ntmps51 (by kernel_rfl) (by kernel_rfl) ?_
 refine AMx.sl 0 (l := a) rfl (fun hl => ?_)
 simp only [maxLen] at hl
 refine gS [] [] 32 [(0, vc (slT a)), (1, vc (slT b)), (2, AV.t (TV.c (.fn 52 [])))] [] trivial ?_
 refine gQ ?_
 refine gS [] [] 32 [(0, vc (slT a)), (1, vc (slT b)), (2, AV.t (TV.c (.fn 52 []))), (14, vc (bo (!decide ((List.length a : Int) = (List.length b : Int)))))] [] trivial ?_
 refine gN ((List.length a : Int) = (List.length b : Int)) (fun hc1 => ?_) fun hc1 => ?_
 ·
  refine gS [] [] 32 [(6, vc (bo false))] [] trivial ?_
  exact gT (vc (bo false)) (by rw [decide_eq_false (fun h => by subst h; simp_all)])
 ·
  refine AMx.skip ?_
  refine gQ ?_
  refine gS [] [] 32 [(1, vc (slT b)), (2, AV.t (TV.c (.fn 52 []))), (15, vc (slT a)), (16, vc (i6 (List.length a : Int))), (17, vc (i6 0))] [] trivial ?_
  refine AMx.block ?_
  refine AMx.ent (s' := AS.lst 32 [(1, vc (slT b)), (2, AV.t (TV.c (.fn 52 []))), (15, vc (slT a)), (16, vc (i6 (List.length a : Int))), (17, vc (i6 0))] []) (ent_proj [1, 2, 15, 16, 17] []) ?_
  refine AMx.loop (fun mm ss => ∃ (i : Nat), (i ≤ a.length ∧ List.take i a = List.take i b) ∧ mm = a.length - i ∧ ss = AS.lst 32 [(1, vc (slT b)), (2, AV.t (TV.c (.fn 52 []))), (15, vc (slT a)), (16, vc (i6 (List.length a : Int))), (17, vc (i6 (i : Int)))] []) ⟨0, ?_, rfl, ?_⟩ ?_
  · exact ⟨by omega, rfl⟩
  · rfl
  rintro mm ss ⟨i, ⟨hI, hE⟩, rfl, rfl⟩
  refine gS [] [] 32 [(1, vc (slT b)), (2, AV.t (TV.c (.fn 52 []))), (15, vc (slT a)), (16, vc (i6 (List.length a : Int))), (17, vc (i6 (i : Int))), (18, vc (bo (decide ((i : Int) < (List.length a : Int)))))] [] trivial ?_
  refine gQ ?_
  refine gC ((i : Int) < (List.length a : Int)) (fun hc2 => ?_) fun hc2 => ?_
  ·
   refine AMx.skip ?_
   refine gQ ?_
   refine AMx.block ?_
   refine gS [] [(0 : Int) ≤ (i : Int), (i : Int) < List.length a] 32 [(1, vc (slT b)), (2, AV.t (TV.c (.fn 52 []))), (7, vc (i6 (i : Int))), (8, vp 8 0), (15, vc (slT a)), (16, vc (i6 (List.length a : Int))), (17, vc (i6 (i : Int)))] [(8, AObj.row [.s (st ((List.getD a i tokd).1)), .s (st ((List.getD a i tokd).2.1)), .s (AL.Policy.slP ((List.getD a i tokd).2.2))])] ⟨(by omega), (show (i : Int) < List.length a from (by omega))⟩ ?_
   refine gS [] [(0 : Int) ≤ (i : Int), (i : Int) < List.length b] 32 [(1, vc (slT b)), (2, AV.t (TV.c (.fn 52 []))), (8, vp 8 0), (9, vp 9 0), (15, vc (slT a)), (16, vc (i6 (List.length a : Int))), (17, vc (i6 (i : Int)))] [(8, AObj.row [.s (st ((List.getD a i tokd).1)), .s (st ((List.getD a i tokd).2.1)), .s (AL.Policy.slP ((List.getD a i tokd).2.2))]), (9, AObj.row [.s (st ((List.getD b i tokd).1)), .s (st ((List.getD b i tokd).2.1)), .s (AL.Policy.slP ((List.getD b i tokd).2.2))])] ⟨(by omega), (show (i : Int) < List.length b from (by omega))⟩ ?_
   refine gS [(3, CE.call [] [] (vc (bo (decide ((List.getD a i tokd) = (List.getD b i tokd))))) [])] [Spec Tryz.prog 52 [TV.agg [.s (st ((List.getD a i tokd).1)), .s (st ((List.getD a i tokd).2.1)), .s (AL.Policy.slP ((List.getD a i tokd).2.2))], TV.agg [.s (st ((List.getD b i tokd).1)), .s (st ((List.getD b i tokd).2.1)), .s (AL.Policy.slP ((List.getD b i tokd).2.2))]] (ofH []) (vc (bo (decide ((List.getD a i tokd) = (List.getD b i tokd))))) (ofH [])] 32 [(1, vc (slT b)), (2, AV.t (TV.c (.fn 52 []))), (15, vc (slT a)), (16, vc (i6 (List.length a : Int))), (17, vc (i6 (i : Int))), (30, vc (bo (!(decide ((List.getD a i tokd) = (List.getD b i tokd))))))] [] (same_c (List.getD a i tokd) (List.getD b i tokd)) ?_
   refine gB (!(decide ((List.getD a i tokd) = (List.getD b i tokd)))) (fun hc3 => ?_) fun hc3 => ?_
   ·
    try simp only [xT, xF, xN, xM] at hc3
    refine gS [] [] 32 [(6, vc (bo false))] [] trivial ?_
    exact gT (vc (bo false)) (by rw [decide_eq_false (fun h => by subst h; simp_all)])
   ·
    try simp only [xT, xF, xN, xM] at hc3
    refine AMx.skip ?_
    refine AMx.blk ?_
    refine gR [] [InR .i64 ((i : Int) + 1)] 32 [(1, vc (slT b)), (2, AV.t (TV.c (.fn 52 []))), (15, vc (slT a)), (16, vc (i6 (List.length a : Int))), (17, vc (i6 ((i : Int) + 1)))] [] (show InR .i64 ((i : Int) + 1) from (inR64 (by omega) (by omega))) ?_
    refine AMx.ent_inv (s' := AS.lst 32 [(1, vc (slT b)), (2, AV.t (TV.c (.fn 52 []))), (15, vc (slT a)), (16, vc (i6 (List.length a : Int))), (17, vc (i6 ((i : Int) + 1)))] []) (ent_proj [1, 2, 15, 16, 17] []) ?_
    refine AMx.inv ⟨_, ?_, i + 1, ?_, rfl, ?_⟩
    rotate_left
    · exact ⟨by omega, Lib.same_step tokd a b i (by omega) (by omega) hE (by assumption)⟩
    · rfl
    · omega
  ·
   refine AMx.exit ?_
   refine AMx.code_exit ?_
   refine AMx.inv_exit ?_
   refine AMx.blk_exit ?_
   refine gS [] [] 32 [(6, vc (bo true))] [] trivial ?_
   exact gT (vc (bo true)) (by rw [decide_eq_true (Lib.same_end a b i (by omega) (by omega) hE)])
theorem f19_body : Tryz.f19.body = some (.seq (.region 0 (rg Tryz.f19 0) false) (.seq (.region 1 (rg Tryz.f19 1) false) (.ret))) := by kernel_rfl
set_option maxRecDepth 100000 in
set_option maxHeartbeats 8000000 in
theorem Same_c (a b : List TokV) : Pure Tryz.prog 19 [TV.agg [.s (slT a)], TV.agg [.s (slT b)]] (vc (bo (decide (a = b)))) := by
 refine Pure.of_body Tryz.func19 f19_body (by kernel_rfl) Tryz.ntmps19 (by kernel_rfl) (by kernel_rfl) ?_
 refine gS [] [] 10 [(2, vp 2 0), (3, vp 3 0)] [(2, AObj.row [.s (slT a)]), (3, AObj.row [.s (slT b)])] trivial ?_
 refine gS [(4, CE.call [] [] (vc (bo (decide (a = b)))) [])] [Spec Tryz.prog 51 [tc (slT a), tc (slT b), TV.c (.fn 52 [])] (ofH []) (vc (bo (decide (a = b)))) (ofH [])] 10 [(4, vc (bo (decide (a = b))))] [] (EqualT_c a b) ?_
 exact gT (vc (bo (decide (a = b)))) rfl
end AL.Token
namespace AL
open Go
set_option linter.unusedVariables false
set_option linter.unusedSimpArgs false
abbrev triRow (f : FuncId) (sh : SC) (a c : Nat) : List AC := [.fn f [.ptr a 0, .s sh, .ptr c 0]]
abbrev tri (f : FuncId) (sh : SC) (a e c : Nat) (G : AObj) : List (Nat × AObj) := [(a, .row [.own e]), (e, G), (c, .row (triRow f sh a c))]
theorem ofH3 {i j k : Nat} {x y z : AObj} {id : Nat} {o : AObj} (h : ofH [(i, x), (j, y), (k, z)] id = some o) : (id = i ∧ o = x) ∨ (id = j ∧ o = y) ∨ (id = k ∧ o = z) := by
  simp only [ofH] at h
  by_cases h1 : id = i
  · subst h1; rw [Nat.beq_refl] at h; cases h; exact .inl ⟨rfl, rfl⟩
  · rw [beq_false h1] at h
    by_cases h2 : id = j
    · subst h2; rw [Nat.beq_refl] at h; cases h; exact .inr (.inl ⟨rfl, rfl⟩)
    · rw [beq_false h2] at h
      by_cases h3 : id = k
      · subst h3; rw [Nat.beq_refl] at h; cases h; exact .inr (.inr ⟨rfl, rfl⟩)
      · rw [beq_false h3] at h; cases h
theorem ofH3_1 {i j k : Nat} {x y z : AObj} : ofH [(i, x), (j, y), (k, z)] i = some x := by simp only [ofH]; rw [Nat.beq_refl]; rfl
theorem ofH3_2 {i j k : Nat} {x y z : AObj} (h : i ≠ j) : ofH [(i, x), (j, y), (k, z)] j = some y := by simp only [ofH]; rw [beq_false (Ne.symm h), Nat.beq_refl]; rfl
theorem ofH3_3 {i j k : Nat} {x y z : AObj} (h : i ≠ k) (h2 : j ≠ k) : ofH [(i, x), (j, y), (k, z)] k = some z := by simp only [ofH]; rw [beq_false (Ne.symm h), beq_false (Ne.symm h2), Nat.beq_refl]; rfl
structure TriOk (I : Nat → Prop) (w : World) (ra re rc : Nat) (hE : Value) (f : FuncId) (sh : SC) (G : AObj) : Prop where
  one : ∃ (cs : Array Value) (T : TypeId), w.heap[ra]? = some (.cells cs T (0, 0)) ∧ ∃ v, cs.toList = [v] ∧ v = hE ∧ v.oneCell' = true
  mid : MO ⟨I, fun _ => re, fun _ => hE⟩ w 0 G
  fn : ∃ (cs : Array Value) (T : TypeId), w.heap[rc]? = some (.cells cs T (0, 0)) ∧ ∃ (ks : Array Value) (u : Value), cs.toList = [.func (.func f) #[] ks] ∧ ks.toList = [.pointer (some ⟨ra, 0, none⟩), u, .pointer (some ⟨rc, 0, none⟩)] ∧ MS I w sh u
  la : ra < w.heap.size ∧ ¬ I ra
  lc : rc < w.heap.size ∧ ¬ I rc
  le : hE ≠ .slice none 0 0 → re < w.heap.size ∧ ¬ I re
  nac : ra ≠ rc
  nae : hE ≠ .slice none 0 0 → ra ≠ re ∧ rc ≠ re
  ilt : ∀ b, I b → b < w.heap.size
  glob : GlobOk I w
theorem grow_mid {Γ : Ctx} {w : World} {e : Nat} {G : AObj} (hg : isGrow G = true) : MO Γ w e G ↔ MO ⟨Γ.I, fun _ => Γ.ρ e, fun _ => Γ.η e⟩ w 0 G :=
  ⟨fun h => grow_mo (Γ := Γ) (Γ2 := ⟨Γ.I, fun _ => Γ.ρ e, fun _ => Γ.η e⟩) (d := 0) (id := e) hg rfl rfl rfl h, fun h => grow_mo (Γ := ⟨Γ.I, fun _ => Γ.ρ e, fun _ => Γ.η e⟩) (Γ2 := Γ) (d := e) (id := 0) hg rfl rfl rfl h⟩
theorem grow_fp {Γ : Ctx} {e b : Nat} {G : AObj} (hg : isGrow G = true) : fp Γ e G b ↔ Γ.ρ e = b ∧ Γ.η e ≠ .slice none 0 0 := by
  cases G <;> first | exact Iff.rfl | cases hg
theorem row_fp {Γ : Ctx} {a b : Nat} {l : List AC} : fp Γ a (.row l) b ↔ Γ.ρ a = b := ⟨fun h => h.1, fun h => ⟨h, trivial⟩⟩
section
variable {Γ : Ctx} {w : World} {f : FuncId} {sh : SC} {a e c : Nat} {G : AObj}
theorem tri_of (hg : isGrow G = true) (h1 : a ≠ e) (h2 : a ≠ c) (h3 : e ≠ c) (h : HeapOk Γ (ofH (tri f sh a e c G)) w) : TriOk Γ.I w (Γ.ρ a) (Γ.ρ e) (Γ.ρ c) (Γ.η e) f sh G := by
  have oa : ofH (tri f sh a e c G) a = some (.row [.own e]) := ofH3_1
  have oe : ofH (tri f sh a e c G) e = some G := ofH3_2 h1
  have oc : ofH (tri f sh a e c G) c = some (.row (triRow f sh a c)) := ofH3_3 h2 h3
  refine ⟨?_, (grow_mid hg).1 (h.objs e _ oe), ?_, h.lt a _ _ oa (row_fp.2 rfl), h.lt c _ _ oc (row_fp.2 rfl), fun q => h.lt e _ _ oe ((grow_fp hg).2 ⟨rfl, q⟩), fun q => h2 (h.inj a _ c _ _ oa oc (row_fp.2 rfl) (row_fp.2 q.symm)),
    fun q => ⟨fun z => h1 (h.inj a _ e _ _ oa oe (row_fp.2 rfl) ((grow_fp hg).2 ⟨z.symm, q⟩)), fun z => h3 (h.inj c _ e _ _ oc oe (row_fp.2 rfl) ((grow_fp hg).2 ⟨z.symm, q⟩)).symm⟩, h.ilt, h.glob⟩
  · obtain ⟨cs, T, q1, q2⟩ := h.objs a _ oa
    refine ⟨cs, T, q1, ?_⟩
    revert q2
    cases cs.toList with
    | nil => exact fun q => q.elim
    | cons v l => cases l with
      | nil => exact fun q => ⟨v, rfl, q.1.1, q.1.2⟩
      | cons _ _ => exact fun q => q.2.elim
  · obtain ⟨cs, T, q1, q2⟩ := h.objs c _ oc
    refine ⟨cs, T, q1, ?_⟩
    revert q2
    cases cs.toList with
    | nil => exact fun q => q.elim
    | cons v l => cases l with
      | cons _ _ => exact fun q => q.2.elim
      | nil =>
        rintro ⟨⟨ks, rfl, hk⟩, _⟩
        refine ⟨ks, ?_⟩
        revert hk
        rcases ks.toList with _ | ⟨x, _ | ⟨y, _ | ⟨z, _ | ⟨_, _⟩⟩⟩⟩
        · exact fun q => q.elim
        · exact fun q => q.2.elim
        · exact fun q => q.2.2.elim
        · rintro ⟨k1, k2, k3, _⟩
          obtain rfl : x = .pointer (some ⟨Γ.ρ a, 0, none⟩) := k1
          obtain rfl : z = .pointer (some ⟨Γ.ρ c, 0, none⟩) := k3
          exact ⟨y, rfl, rfl, k2⟩
        · exact fun q => q.2.2.2.elim
theorem tri_to (hg : isGrow G = true) (h1 : a ≠ e) (h2 : a ≠ c) (h3 : e ≠ c) (h : TriOk Γ.I w (Γ.ρ a) (Γ.ρ e) (Γ.ρ c) (Γ.η e) f sh G) : HeapOk Γ (ofH (tri f sh a e c G)) w := by
  refine ⟨fun j o hj => ?_, fun j o b hj hb => ?_, fun j o j' o' b hj hj' hb hb' => ?_, h.ilt, h.glob⟩
  · rcases ofH3 hj with ⟨rfl, rfl⟩ | ⟨rfl, rfl⟩ | ⟨rfl, rfl⟩
    · obtain ⟨cs, T, q1, v, q2, q3, q4⟩ := h.one
      exact ⟨cs, T, q1, by rw [q2]; exact ⟨⟨q3, q4⟩, trivial⟩⟩
    · exact (grow_mid hg).2 h.mid
    · obtain ⟨cs, T, q1, ks, u, q2, q3, q4⟩ := h.fn
      exact ⟨cs, T, q1, by rw [q2]; exact ⟨⟨ks, rfl, by rw [q3]; exact ⟨rfl, q4, rfl, trivial⟩⟩, trivial⟩⟩
  · rcases ofH3 hj with ⟨rfl, rfl⟩ | ⟨rfl, rfl⟩ | ⟨rfl, rfl⟩
    · rw [← row_fp.1 hb]; exact h.la
    · obtain ⟨q1, q2⟩ := (grow_fp hg).1 hb
      rw [← q1]; exact h.le q2
    · rw [← row_fp.1 hb]; exact h.lc
  · rcases ofH3 hj with ⟨rfl, rfl⟩ | ⟨rfl, rfl⟩ | ⟨rfl, rfl⟩ <;> rcases ofH3 hj' with ⟨rfl, rfl⟩ | ⟨rfl, rfl⟩ | ⟨rfl, rfl⟩
    · rfl
    · obtain ⟨q1, q2⟩ := (grow_fp hg).1 hb'
      exact absurd ((row_fp.1 hb).trans q1.symm) (h.nae q2).1
    · exact absurd ((row_fp.1 hb).trans (row_fp.1 hb').symm) h.nac
    · obtain ⟨q1, q2⟩ := (grow_fp hg).1 hb
      exact absurd ((row_fp.1 hb').trans q1.symm) (h.nae q2).1
    · rfl
    · obtain ⟨q1, q2⟩ := (grow_fp hg).1 hb
      exact absurd ((row_fp.1 hb').trans q1.symm) (h.nae q2).2
    · exact absurd ((row_fp.1 hb').trans (row_fp.1 hb).symm) h.nac
    · obtain ⟨q1, q2⟩ := (grow_fp hg).1 hb'
      exact absurd ((row_fp.1 hb).trans q1.symm) (h.nae q2).2
    · rfl
theorem tri_pr (hg : isGrow G = true) (h1 : a ≠ e) (h2 : a ≠ c) (h3 : e ≠ c) {b : Nat} : prOf Γ (ofH (tri f sh a e c G)) w b ↔ b < w.heap.size ∧ Γ.ρ a ≠ b ∧ Γ.ρ c ≠ b ∧ ¬ (Γ.ρ e = b ∧ Γ.η e ≠ .slice none 0 0) := by
  constructor
  · rintro ⟨q1, q2⟩
    exact ⟨q1, fun z => q2 a _ ofH3_1 (row_fp.2 z), fun z => q2 c _ (ofH3_3 h2 h3) (row_fp.2 z), fun z => q2 e _ (ofH3_2 h1) ((grow_fp hg).2 z)⟩
  · rintro ⟨q1, q2, q3, q4⟩
    refine ⟨q1, fun j o hj hb => ?_⟩
    rcases ofH3 hj with ⟨rfl, rfl⟩ | ⟨rfl, rfl⟩ | ⟨rfl, rfl⟩
    · exact q2 (row_fp.1 hb)
    · exact q4 ((grow_fp hg).1 hb)
    · exact q3 (row_fp.1 hb)
end
def RetK (P : Program) (fn : Func) (f : FuncId) (sh : SC) (A C : Nat) (G : AObj) (e : Exit) (s : AS) : Prop :=
  (e = .ret ∨ e = .normal) ∧ ∃ i o, evRes P fn s = some (.tup []) ∧ s.obj A = some (.row [.own i]) ∧ s.obj i = some o ∧ o = G ∧ s.obj C = some (.row (triRow f sh A C)) ∧ Nat.ble s.n A = true ∧ Nat.ble s.n C = true
theorem Rec.of_body {P : Program} {f : FuncId} {fn : Func} {c : Code} {n A E C : Nat} {x sh : SC} {G G' : AObj} (hf : P.funcs[f]? = some fn) (hb : fn.body = some c) (hn : (fn.name == "runtime.NumGoroutine") = false)
    (hnt : fn.ntmps = n) (hle : Nat.ble 4 n = true) (hg : isGrow G = true) (hg' : isGrow G' = true) (hAE : Nat.beq A E = false) (hAC : Nat.beq A C = false) (hEC : Nat.beq E C = false)
    (h : AMx P (RetK P fn f sh A C G') [.code c] .normal (AS.lst n (argRegs 0 [.c (.s x), .c (.ptr A 0), .c (.s sh), .c (.ptr C 0)]) (tri f sh A E C G))) {a e k e' : Nat}
    (h1 : Nat.beq a e = false) (h2 : Nat.beq a k = false) (h3 : Nat.beq e k = false) (h4 : Nat.beq e' a = false) (h5 : Nat.beq e' e = false) (h6 : Nat.beq e' k = false) :
    Spec P f [.c (.s x), .c (.ptr a 0), .c (.s sh), .c (.ptr k 0)] (ofH (tri f sh a e k G)) (.tup []) (ofH (tri f sh a e' k G')) := by
  have hAE := Nat.ne_of_beq_eq_false hAE
  have hAC := Nat.ne_of_beq_eq_false hAC
  have hEC := Nat.ne_of_beq_eq_false hEC
  have h1 := Nat.ne_of_beq_eq_false h1
  have h2 := Nat.ne_of_beq_eq_false h2
  have h3 := Nat.ne_of_beq_eq_false h3
  have h4 := Nat.ne_of_beq_eq_false h4
  have h5 := Nat.ne_of_beq_eq_false h5
  have h6 := Nat.ne_of_beq_eq_false h6
  refine ⟨⟨fn, hf, by rw [hb]; rfl, hn⟩, fun Γ w cargs hh hm => ?_⟩
  refine calls_of_wp hf hb ?_
  have hT := tri_of hg h1 h2 h3 hh
  let Γ1 : Ctx := ⟨Γ.I, fun j => bif Nat.beq j A then Γ.ρ a else bif Nat.beq j E then Γ.ρ e else bif Nat.beq j C then Γ.ρ k else Γ.ρ j, fun j => bif Nat.beq j E then Γ.η e else Γ.η j⟩
  have ra : Γ1.ρ A = Γ.ρ a := by show (bif Nat.beq A A then _ else _) = _; rw [Nat.beq_refl]; rfl
  have re : Γ1.ρ E = Γ.ρ e := by show (bif Nat.beq E A then _ else bif Nat.beq E E then _ else _) = _; rw [beq_false (Ne.symm hAE), Nat.beq_refl]; rfl
  have rc : Γ1.ρ C = Γ.ρ k := by show (bif Nat.beq C A then _ else bif Nat.beq C E then _ else bif Nat.beq C C then _ else _) = _; rw [beq_false (Ne.symm hAC), beq_false (Ne.symm hEC), Nat.beq_refl]; rfl
  have ee : Γ1.η E = Γ.η e := by show (bif Nat.beq E E then _ else _) = _; rw [Nat.beq_refl]; rfl
  have hh1 : HeapOk Γ1 (ofH (tri f sh A E C G)) w := tri_to hg hAE hAC hEC (by rw [ra, re, rc, ee]; exact hT)
  have hm1 : MTs Γ1 w [.c (.s x), .c (.ptr A 0), .c (.s sh), .c (.ptr C 0)] cargs.toList := by
    revert hm
    rcases cargs.toList with _ | ⟨v0, _ | ⟨v1, _ | ⟨v2, _ | ⟨v3, _ | ⟨_, _⟩⟩⟩⟩⟩
    · exact fun q => q.elim
    · exact fun q => q.2.elim
    · exact fun q => q.2.2.elim
    · exact fun q => q.2.2.2.elim
    · rintro ⟨q0, q1, q2, q3, _⟩
      have q1 : v1 = .pointer (some ⟨Γ.ρ a, 0, none⟩) := q1
      have q3 : v3 = .pointer (some ⟨Γ.ρ k, 0, none⟩) := q3
      exact ⟨q0, (show v1 = .pointer (some ⟨Γ1.ρ A, 0, none⟩) by rw [ra]; exact q1), q2, (show v3 = .pointer (some ⟨Γ1.ρ C, 0, none⟩) by rw [rc]; exact q3), trivial⟩
    · exact fun q => q.2.2.2.2.elim
  have hpr : prOf Γ1 (ofH (tri f sh A E C G)) w = prOf Γ (ofH (tri f sh a e k G)) w := by
    funext b
    apply propext
    rw [tri_pr hg hAE hAC hEC, tri_pr hg h1 h2 h3, ra, re, rc, ee]
  have hC := body_start (P := P) (H := tri f sh A E C G) (args := [.c (.s x), .c (.ptr A 0), .c (.s sh), .c (.ptr C 0)]) hnt hle hh1 hm1
  refine wp_mono (h _ _ _ _ hC) ?_
  rintro ex a' w' ⟨s', Γ', ⟨he, i, o, hr, hA, hi, rfl, hCc, hsA, hsC⟩, hC'⟩
  obtain ⟨v, e1, e2, e3⟩ := res_ok (P := P) (fn := fn) hC' hr
  have hpost : a'.defers = [] ∧ ∃ v, (results fn a'.tmps).run P w' = Result.ok v w' ∧ ∃ v_1 Γ', Ending.returned v = .returned v_1 ∧ MV Γ' (ofH (tri f sh a e' k o)) w' (.tup []) v_1 ∧ HeapOk Γ' (ofH (tri f sh a e' k o)) w' ∧
      GOk ⟨w, prOf Γ (ofH (tri f sh a e k G)) w, Γ.I, Γ.ρ, Γ.η, []⟩ Γ' (ofH (tri f sh a e' k o)) w' ∧ Agree (fun id => ofH (tri f sh a e' k o) id ≠ none ∧ ofH (tri f sh a e k G) id = none) Γ Γ' := by
    have iA : A ≠ i := fun q => by subst q; rw [hA] at hi; cases hi; cases hg'
    have iC : i ≠ C := fun q => by subst q; rw [hCc] at hi; cases hi; cases hg'
    have hsub : ∀ id o', ofH (tri f sh A i C o) id = some o' → s'.obj id = some o' := fun id o' q => by
      rcases ofH3 q with ⟨rfl, rfl⟩ | ⟨rfl, rfl⟩ | ⟨rfl, rfl⟩
      · exact hA
      · exact hi
      · exact hCc
    have hT' := tri_of hg' iA hAC iC (heap_sub hC'.heap hsub)
    have hgo := hC'.g.sub_obj hsub
    have ra2 : Γ'.ρ A = Γ.ρ a := ((hC'.ids A (Nat.le_of_ble_eq_true hsA)).1).trans ra
    have rc2 : Γ'.ρ C = Γ.ρ k := ((hC'.ids C (Nat.le_of_ble_eq_true hsC)).1).trans rc
    let Γ2 : Ctx := ⟨Γ'.I, fun j => bif Nat.beq j e' then Γ'.ρ i else Γ.ρ j, fun j => bif Nat.beq j e' then Γ'.η i else Γ.η j⟩
    have sa : Γ2.ρ a = Γ'.ρ A := by rw [ra2]; show (bif Nat.beq a e' then _ else _) = _; rw [beq_false (Ne.symm h4)]; rfl
    have sc : Γ2.ρ k = Γ'.ρ C := by rw [rc2]; show (bif Nat.beq k e' then _ else _) = _; rw [beq_false (Ne.symm h6)]; rfl
    have se : Γ2.ρ e' = Γ'.ρ i := by show (bif Nat.beq e' e' then _ else _) = _; rw [Nat.beq_refl]; rfl
    have sη : Γ2.η e' = Γ'.η i := by show (bif Nat.beq e' e' then _ else _) = _; rw [Nat.beq_refl]; rfl
    rw [hpr] at hgo
    refine ⟨hC'.defers, v, e1, v, Γ2, rfl, ?_, tri_to hg' (Ne.symm h4) h2 h6 (by rw [sa, sc, se, sη]; exact hT'),
      ⟨hgo.os, hgo.tape, hgo.output, hgo.size, hgo.prlt, hgo.keep, hgo.sub, hgo.bak, fun j o' b hj hb => ?_⟩, fun j hj => ?_⟩
    · obtain ⟨vs, q1, q2⟩ := e2
      refine ⟨vs, q1, ?_⟩
      revert q2
      cases vs.toList with
      | nil => exact fun _ => trivial
      | cons x l => exact fun h => h.elim
    · rcases ofH3 hj with ⟨rfl, rfl⟩ | ⟨rfl, rfl⟩ | ⟨rfl, rfl⟩
      · exact hgo.own A _ b ofH3_1 (row_fp.2 (sa ▸ row_fp.1 hb))
      · exact hgo.own i _ b (ofH3_2 iA) ((grow_fp hg').2 (by have := (grow_fp hg').1 hb; rwa [se, sη] at this))
      · exact hgo.own C _ b (ofH3_3 hAC iC) (row_fp.2 (sc ▸ row_fp.1 hb))
    · have hne : j ≠ e' := fun q => by
        subst q
        refine hj ⟨by rw [ofH3_2 (Ne.symm h4)]; simp, ?_⟩
        simp only [ofH]
        rw [beq_false h4, beq_false h5, beq_false h6]; rfl
      refine ⟨?_, ?_⟩
      · show (bif Nat.beq j e' then _ else _) = _; rw [beq_false hne]; rfl
      · show (bif Nat.beq j e' then _ else _) = _; rw [beq_false hne]; rfl
  rcases he with rfl | rfl
  · exact hpost
  · exact hpost
end AL
namespace AL.Token
open Go Go.Proofs AL
open AL.Policy (RuleV rowP slP checkP coversS capsP)
set_option linter.unusedVariables false
set_option linter.unusedSimpArgs false
theorem f80_body : Tryz.f80.body = some (.seq (.region 0 (rg Tryz.f80 0) false) (.seq (.seq (.region 1 (rg Tryz.f80 1) false) (.block 0 (.loop (.seq (.region 2 (rg Tryz.f80 2) false) (.seq (.cond (.tmp 9) (.skip) (.exit 0)) (.seq (.block 1 (.seq (.region 3 (rg Tryz.f80 3) false) (.seq (.region 4 (rg Tryz.f80 4) false) (.cond (.tmp 16) (.seq (.region 5 (rg Tryz.f80 5) false) (.ret)) (.skip))))) (.region 6 (rg Tryz.f80 6) false))))))) (.seq (.region 7 (rg Tryz.f80 7) false) (.ret)))) := by kernel_rfl
set_option maxRecDepth 100000 in
set_option maxHeartbeats 8000000 in
theorem IndexS_c (l : List Bytes) (v : Bytes) : Pure Tryz.prog 80 [tc (AL.Fnv.slS l), tc (st v)] (vc (i6 (Lib.idxS (fun y => decide (v = y)) l))) := by
 refine Pure.of_body Tryz.func80 f80_body (by kernel_rfl) Tryz.ntmps80 (by kernel_rfl) (by kernel_rfl) ?_
 refine AMx.sl 0 (l := l) rfl (fun hl => ?_)
 simp only [maxLen] at hl
 refine gS [] [] 19 [(0, vc (AL.Fnv.slS l)), (1, vc (st v))] [] trivial ?_
 refine gQ ?_
 refine gS [] [] 19 [(0, vc (AL.Fnv.slS l)), (1, vc (st v)), (7, vc (i6 (List.length l : Int))), (8, vc (i6 0))] [] trivial ?_
 refine AMx.block ?_
 refine AMx.ent (s' := AS.lst 19 [(0, vc (AL.Fnv.slS l)), (1, vc (st v)), (7, vc (i6 (List.length l : Int))), (8, vc (i6 0))] []) (ent_proj [0, 1, 7, 8] []) ?_
 refine AMx.loop (fun mm ss => ∃ (k : Nat), (k ≤ l.length ∧ ∀ x ∈ List.take k l, (fun y => decide (v = y)) x = false) ∧ mm = l.length - k ∧ ss = AS.lst 19 [(0, vc (AL.Fnv.slS l)), (1, vc (st v)), (7, vc (i6 (List.length l : Int))), (8, vc (i6 (k : Int)))] []) ⟨0, ?_, rfl, ?_⟩ ?_
 · exact ⟨by omega, fun x hx => by simp at hx⟩
 · rfl
 rintro mm ss ⟨k, ⟨hI, hN⟩, rfl, rfl⟩
 refine gS [] [] 19 [(0, vc (AL.Fnv.slS l)), (1, vc (st v)), (7, vc (i6 (List.length l : Int))), (8, vc (i6 (k : Int))), (9, vc (bo (decide ((k : Int) < (List.length l : Int)))))] [] trivial ?_
 refine gQ ?_
 refine gC ((k : Int) < (List.length l : Int)) (fun hc1 => ?_) fun hc1 => ?_
 ·
  refine AMx.skip ?_
  refine gQ ?_
  refine AMx.block ?_
  refine gS [] [] 19 [(0, vc (AL.Fnv.slS l)), (1, vc (st v)), (5, vc (i6 (k : Int))), (7, vc (i6 (List.length l : Int))), (8, vc (i6 (k : Int)))] [] trivial ?_
  refine gS [] [(0 : Int) ≤ (k : Int), (k : Int) < List.length l] 19 [(0, vc (AL.Fnv.slS l)), (1, vc (st v)), (5, vc (i6 (k : Int))), (7, vc (i6 (List.length l : Int))), (8, vc (i6 (k : Int))), (16, vc (bo (decide (v = (List.getD l k [])))))] [] ⟨(by omega), (show (k : Int) < List.length l from (by omega))⟩ ?_
  refine gC (v = (List.getD l k [])) (fun hc2 => ?_) fun hc2 => ?_
  ·
   refine gS [] [] 19 [(4, vc (i6 (k : Int)))] [] trivial ?_
   exact gT (vc (i6 (k : Int))) (by rw [Lib.idx_hit [] l k (by omega) hN (decide_eq_true (by assumption))])
  ·
   refine AMx.skip ?_
   refine AMx.blk ?_
   refine gR [] [InR .i64 ((k : Int) + 1)] 19 [(0, vc (AL.Fnv.slS l)), (1, vc (st v)), (7, vc (i6 (List.length l : Int))), (8, vc (i6 ((k : Int) + 1)))] [] (show InR .i64 ((k : Int) + 1) from (inR64 (by omega) (by omega))) ?_
   refine AMx.ent_inv (s' := AS.lst 19 [(0, vc (AL.Fnv.slS l)), (1, vc (st v)), (7, vc (i6 (List.length l : Int))), (8, vc (i6 ((k : Int) + 1)))] []) (ent_proj [0, 1, 7, 8] []) ?_
   refine AMx.inv ⟨_, ?_, k + 1, ?_, rfl, ?_⟩
   rotate_left
   · exact ⟨by omega, Lib.all_step [] l k (by omega) hN (decide_eq_false (by assumption))⟩
   · rfl
   · omega
 ·
  refine AMx.exit ?_
  refine AMx.code_exit ?_
  refine AMx.inv_exit ?_
  refine AMx.blk_exit ?_
  refine gS [] [] 19 [(4, vc (i6 (-1)))] [] trivial ?_
  exact gT (vc (i6 (-1))) (by rw [Lib.idx_none (fun x hx => hN x (by rwa [List.take_of_length_le (by omega)]))])
theorem f48_body : Tryz.f48.body = some (.seq (.region 0 (rg Tryz.f48 0) false) (.seq (.region 1 (rg Tryz.f48 1) false) (.ret))) := by kernel_rfl
set_option maxRecDepth 100000 in
set_option maxHeartbeats 8000000 in
theorem ContainsS_c (l : List Bytes) (v : Bytes) : Pure Tryz.prog 48 [tc (AL.Fnv.slS l), tc (st v)] (vc (bo (decide (0 ≤ Lib.idxS (fun y => decide (v = y)) l)))) := by
 refine Pure.of_body Tryz.func48 f48_body (by kernel_rfl) Tryz.ntmps48 (by kernel_rfl) (by kernel_rfl) ?_
 refine gS [] [] 9 [(0, vc (AL.Fnv.slS l)), (1, vc (st v))] [] trivial ?_
 refine gS [(2, CE.call [] [] (vc (i6 (Lib.idxS (fun y => decide (v = y)) l))) [])] [Spec Tryz.prog 80 [tc (AL.Fnv.slS l), tc (st v)] (ofH []) (vc (i6 (Lib.idxS (fun y => decide (v = y)) l))) (ofH [])] 9 [(4, vc (bo (decide (0 ≤ Lib.idxS (fun y => decide (v = y)) l))))] [] (IndexS_c l v) ?_
 exact gT (vc (bo (decide (0 ≤ Lib.idxS (fun y => decide (v = y)) l)))) rfl
theorem f46_body : Tryz.f46.body = some (.seq (.region 0 (rg Tryz.f46 0) false) (.seq (.region 1 (rg Tryz.f46 1) false) (.block 0 (.loop (.seq (.region 2 (rg Tryz.f46 2) false) (.seq (.cond (.tmp 15) (.skip) (.exit 0)) (.seq (.block 1 (.seq (.region 3 (rg Tryz.f46 3) false) (.seq (.region 4 (rg Tryz.f46 4) false) (.cond (.tmp 27) (.region 5 (rg Tryz.f46 5) false) (.skip))))) (.region 6 (rg Tryz.f46 6) false)))))))) := by kernel_rfl
set_option maxRecDepth 100000 in
set_option maxHeartbeats 8000000 in
theorem take_s (l : List TokV) (f : Nat) (n : Bytes) (g : List Bytes) (hl : l.length ≤ 100000) (hb : g.length + (takeS l (f + 1) n).length ≤ 100000)
  (hr : ∀ t ∈ l, childT n t = true → ∀ g2 : List Bytes, g2.length + (takeS l f t.1).length ≤ 100000 → ∀ {a e k e2 : Nat} (h1 : Nat.beq a e = false) (h2 : Nat.beq a k = false) (h3 : Nat.beq e k = false) (h4 : Nat.beq e2 a = false) (h5 : Nat.beq e2 e = false) (h6 : Nat.beq e2 k = false), Spec Tryz.prog 46 [.c (.s (st t.1)), .c (.ptr a 0), .c (.s (SC.ref 1 (rl [slT l]))), .c (.ptr k 0)] (ofH (tri 46 (SC.ref 1 (rl [slT l])) a e k (AObj.grow 9 1 Bytes [] AL.Fnv.rowS g2))) (.tup []) (ofH (tri 46 (SC.ref 1 (rl [slT l])) a e2 k (AObj.grow 9 1 Bytes [] AL.Fnv.rowS (g2 ++ takeS l f t.1)))))
  {a e k e2 : Nat} (h1 : Nat.beq a e = false) (h2 : Nat.beq a k = false) (h3 : Nat.beq e k = false) (h4 : Nat.beq e2 a = false) (h5 : Nat.beq e2 e = false) (h6 : Nat.beq e2 k = false) : Spec Tryz.prog 46 [.c (.s (st n)), .c (.ptr a 0), .c (.s (SC.ref 1 (rl [slT l]))), .c (.ptr k 0)] (ofH (tri 46 (SC.ref 1 (rl [slT l])) a e k (AObj.grow 9 1 Bytes [] AL.Fnv.rowS g))) (.tup []) (ofH (tri 46 (SC.ref 1 (rl [slT l])) a e2 k (AObj.grow 9 1 Bytes [] AL.Fnv.rowS (g ++ takeS l (f + 1) n)))) := by
 refine Rec.of_body (A := 33) (E := 34) (C := 35) Tryz.func46 f46_body (by kernel_rfl) Tryz.ntmps46 (by kernel_rfl) rfl rfl (by kernel_rfl) (by kernel_rfl) (by kernel_rfl) ?_ h1 h2 h3 h4 h5 h6
 refine gS [(2, CE.obj (AObj.grow 9 1 Bytes [] AL.Fnv.rowS [n])), (3, CE.obj (AObj.grow 9 1 Bytes [] AL.Fnv.rowS (g ++ [n])))] [flat 1 AL.Fnv.rowS [n] = [.s (st n)], List.length ([n] : List Bytes) = 1, AppC (flat 1 AL.Fnv.rowS [n]) (List.length ([n] : List Bytes)) 16 (AObj.grow 9 1 Bytes [] AL.Fnv.rowS g) (AObj.grow 9 1 Bytes [] AL.Fnv.rowS (g ++ [n]))] 33 [(0, vc (st n)), (2, vc (SC.ref 1 (rl [slT l]))), (3, vp 35 0)] [(10, AObj.grow 9 1 Bytes [] AL.Fnv.rowS (g ++ [n])), (33, AObj.row [.own 10]), (35, AObj.row [.fn 46 [.ptr 33 0, .s (SC.ref 1 (rl [slT l])), .ptr 35 0]])] ⟨rfl, rfl, (⟨_, rfl, rfl, rfl, by have z := take_mono l f n 0; simp only [List.length_append, List.length_cons, List.length_nil]; omega, by have z := take_mono l f n 0; simp only [maxLen, List.length_append, List.length_cons, List.length_nil]; omega⟩)⟩ ?_
 refine gS [] [] 33 [(0, vc (st n)), (3, vp 35 0), (12, vc (slT l)), (13, vc (i6 (List.length l : Int))), (14, vc (i6 0))] [(10, AObj.grow 9 1 Bytes [] AL.Fnv.rowS (g ++ [n])), (33, AObj.row [.own 10]), (35, AObj.row [.fn 46 [.ptr 33 0, .s (SC.ref 1 (rl [slT l])), .ptr 35 0]])] trivial ?_
 refine AMx.block ?_
 refine AMx.ent (s' := AS.lst 33 [(0, vc (st n)), (3, vp 35 0), (12, vc (slT l)), (13, vc (i6 (List.length l : Int))), (14, vc (i6 0))] [(10, AObj.grow 9 1 Bytes [] AL.Fnv.rowS (g ++ [n])), (33, AObj.row [.own 10]), (35, AObj.row [.fn 46 [.ptr 33 0, .s (SC.ref 1 (rl [slT l])), .ptr 35 0]])]) (ent_proj [0, 3, 12, 13, 14] [10, 33, 35]) ?_
 refine AMx.loop (fun mm ss => ∃ (k : Nat), (k ≤ l.length) ∧ mm = l.length - k ∧ ss = AS.lst 33 [(0, vc (st n)), (3, vp 35 0), (12, vc (slT l)), (13, vc (i6 (List.length l : Int))), (14, vc (i6 (k : Int)))] [(10, AObj.grow 9 1 Bytes [] AL.Fnv.rowS ((g ++ [n]) ++ takeTo l f n k)), (33, AObj.row [.own 10]), (35, AObj.row [.fn 46 [.ptr 33 0, .s (SC.ref 1 (rl [slT l])), .ptr 35 0]])]) ⟨0, ?_, rfl, ?_⟩ ?_
 · omega
 · rw [take_0, List.append_nil]; rfl
 rintro mm ss ⟨k, hI, rfl, rfl⟩
 refine gS [] [] 33 [(0, vc (st n)), (3, vp 35 0), (12, vc (slT l)), (13, vc (i6 (List.length l : Int))), (14, vc (i6 (k : Int))), (15, vc (bo (decide ((k : Int) < (List.length l : Int)))))] [(10, AObj.grow 9 1 Bytes [] AL.Fnv.rowS ((g ++ [n]) ++ takeTo l f n k)), (33, AObj.row [.own 10]), (35, AObj.row [.fn 46 [.ptr 33 0, .s (SC.ref 1 (rl [slT l])), .ptr 35 0]])] trivial ?_
 refine gQ ?_
 refine gC ((k : Int) < (List.length l : Int)) (fun hc1 => ?_) fun hc1 => ?_
 ·
  refine AMx.skip ?_
  refine gQ ?_
  refine AMx.block ?_
  refine gS [] [(0 : Int) ≤ (k : Int), (k : Int) < List.length l] 33 [(0, vc (st n)), (3, vp 35 0), (6, vp 6 0), (12, vc (slT l)), (13, vc (i6 (List.length l : Int))), (14, vc (i6 (k : Int)))] [(6, AObj.row [.s (st ((List.getD l k tokd).1)), .s (st ((List.getD l k tokd).2.1)), .s (AL.Policy.slP ((List.getD l k tokd).2.2))]), (10, AObj.grow 9 1 Bytes [] AL.Fnv.rowS ((g ++ [n]) ++ takeTo l f n k)), (33, AObj.row [.own 10]), (35, AObj.row [.fn 46 [.ptr 33 0, .s (SC.ref 1 (rl [slT l])), .ptr 35 0]])] ⟨(by first | omega | (have z := take_mono l f n (k + 1); rw [take_y (by omega) (child_y hc2)] at z; (try simp only [List.length_append, List.length_cons, List.length_nil] at *); omega)), (show (k : Int) < List.length l from (by first | omega | (have z := take_mono l f n (k + 1); rw [take_y (by omega) (child_y hc2)] at z; (try simp only [List.length_append, List.length_cons, List.length_nil] at *); omega)))⟩ ?_
  refine gS [] [((decide ((List.getD l k tokd).2.1 = n)) = true) → allP [(decide ((List.getD l k tokd).2.1 = n)) = true], ((decide ((List.getD l k tokd).2.1 = n)) = true) → allP [(decide ((List.getD l k tokd).2.1 = n)) = true, (decide ((List.getD l k tokd).2.1 = n)) = true], (decide ((List.getD l k tokd).2.1 = n)) = true → allP [(decide ((List.getD l k tokd).2.1 = n)) = true]] 33 [(0, vc (st n)), (3, vp 35 0), (6, vp 6 0), (12, vc (slT l)), (13, vc (i6 (List.length l : Int))), (14, vc (i6 (k : Int))), (27, vc (bo ((decide ((List.getD l k tokd).2.1 = n)) && (!decide ((List.getD l k tokd).1 = n)))))] [(6, AObj.row [.s (st ((List.getD l k tokd).1)), .s (st ((List.getD l k tokd).2.1)), .s (AL.Policy.slP ((List.getD l k tokd).2.2))]), (10, AObj.grow 9 1 Bytes [] AL.Fnv.rowS ((g ++ [n]) ++ takeTo l f n k)), (33, AObj.row [.own 10]), (35, AObj.row [.fn 46 [.ptr 33 0, .s (SC.ref 1 (rl [slT l])), .ptr 35 0]])] ⟨(fun hp => hp), (fun hp => ⟨hp, hp⟩), (fun hp2 => (by first | exact hp2 | exact ⟨hp, hp2⟩))⟩ ?_
  refine gB (((decide ((List.getD l k tokd).2.1 = n)) && (!decide ((List.getD l k tokd).1 = n)))) (fun hc2 => ?_) fun hc2 => ?_
  ·
   try simp only [xT, xF, xA, xB, xN, xM] at hc2
   refine gR [(3, CE.call [] [33, 10, 35] (AV.tup []) [(33, AObj.row [.own 31]), (31, AObj.grow 9 1 Bytes [] AL.Fnv.rowS (((g ++ [n]) ++ takeTo l f n k) ++ takeS l f ((List.getD l k tokd).1))), (35, AObj.row [.fn 46 [.ptr 33 0, .s (SC.ref 1 (rl [slT l])), .ptr 35 0]])])] [Spec Tryz.prog 46 [tc (st ((List.getD l k tokd).1)), TV.c (.ptr 33 0), tc (SC.ref 1 (rl [slT l])), TV.c (.ptr 35 0)] (ofH [(33, AObj.row [.own 10]), (10, AObj.grow 9 1 Bytes [] AL.Fnv.rowS ((g ++ [n]) ++ takeTo l f n k)), (35, AObj.row [.fn 46 [.ptr 33 0, .s (SC.ref 1 (rl [slT l])), .ptr 35 0]])]) (AV.tup []) (ofH [(33, AObj.row [.own 31]), (31, AObj.grow 9 1 Bytes [] AL.Fnv.rowS (((g ++ [n]) ++ takeTo l f n k) ++ takeS l f ((List.getD l k tokd).1))), (35, AObj.row [.fn 46 [.ptr 33 0, .s (SC.ref 1 (rl [slT l])), .ptr 35 0]])])] 33 [(0, vc (st n)), (3, vp 35 0), (12, vc (slT l)), (13, vc (i6 (List.length l : Int))), (14, vc (i6 (k : Int)))] [(31, AObj.grow 9 1 Bytes [] AL.Fnv.rowS (((g ++ [n]) ++ takeTo l f n k) ++ takeS l f ((List.getD l k tokd).1))), (33, AObj.row [.own 31]), (35, AObj.row [.fn 46 [.ptr 33 0, .s (SC.ref 1 (rl [slT l])), .ptr 35 0]])] (hr _ (Lib.getD_mem tokd l k (by omega)) (child_y hc2) ((g ++ [n]) ++ takeTo l f n k) (by first | omega | (have z := take_mono l f n (k + 1); rw [take_y (by omega) (child_y hc2)] at z; (try simp only [List.length_append, List.length_cons, List.length_nil] at *); omega)) (a := 33) (e := 10) (k := 35) (e2 := 31) rfl rfl rfl rfl rfl rfl) ?_
   refine AMx.blk ?_
   refine gR [] [InR .i64 ((k : Int) + 1)] 33 [(0, vc (st n)), (3, vp 35 0), (12, vc (slT l)), (13, vc (i6 (List.length l : Int))), (14, vc (i6 ((k : Int) + 1)))] [(31, AObj.grow 9 1 Bytes [] AL.Fnv.rowS (((g ++ [n]) ++ takeTo l f n k) ++ takeS l f ((List.getD l k tokd).1))), (33, AObj.row [.own 31]), (35, AObj.row [.fn 46 [.ptr 33 0, .s (SC.ref 1 (rl [slT l])), .ptr 35 0]])] (show InR .i64 ((k : Int) + 1) from (inR64 (by first | omega | (have z := take_mono l f n (k + 1); rw [take_y (by omega) (child_y hc2)] at z; (try simp only [List.length_append, List.length_cons, List.length_nil] at *); omega)) (by first | omega | (have z := take_mono l f n (k + 1); rw [take_y (by omega) (child_y hc2)] at z; (try simp only [List.length_append, List.length_cons, List.length_nil] at *); omega)))) ?_
   refine AMx.ent_inv (s' := AS.lst 33 [(0, vc (st n)), (3, vp 35 0), (12, vc (slT l)), (13, vc (i6 (List.length l : Int))), (14, vc (i6 ((k : Int) + 1)))] [(10, AObj.grow 9 1 Bytes [] AL.Fnv.rowS (((g ++ [n]) ++ takeTo l f n k) ++ takeS l f ((List.getD l k tokd).1))), (33, AObj.row [.own 10]), (35, AObj.row [.fn 46 [.ptr 33 0, .s (SC.ref 1 (rl [slT l])), .ptr 35 0]])]) (ent_swap 31 10 (by kernel_rfl) (by kernel_rfl)) ?_
   refine AMx.ent_inv (s' := AS.lst 33 [(0, vc (st n)), (3, vp 35 0), (12, vc (slT l)), (13, vc (i6 (List.length l : Int))), (14, vc (i6 ((k : Int) + 1)))] [(10, AObj.grow 9 1 Bytes [] AL.Fnv.rowS (((g ++ [n]) ++ takeTo l f n k) ++ takeS l f ((List.getD l k tokd).1))), (33, AObj.row [.own 10]), (35, AObj.row [.fn 46 [.ptr 33 0, .s (SC.ref 1 (rl [slT l])), .ptr 35 0]])]) (ent_proj [0, 3, 12, 13, 14] [10, 33, 35]) ?_
   refine AMx.inv ⟨_, ?_, k + 1, ?_, rfl, ?_⟩
   rotate_left
   · omega
   · rw [take_y (by omega) (child_y hc2), ← List.append_assoc]; rfl
   · omega
  ·
   try simp only [xT, xF, xA, xB, xN, xM] at hc2
   refine AMx.skip ?_
   refine AMx.blk ?_
   refine gR [] [InR .i64 ((k : Int) + 1)] 33 [(0, vc (st n)), (3, vp 35 0), (12, vc (slT l)), (13, vc (i6 (List.length l : Int))), (14, vc (i6 ((k : Int) + 1)))] [(10, AObj.grow 9 1 Bytes [] AL.Fnv.rowS ((g ++ [n]) ++ takeTo l f n k)), (33, AObj.row [.own 10]), (35, AObj.row [.fn 46 [.ptr 33 0, .s (SC.ref 1 (rl [slT l])), .ptr 35 0]])] (show InR .i64 ((k : Int) + 1) from (inR64 (by first | omega | (have z := take_mono l f n (k + 1); rw [take_y (by omega) (child_y hc2)] at z; (try simp only [List.length_append, List.length_cons, List.length_nil] at *); omega)) (by first | omega | (have z := take_mono l f n (k + 1); rw [take_y (by omega) (child_y hc2)] at z; (try simp only [List.length_append, List.length_cons, List.length_nil] at *); omega)))) ?_
   refine AMx.ent_inv (s' := AS.lst 33 [(0, vc (st n)), (3, vp 35 0), (12, vc (slT l)), (13, vc (i6 (List.length l : Int))), (14, vc (i6 ((k : Int) + 1)))] [(10, AObj.grow 9 1 Bytes [] AL.Fnv.rowS ((g ++ [n]) ++ takeTo l f n k)), (33, AObj.row [.own 10]), (35, AObj.row [.fn 46 [.ptr 33 0, .s (SC.ref 1 (rl [slT l])), .ptr 35 0]])]) (ent_proj [0, 3, 12, 13, 14] [10, 33, 35]) ?_
   refine AMx.inv ⟨_, ?_, k + 1, ?_, rfl, ?_⟩
   rotate_left
   · omega
   · rw [take_n (by omega) (child_n hc2)]; rfl
   · omega
 ·
  refine AMx.exit ?_
  refine AMx.code_exit ?_
  refine AMx.inv_exit ?_
  refine AMx.blk_exit ?_
  exact ⟨.inr rfl, 10, AObj.grow 9 1 Bytes [] AL.Fnv.rowS ((g ++ [n]) ++ takeTo l f n k), by kernel_rfl, by kernel_rfl, by kernel_rfl, (by rw [take_end l f n (show l.length ≤ k by omega), List.append_assoc]; rfl), by kernel_rfl, by kernel_rfl, by kernel_rfl⟩
theorem take_c (l : List TokV) (hl : l.length ≤ 100000) : ∀ (f : Nat) (n : Bytes) (g : List Bytes), FitS l f n → g.length + (takeS l f n).length ≤ 100000 → ∀ {a e k e2 : Nat} (h1 : Nat.beq a e = false) (h2 : Nat.beq a k = false) (h3 : Nat.beq e k = false) (h4 : Nat.beq e2 a = false) (h5 : Nat.beq e2 e = false) (h6 : Nat.beq e2 k = false), Spec Tryz.prog 46 [.c (.s (st n)), .c (.ptr a 0), .c (.s (SC.ref 1 (rl [slT l]))), .c (.ptr k 0)] (ofH (tri 46 (SC.ref 1 (rl [slT l])) a e k (AObj.grow 9 1 Bytes [] AL.Fnv.rowS g))) (.tup []) (ofH (tri 46 (SC.ref 1 (rl [slT l])) a e2 k (AObj.grow 9 1 Bytes [] AL.Fnv.rowS (g ++ takeS l f n))))
  | 0, _, _, h, _ => h.elim
  | f + 1, n, g, h, hb => fun h1 h2 h3 h4 h5 h6 => take_s l f n g hl hb (fun t ht hc g2 hb2 => take_c l hl f t.1 g2 (h t ht hc) hb2) h1 h2 h3 h4 h5 h6
end AL.Token
namespace AL.Token
open Go AL
open AL.Policy (RuleV rowP slP checkP coversS capsP)
set_option linter.unusedVariables false
set_option linter.unusedSimpArgs false
structure WF (l : List TokV) : Prop where
  chk : ∀ t ∈ l, checkT t = 0
  ex : ∃ d : Bytes → Nat, ∀ t ∈ l, t = firstT ∨ (t.2.1 ≠ [] ∧ d t.1 = d t.2.1 + 1 ∧ ∃ p ∈ l, p.1 = t.2.1 ∧ coversS t.2.2 p.2.2 = true)
theorem named_ne {s : Bytes} (h : Rows.namedS s = true) : s ≠ [] := fun e => by rw [e] at h; cases h
theorem check_name {t : TokV} (h : checkT t = 0) : t.1 ≠ [] := by
  unfold checkT at h
  split at h
  · cases h
  · exact named_ne (by simpa using ‹¬ Rows.namedS t.1 = false›)
theorem name_eq {l : List TokV} (hs : SortT l) {x y : TokV} (hx : x ∈ l) (hy : y ∈ l) (h : x.1 = y.1) : x = y := by
  unfold SortT at hs
  induction l with
  | nil => cases hx
  | cons z l ih =>
    obtain ⟨h1, h2⟩ := List.pairwise_cons.1 hs
    rcases List.mem_cons.1 hx with ex | hx <;> rcases List.mem_cons.1 hy with ey | hy
    · rw [ex, ey]
    · have := h1 y hy
      rw [← h, ex] at this
      exact absurd this (List.lt_irrefl _)
    · have := h1 x hx
      rw [h, ey] at this
      exact absurd this (List.lt_irrefl _)
    · exact ih h2 hx hy
theorem find_yes {l : List TokV} (hs : SortT l) {p : TokV} {n : Bytes} (hp : p ∈ l) (h : p.1 = n) : 0 ≤ findT l n ∧ List.getD l (findT l n).toNat tokd = p := by
  have h0 : 0 ≤ findT l n := by
    rcases Int.lt_or_le (findT l n) 0 with q | q
    · exact absurd h (find_no.1 q p hp)
    · exact q
  exact ⟨h0, name_eq hs (find_at h0).2 hp ((find_at h0).1.trans h.symm)⟩
inductive Anc (l : List TokV) (n : Bytes) : TokV → Prop
  | refl {t : TokV} : t.1 = n → Anc l n t
  | step {t p : TokV} : p ∈ l → p.1 = t.2.1 → Anc l n p → Anc l n t
theorem up_anc {l : List TokV} {n : Bytes} : ∀ {k : Nat} {t : TokV}, upS l n k t = true → Anc l n t
  | 0, _, h => by cases h
  | k + 1, t, h => by
    unfold upS at h
    split at h
    · exact .refl (by assumption)
    · split at h
      · cases h
      · have := find_at (l := l) (n := t.2.1) (by omega)
        exact .step this.2 this.1 (up_anc h)
section
variable {l : List TokV} {d : Bytes → Nat}
abbrev Dep (l : List TokV) (d : Bytes → Nat) : Prop := ∀ t ∈ l, t = firstT ∨ (t.2.1 ≠ [] ∧ d t.1 = d t.2.1 + 1 ∧ ∃ p ∈ l, p.1 = t.2.1 ∧ coversS t.2.2 p.2.2 = true)
theorem dep_up (hd : Dep l d) {t : TokV} (ht : t ∈ l) (h : t.2.1 ≠ []) : d t.1 = d t.2.1 + 1 := by
  rcases hd t ht with rfl | h2
  · exact absurd rfl h
  · exact h2.2.1
theorem made_ne (hc : ∀ t ∈ l, checkT t = 0) {t p : TokV} (hp : p ∈ l) (h : p.1 = t.2.1) : t.2.1 ≠ [] := h ▸ check_name (hc p hp)
theorem count_lt {p q : TokV → Bool} (h : ∀ x, p x = true → q x = true) : ∀ {l : List TokV} {t : TokV}, t ∈ l → q t = true → p t = false → (l.filter p).length < (l.filter q).length
  | [], _, ht, _, _ => by cases ht
  | x :: l, t, ht, h1, h2 => by
    have hle : ∀ m : List TokV, (m.filter p).length ≤ (m.filter q).length := fun m => by
      rw [← List.countP_eq_length_filter, ← List.countP_eq_length_filter]
      exact List.countP_mono_left fun y _ hy => h y hy
    rcases List.mem_cons.1 ht with rfl | ht
    · rw [List.filter_cons_of_neg (by simp [h2]), List.filter_cons_of_pos (by simp [h1]), List.length_cons]
      exact Nat.lt_succ_of_le (hle l)
    · have ih := count_lt h ht h1 h2
      cases hp : p x with
      | true => rw [List.filter_cons_of_pos hp, List.filter_cons_of_pos (h x hp), List.length_cons, List.length_cons]; omega
      | false =>
        rw [List.filter_cons_of_neg (by simp [hp])]
        cases hq : q x with
        | true => rw [List.filter_cons_of_pos hq, List.length_cons]; omega
        | false => rw [List.filter_cons_of_neg (by simp [hq])]; exact ih
theorem anc_up (hs : SortT l) (hc : ∀ t ∈ l, checkT t = 0) (hd : Dep l d) {n : Bytes} : ∀ (k : Nat) {t : TokV}, t ∈ l → Anc l n t → (l.filter fun x => decide (d x.1 ≤ d t.1)).length ≤ k → upS l n k t = true
  | 0, t, ht, _, h => by
    have : t ∈ l.filter fun x => decide (d x.1 ≤ d t.1) := List.mem_filter.2 ⟨ht, by simp⟩
    have := List.length_pos_of_mem this
    omega
  | k + 1, t, ht, ha, h => by
    unfold upS
    by_cases h1 : t.1 = n
    · rw [if_pos h1]
    · rw [if_neg h1]
      cases ha with
      | refl q => exact absurd q h1
      | @step _ p hp q ha =>
        obtain ⟨z1, z2⟩ := find_yes hs hp q
        rw [if_neg (by omega), z2]
        refine anc_up hs hc hd k hp ha ?_
        have hdt := dep_up hd ht (made_ne hc hp q)
        have := count_lt (p := fun x => decide (d x.1 ≤ d p.1)) (q := fun x => decide (d x.1 ≤ d t.1)) (fun x hx => by simp only [decide_eq_true_eq] at *; rw [q] at hx; omega) ht (by simp) (by simp only [decide_eq_false_iff_not]; rw [q]; omega)
        omega
theorem gone_anc (hs : SortT l) (hw : WF l) {n : Bytes} {t : TokV} (ht : t ∈ l) : goneS l t n = true ↔ Anc l n t := by
  obtain ⟨d, hd⟩ := hw.ex
  exact ⟨up_anc, fun h => anc_up hs hw.chk hd (l.length + 1) ht h (Nat.le_succ_of_le (List.length_filter_le _ _))⟩
theorem fit_of (hc : ∀ t ∈ l, checkT t = 0) (hd : Dep l d) : ∀ (f : Nat) (n : Bytes), n ≠ [] → (l.filter fun x => decide (d n < d x.1)).length < f → FitS l f n
  | 0, _, _, h => absurd h (Nat.not_lt_zero _)
  | f + 1, n, hn, h => fun t ht hch => by
    unfold childT at hch
    simp only [Bool.and_eq_true, decide_eq_true_eq, Bool.not_eq_true', decide_eq_false_iff_not] at hch
    have hdt := dep_up hd ht (by rw [hch.1]; exact hn)
    rw [hch.1] at hdt
    refine fit_of hc hd f t.1 (check_name (hc t ht)) ?_
    have := count_lt (p := fun x => decide (d t.1 < d x.1)) (q := fun x => decide (d n < d x.1)) (fun x hx => by simp only [decide_eq_true_eq] at *; omega) ht (by simp only [decide_eq_true_eq]; omega) (by simp)
    omega
theorem found_ne (hc : ∀ t ∈ l, checkT t = 0) {n : Bytes} (h : 0 ≤ findT l n) : n ≠ [] := by
  have := find_at h
  rw [← this.1]
  exact check_name (hc _ this.2)
theorem fit_all (hw : WF l) {n : Bytes} (h : 0 ≤ findT l n) : FitS l (l.length + 1) n := by
  obtain ⟨d, hd⟩ := hw.ex
  exact fit_of hw.chk hd _ n (found_ne hw.chk h) (Nat.lt_succ_of_le (List.length_filter_le _ _))
theorem anc_dep (hc : ∀ t ∈ l, checkT t = 0) (hd : Dep l d) {n : Bytes} {t : TokV} (ht : t ∈ l) (h : Anc l n t) : d n ≤ d t.1 := by
  induction h with
  | refl h => rw [h]; exact Nat.le_refl _
  | @step t p hp q _ ih =>
    have := ih hp
    have hdt := dep_up hd ht (made_ne hc hp q)
    rw [q] at this
    omega
theorem anc_down (hs : SortT l) {n : Bytes} {c p : TokV} (hcl : c ∈ l) (hp : p ∈ l) (h1 : c.2.1 = n) (h2 : p.1 = n) {t : TokV} (ht : t ∈ l) (h : Anc l c.1 t) : Anc l n t := by
  induction h with
  | refl h => rw [name_eq hs ht hcl h]; exact .step hp (h2.trans h1.symm) (.refl h2)
  | step hq q _ ih => exact .step hq q (ih hq)
theorem anc_last {n : Bytes} {t : TokV} (ht : t ∈ l) (h : Anc l n t) : t.1 = n ∨ ∃ c ∈ l, c.2.1 = n ∧ Anc l c.1 t := by
  induction h with
  | refl h => exact .inl h
  | @step t q hq e _ ih =>
    right
    rcases ih hq with h | ⟨c, hc, h1, h2⟩
    · exact ⟨t, ht, e.symm.trans h, .refl rfl⟩
    · exact ⟨c, hc, h1, .step hq e h2⟩
theorem anc_same (hs : SortT l) (hc : ∀ t ∈ l, checkT t = 0) (hd : Dep l d) {m m' : Bytes} {t : TokV} (ht : t ∈ l) (h : Anc l m t) (h' : Anc l m' t) (he : d m = d m') : m = m' := by
  induction h with
  | @refl t h =>
    cases h' with
    | refl h' => rw [← h, ← h']
    | @step _ p hp q h' =>
      have h1 := anc_dep hc hd hp h'
      have h2 := dep_up hd ht (made_ne hc hp q)
      rw [q] at h1
      rw [h] at h2
      omega
  | @step t p hp q ha ih =>
    have h1 := anc_dep hc hd hp ha
    have h2 := dep_up hd ht (made_ne hc hp q)
    cases h' with
    | refl h' =>
      rw [q] at h1
      rw [h'] at h2
      omega
    | @step _ p' hp' q' h' =>
      have := name_eq hs hp hp' (q.trans q'.symm)
      subst this
      exact ih hp h'
theorem child_iff {n : Bytes} {t : TokV} : childT n t = true ↔ t.2.1 = n ∧ ¬ t.1 = n := by
  unfold childT
  simp only [Bool.and_eq_true, decide_eq_true_eq, Bool.not_eq_true', decide_eq_false_iff_not]
theorem take_mem (hs : SortT l) : ∀ (f : Nat) (n : Bytes), (∃ p ∈ l, p.1 = n) → ∀ x ∈ takeS l f n, ∃ t ∈ l, t.1 = x ∧ Anc l n t
  | 0, _, _, x, hx => by cases hx
  | f + 1, n, ⟨p, hp, hn⟩, x, hx => by
    unfold takeS at hx
    rcases List.mem_cons.1 hx with rfl | hx
    · exact ⟨p, hp, hn, .refl hn⟩
    · obtain ⟨c, hc, hx⟩ := List.mem_flatMap.1 hx
      obtain ⟨hc, hch⟩ := List.mem_filter.1 hc
      obtain ⟨t, ht, h1, h2⟩ := take_mem hs f c.1 ⟨c, hc, rfl⟩ x hx
      exact ⟨t, ht, h1, anc_down hs hc hp (child_iff.1 hch).1 hn ht h2⟩
theorem mem_take (hd : Dep l d) : ∀ (f : Nat) (n : Bytes), n ≠ [] → (∀ t ∈ l, t.1 ≠ []) → FitS l f n → ∀ t ∈ l, Anc l n t → t.1 ∈ takeS l f n
  | 0, _, _, _, h, _, _, _ => h.elim
  | f + 1, n, hn, hne, hf, t, ht, ha => by
    unfold takeS
    rcases anc_last ht ha with h | ⟨c, hc, h1, h2⟩
    · rw [h]; exact List.mem_cons_self ..
    · refine List.mem_cons_of_mem _ (List.mem_flatMap.2 ⟨c, List.mem_filter.2 ⟨hc, ?_⟩, ?_⟩)
      · have := dep_up hd hc (by rw [h1]; exact hn)
        refine child_iff.2 ⟨h1, fun e => ?_⟩
        rw [e, h1] at this
        omega
      · refine mem_take hd f c.1 (hne c hc) hne (hf c hc ?_) t ht h2
        have := dep_up hd hc (by rw [h1]; exact hn)
        refine child_iff.2 ⟨h1, fun e => ?_⟩
        rw [e, h1] at this
        omega
theorem take_dep (hc : ∀ t ∈ l, checkT t = 0) (hd : Dep l d) : ∀ (f : Nat) (n : Bytes), n ≠ [] → ∀ x ∈ takeS l f n, d n ≤ d x
  | 0, _, _, x, hx => by cases hx
  | f + 1, n, hn, x, hx => by
    unfold takeS at hx
    rcases List.mem_cons.1 hx with rfl | hx
    · exact Nat.le_refl _
    · obtain ⟨c, hcm, hx⟩ := List.mem_flatMap.1 hx
      obtain ⟨hcl, hch⟩ := List.mem_filter.1 hcm
      have h1 := take_dep hc hd f c.1 (check_name (hc c hcl)) x hx
      have h2 := dep_up hd hcl (by rw [(child_iff.1 hch).1]; exact hn)
      rw [(child_iff.1 hch).1] at h2
      omega
theorem take_nodup (hs : SortT l) (hc : ∀ t ∈ l, checkT t = 0) (hd : Dep l d) : ∀ (f : Nat) (n : Bytes), n ≠ [] → (takeS l f n).Nodup
  | 0, _, _ => List.nodup_nil
  | f + 1, n, hn => by
    have hup : ∀ c ∈ l.filter (childT n), c ∈ l ∧ d c.1 = d n + 1 := fun c hcm => by
      obtain ⟨hcl, hch⟩ := List.mem_filter.1 hcm
      have h2 := dep_up hd hcl (by rw [(child_iff.1 hch).1]; exact hn)
      rw [(child_iff.1 hch).1] at h2
      exact ⟨hcl, h2⟩
    unfold takeS
    refine List.nodup_cons.2 ⟨fun h => ?_, ?_⟩
    · obtain ⟨c, hcm, hx⟩ := List.mem_flatMap.1 h
      have h1 := take_dep hc hd f c.1 (check_name (hc c (hup c hcm).1)) n hx
      have := (hup c hcm).2
      omega
    · unfold List.Nodup
      refine List.pairwise_flatMap.2 ⟨fun c hcm => take_nodup hs hc hd f c.1 (check_name (hc c (hup c hcm).1)), ?_⟩
      have hp : (l.filter (childT n)).Pairwise fun x y => x.1 < y.1 := List.Pairwise.filter _ hs
      refine List.Pairwise.imp_of_mem (fun {a b} ha hb hab x hx y hy e => ?_) hp
      subst e
      obtain ⟨t, ht, q1, q2⟩ := take_mem hs f a.1 ⟨a, (hup a ha).1, rfl⟩ x hx
      obtain ⟨t', ht', q1', q2'⟩ := take_mem hs f b.1 ⟨b, (hup b hb).1, rfl⟩ x hy
      have := name_eq hs ht ht' (q1.trans q1'.symm)
      subst this
      have := anc_same hs hc hd ht q2 q2' (by rw [(hup a ha).2, (hup b hb).2])
      rw [this] at hab
      exact List.lt_irrefl _ hab
end
theorem nodup_le {a b : List Bytes} (hn : a.Nodup) (h : ∀ x ∈ a, x ∈ b) : a.length ≤ b.length := by
  induction a generalizing b with
  | nil => exact Nat.zero_le _
  | cons x a ih =>
    obtain ⟨h1, h2⟩ := List.nodup_cons.1 hn
    have hx := h x (List.mem_cons_self ..)
    have := ih (b := b.erase x) h2 fun y hy => (List.mem_erase_of_ne (fun e : y = x => h1 (by rw [← e]; exact hy))).2 (h y (List.mem_cons_of_mem _ hy))
    rw [List.length_erase_of_mem hx] at this
    have := List.length_pos_of_mem hx
    rw [List.length_cons]
    omega
theorem risen_rise {m : List Bytes} (h : m.Nodup) : Under.Rise (Under.risen m) := by
  have h1 : (Under.risen m).Pairwise fun x y => decide (x ≤ y) = true := List.pairwise_mergeSort (le := fun x y : Bytes => decide (x ≤ y)) (fun a b c h1 h2 => decide_eq_true (List.le_trans (of_decide_eq_true h1) (of_decide_eq_true h2))) (fun a b => by
    rcases List.le_total a b with q | q <;> simp [q]) m
  have h2 : (Under.risen m).Nodup := (List.mergeSort_perm m _).nodup_iff.2 h
  unfold Under.Rise
  refine (h1.and h2).imp fun {x y} hxy => ?_
  have := of_decide_eq_true hxy.1
  by_cases q : x < y
  · exact q
  · exact absurd (List.le_antisymm this (List.not_lt.1 q)) hxy.2
theorem take_all {l : List TokV} (hw : WF l) (hs : SortT l) {n : Bytes} (h : 0 ≤ findT l n) : (takeS l (l.length + 1) n).length ≤ l.length := by
  obtain ⟨d, hd⟩ := hw.ex
  have hn := take_nodup hs hw.chk hd (l.length + 1) n (found_ne hw.chk h)
  have hm := take_mem hs (l.length + 1) n ⟨_, (find_at h).2, (find_at h).1⟩
  refine Nat.le_trans (nodup_le (b := namesT l) hn fun x hx => ?_) (Nat.le_of_eq (names_len l))
  obtain ⟨t, ht, h1, _⟩ := hm x hx
  exact List.mem_map.2 ⟨t, ht, h1⟩
theorem gone_rise {l : List TokV} (hs : SortT l) (n : Bytes) : Under.Rise (goneT l n) := by
  unfold Under.Rise goneT namesT
  exact List.pairwise_map.2 (List.Pairwise.filter _ hs)
theorem take_gone {l : List TokV} (hw : WF l) (hs : SortT l) {n : Bytes} (h : 0 ≤ findT l n) : Under.risen ([] ++ takeS l (l.length + 1) n) = goneT l n := by
  rw [List.nil_append]
  obtain ⟨d, hd⟩ := hw.ex
  have hn := take_nodup hs hw.chk hd (l.length + 1) n (found_ne hw.chk h)
  have hm := take_mem hs (l.length + 1) n ⟨_, (find_at h).2, (find_at h).1⟩
  refine Under.rise_eq (risen_rise hn) (gone_rise hs n) fun x => ?_
  unfold Under.risen goneT namesT
  rw [(List.mergeSort_perm _ _).mem_iff, List.mem_map]
  constructor
  · intro hx
    obtain ⟨t, ht, h1, h2⟩ := hm x hx
    exact ⟨t, List.mem_filter.2 ⟨ht, (gone_anc hs hw ht).2 h2⟩, h1⟩
  · rintro ⟨t, ht, rfl⟩
    obtain ⟨ht, h2⟩ := List.mem_filter.1 ht
    exact mem_take hd (l.length + 1) n (found_ne hw.chk h) (fun t ht => check_name (hw.chk t ht)) (fit_all hw h) t ht ((gone_anc hs hw ht).1 h2)
theorem has_iff {l : List TokV} (hs : SortT l) {n : Bytes} {x : TokV} (hx : x ∈ l) : 0 ≤ Lib.idxS (fun y => decide (x.1 = y)) (goneT l n) ↔ goneS l x n = true := by
  constructor
  · intro h
    have h1 := (Lib.idx_pos [] h).1
    have h2 := Lib.idx_lt (fun y => decide (x.1 = y)) (goneT l n)
    have h3 : List.getD (goneT l n) (Lib.idxS (fun y => decide (x.1 = y)) (goneT l n)).toNat [] ∈ goneT l n := Lib.getD_mem [] _ _ (by omega)
    rw [← of_decide_eq_true h1] at h3
    obtain ⟨y, hy, e⟩ := List.mem_map.1 h3
    obtain ⟨hy, hg⟩ := List.mem_filter.1 hy
    rw [name_eq hs hx hy e.symm]; exact hg
  · intro h
    rcases Int.lt_or_le (Lib.idxS (fun y => decide (x.1 = y)) (goneT l n)) 0 with q | q
    · have := Lib.idx_neg q x.1 (List.mem_map.2 ⟨x, List.mem_filter.2 ⟨hx, h⟩, rfl⟩)
      simp at this
    · exact q
theorem has_y {l : List TokV} (hs : SortT l) {n : Bytes} {x : TokV} (hx : x ∈ l) (h : 0 ≤ Lib.idxS (fun y => decide (x.1 = y)) (goneT l n)) : goneS l x n = true := (has_iff hs hx).1 h
theorem has_n {l : List TokV} (hs : SortT l) {n : Bytes} {x : TokV} (hx : x ∈ l) (h : ¬ 0 ≤ Lib.idxS (fun y => decide (x.1 = y)) (goneT l n)) : goneS l x n = false := by
  cases hg : goneS l x n with
  | false => rfl
  | true => exact absurd ((has_iff hs hx).2 hg) h
end AL.Token
namespace AL.Token
open Go Go.Proofs AL
open AL.Policy (RuleV rowP slP checkP coversS capsP)
set_option linter.unusedVariables false
set_option linter.unusedSimpArgs false
theorem f16_body : Tryz.f16.body = some (.seq (.region 0 (rg Tryz.f16 0) false) (.seq (.seq (.region 1 (rg Tryz.f16 1) false) (.seq (.region 2 (rg Tryz.f16 2) false) (.cond (.tmp 21) (.seq (.region 3 (rg Tryz.f16 3) false) (.ret)) (.skip)))) (.seq (.region 4 (rg Tryz.f16 4) false) (.seq (.region 5 (rg Tryz.f16 5) false) (.seq (.region 6 (rg Tryz.f16 6) false) (.seq (.region 7 (rg Tryz.f16 7) false) (.seq (.region 8 (rg Tryz.f16 8) false) (.seq (.region 9 (rg Tryz.f16 9) false) (.seq (.seq (.region 10 (rg Tryz.f16 10) false) (.block 0 (.loop (.seq (.region 11 (rg Tryz.f16 11) false) (.seq (.cond (.tmp 33) (.skip) (.exit 0)) (.seq (.block 1 (.seq (.region 12 (rg Tryz.f16 12) false) (.seq (.region 13 (rg Tryz.f16 13) false) (.cond (.tmp 40) (.region 14 (rg Tryz.f16 14) false) (.skip))))) (.region 15 (rg Tryz.f16 15) false))))))) (.seq (.region 16 (rg Tryz.f16 16) true) (.ret))))))))))) := by kernel_rfl
set_option maxRecDepth 100000 in
set_option maxHeartbeats 8000000 in
theorem Revoke_c (l : List TokV) (n : Bytes) (hw : WF l) (hs : SortT l) (hb : l.length ≤ 100000) : Pure Tryz.prog 16 [TV.agg [.s (slT l)], tc (st n)] (AV.tup [TV.agg [.s (slT ((revokeT l n).1))], tc (AL.Fnv.slS ((revokeT l n).2.1)), tc (i6 ((revokeT l n).2.2))]) := by
 refine Pure.of_body Tryz.func16 f16_body (by kernel_rfl) Tryz.ntmps16 (by kernel_rfl) (by kernel_rfl) ?_
 refine gS [(0, CE.shr none)] [] 49 [(1, vc (st n)), (2, vc (SC.ref 1 (rl [slT l]))), (4, vp 4 0)] [(4, AObj.row [.s (SC.nilsl)])] trivial ?_
 refine gQ ?_
 refine gS [(2, CE.call [] [] (AV.tup [tc (i6 (locT l n : Int)), tc (bo (decide (0 ≤ findT l n)))]) [])] [Spec Tryz.prog 45 [TV.agg [.s (slT l)], tc (st n)] (ofH []) (AV.tup [tc (i6 (locT l n : Int)), tc (bo (decide (0 ≤ findT l n)))]) (ofH [])] 49 [(1, vc (st n)), (2, vc (SC.ref 1 (rl [slT l]))), (4, vp 4 0), (8, vc (bo (decide (0 ≤ findT l n))))] [(4, AObj.row [.s (SC.nilsl)])] (find_c l n (by assumption) (by first | omega | (have z := take_all hw hs hc1; (try simp only [List.length_append, List.length_cons, List.length_nil]); omega) | (have z1 := left_len l n k; first | omega | (simp only [List.length_append, List.length_cons, List.length_nil]; omega)))) ?_
 refine gS [] [] 49 [(1, vc (st n)), (2, vc (SC.ref 1 (rl [slT l]))), (4, vp 4 0), (21, vc (bo (!(decide (0 ≤ findT l n)))))] [(4, AObj.row [.s (SC.nilsl)])] trivial ?_
 refine gB (!(decide (0 ≤ findT l n))) (fun hc1 => ?_) fun hc1 => ?_
 ·
  try simp only [xT, xF, xN, xM] at hc1
  refine gS [] [] 49 [(4, vp 4 0), (5, vc (SC.nilsl)), (6, vc (i6 6))] [(4, AObj.row [.s (slT l)])] trivial ?_
  refine AMx.ent (ent_weak 5 (v' := vc (AL.Fnv.slS [])) (by kernel_rfl) (AV.le_t (TV.le_c AC.le_nil))) ?_
  exact gT (AV.tup [TV.agg [.s (slT l)], tc (AL.Fnv.slS []), tc (i6 6)]) (by rw [show revokeT l n = (l, [], 6) from by unfold revokeT; first | (rw [if_pos (by omega)]; done) | (rw [if_neg (by omega), (left_end (n := n) (show l.length ≤ k by omega)).1])])
 ·
  try simp only [xT, xF, xN, xM] at hc1
  refine AMx.skip ?_
  refine gS [] [] 49 [(1, vc (st n)), (2, vc (SC.ref 1 (rl [slT l]))), (4, vp 4 0), (9, vp 9 0)] [(4, AObj.row [.s (SC.nilsl)]), (9, AObj.row [.s (SC.nilsl)])] trivial ?_
  refine gS [] [] 49 [(1, vc (st n)), (2, vc (SC.ref 1 (rl [slT l]))), (4, vp 4 0), (9, vp 9 0), (10, vp 10 0)] [(4, AObj.row [.s (SC.nilsl)]), (9, AObj.row [.s (SC.nilsl)]), (10, AObj.row [.s (SC.val Value.nilFunc)])] trivial ?_
  refine gS [] [] 49 [(1, vc (st n)), (2, vc (SC.ref 1 (rl [slT l]))), (4, vp 4 0), (9, vp 9 0), (10, vp 10 0)] [(4, AObj.row [.s (SC.nilsl)]), (9, AObj.row [.s (SC.nilsl)]), (10, AObj.row [.fn 46 [.ptr 9 0, .s (SC.ref 1 (rl [slT l])), .ptr 10 0]])] trivial ?_
  refine gQ ?_
  refine AMx.ent (ent_adoptO 9 12 [] [] 9 1 Bytes [] AL.Fnv.rowS (by kernel_rfl) (by kernel_rfl) (by kernel_rfl) (by kernel_rfl)) ?_
  refine AMx.ent (s' := AS.lst 49 [(1, vc (st n)), (2, vc (SC.ref 1 (rl [slT l]))), (4, vp 4 0), (9, vp 9 0), (10, vp 10 0)] [(4, AObj.row [.s (SC.nilsl)]), (9, AObj.row [.own 12]), (10, AObj.row [.fn 46 [.ptr 9 0, .s (SC.ref 1 (rl [slT l])), .ptr 10 0]]), (12, AObj.grow 9 1 Bytes [] AL.Fnv.rowS [])]) (ent_proj [1, 2, 4, 9, 10] [4, 9, 10, 12]) ?_
  refine gR [(2, CE.call [] [9, 12, 10] (AV.tup []) [(9, AObj.row [.own 26]), (26, AObj.grow 9 1 Bytes [] AL.Fnv.rowS ([] ++ takeS l (l.length + 1) n)), (10, AObj.row [.fn 46 [.ptr 9 0, .s (SC.ref 1 (rl [slT l])), .ptr 10 0]])])] [Spec Tryz.prog 46 [tc (st n), TV.c (.ptr 9 0), tc (SC.ref 1 (rl [slT l])), TV.c (.ptr 10 0)] (ofH [(9, AObj.row [.own 12]), (12, AObj.grow 9 1 Bytes [] AL.Fnv.rowS []), (10, AObj.row [.fn 46 [.ptr 9 0, .s (SC.ref 1 (rl [slT l])), .ptr 10 0]])]) (AV.tup []) (ofH [(9, AObj.row [.own 26]), (26, AObj.grow 9 1 Bytes [] AL.Fnv.rowS ([] ++ takeS l (l.length + 1) n)), (10, AObj.row [.fn 46 [.ptr 9 0, .s (SC.ref 1 (rl [slT l])), .ptr 10 0]])])] 49 [(2, vc (SC.ref 1 (rl [slT l]))), (4, vp 4 0), (9, vp 9 0)] [(4, AObj.row [.s (SC.nilsl)]), (9, AObj.row [.own 26]), (26, AObj.grow 9 1 Bytes [] AL.Fnv.rowS ([] ++ takeS l (l.length + 1) n))] (take_c l hb (l.length + 1) n [] (fit_all hw hc1) (by first | omega | (have z := take_all hw hs hc1; (try simp only [List.length_append, List.length_cons, List.length_nil]); omega) | (have z1 := left_len l n k; first | omega | (simp only [List.length_append, List.length_cons, List.length_nil]; omega))) (a := 9) (e := 12) (k := 10) (e2 := 26) rfl rfl rfl rfl rfl rfl) ?_
  refine gS [(1, CE.call [] [26] (AV.tup []) [(26, AObj.grow 9 1 Bytes [] AL.Fnv.rowS (Under.risen ([] ++ takeS l (l.length + 1) n)))])] [Spec Tryz.prog 47 [TV.c (.own 26)] (ofH [(26, AObj.grow 9 1 Bytes [] AL.Fnv.rowS ([] ++ takeS l (l.length + 1) n))]) (AV.tup []) (ofH [(26, AObj.grow 9 1 Bytes [] AL.Fnv.rowS (Under.risen ([] ++ takeS l (l.length + 1) n)))])] 49 [(2, vc (SC.ref 1 (rl [slT l]))), (4, vp 4 0), (9, vp 9 0)] [(4, AObj.row [.s (SC.nilsl)]), (9, AObj.row [.own 26]), (26, AObj.grow 9 1 Bytes [] AL.Fnv.rowS (Under.risen ([] ++ takeS l (l.length + 1) n)))] (Under.Sort_c ([] ++ takeS l (l.length + 1) n) (by first | omega | (have z := take_all hw hs hc1; (try simp only [List.length_append, List.length_cons, List.length_nil]); omega) | (have z1 := left_len l n k; first | omega | (simp only [List.length_append, List.length_cons, List.length_nil]; omega))) 26) ?_
  rw [show Under.risen ([] ++ takeS l (l.length + 1) n) = goneT l n from take_gone hw hs hc1]
  refine gQ ?_
  refine AMx.ent (s' := AS.lst 49 [(2, vc (SC.ref 1 (rl [slT l]))), (4, vp 4 0), (9, vp 9 0)] [(4, AObj.row [.s (SC.nilsl)]), (9, AObj.row [.s (AL.Fnv.slS (goneT l n))])]) (ent_freeze (id := 26) (T := 9) (by kernel_rfl)) ?_
  refine gR [] [] 49 [(2, vc (SC.ref 1 (rl [slT l]))), (4, vp 4 0), (9, vp 9 0), (11, vc (SC.nilsl))] [(4, AObj.row [.s (SC.nilsl)]), (9, AObj.row [.s (AL.Fnv.slS (goneT l n))])] trivial ?_
  refine gQ ?_
  refine gS [] [] 49 [(4, vp 4 0), (9, vp 9 0), (11, vc (SC.nilsl)), (30, vc (slT l)), (31, vc (i6 (List.length l : Int))), (32, vc (i6 0))] [(4, AObj.row [.s (SC.nilsl)]), (9, AObj.row [.s (AL.Fnv.slS (goneT l n))])] trivial ?_
  refine AMx.block ?_
  refine AMx.ent (s' := AS.lst 49 [(4, vp 4 0), (9, vp 9 0), (11, vo 11), (30, vc (slT l)), (31, vc (i6 (List.length l : Int))), (32, vc (i6 0))] [(11, AObj.grow 41 3 TokV tokd rowT []), (4, AObj.row [.s (SC.nilsl)]), (9, AObj.row [.s (AL.Fnv.slS (goneT l n))])]) (ent_adopt (t := 11) (d := 11) 41 3 TokV tokd rowT (by kernel_rfl) (by kernel_rfl) (by kernel_rfl) (by kernel_rfl)) ?_
  refine AMx.ent (s' := AS.lst 49 [(4, vp 4 0), (9, vp 9 0), (11, vo 11), (30, vc (slT l)), (31, vc (i6 (List.length l : Int))), (32, vc (i6 0))] [(4, AObj.row [.s (SC.nilsl)]), (9, AObj.row [.s (AL.Fnv.slS (goneT l n))]), (11, AObj.grow 41 3 TokV tokd rowT [])]) (ent_proj [4, 9, 11, 30, 31, 32] [4, 9, 11]) ?_
  refine AMx.loop (fun mm ss => ∃ (k : Nat), (k ≤ l.length) ∧ mm = l.length - k ∧ ss = AS.lst 49 [(4, vp 4 0), (9, vp 9 0), (11, vo 11), (30, vc (slT l)), (31, vc (i6 (List.length l : Int))), (32, vc (i6 (k : Int)))] [(4, AObj.row [.s (SC.nilsl)]), (9, AObj.row [.s (AL.Fnv.slS (goneT l n))]), (11, AObj.grow 41 3 TokV tokd rowT (leftTo l n k))]) ⟨0, ?_, rfl, ?_⟩ ?_
  · omega
  · rfl
  rintro mm ss ⟨k, hI, rfl, rfl⟩
  refine gS [] [] 49 [(4, vp 4 0), (9, vp 9 0), (11, vo 11), (30, vc (slT l)), (31, vc (i6 (List.length l : Int))), (32, vc (i6 (k : Int))), (33, vc (bo (decide ((k : Int) < (List.length l : Int)))))] [(4, AObj.row [.s (SC.nilsl)]), (9, AObj.row [.s (AL.Fnv.slS (goneT l n))]), (11, AObj.grow 41 3 TokV tokd rowT (leftTo l n k))] trivial ?_
  refine gQ ?_
  refine gC ((k : Int) < (List.length l : Int)) (fun hc2 => ?_) fun hc2 => ?_
  ·
   refine AMx.skip ?_
   refine gQ ?_
   refine AMx.block ?_
   refine gS [] [(0 : Int) ≤ (k : Int), (k : Int) < List.length l] 49 [(4, vp 4 0), (9, vp 9 0), (11, vo 11), (13, vp 13 0), (30, vc (slT l)), (31, vc (i6 (List.length l : Int))), (32, vc (i6 (k : Int)))] [(4, AObj.row [.s (SC.nilsl)]), (9, AObj.row [.s (AL.Fnv.slS (goneT l n))]), (11, AObj.grow 41 3 TokV tokd rowT (leftTo l n k)), (13, AObj.row [.s (st ((List.getD l k tokd).1)), .s (st ((List.getD l k tokd).2.1)), .s (AL.Policy.slP ((List.getD l k tokd).2.2))])] ⟨(by first | omega | (have z := take_all hw hs hc1; (try simp only [List.length_append, List.length_cons, List.length_nil]); omega) | (have z1 := left_len l n k; first | omega | (simp only [List.length_append, List.length_cons, List.length_nil]; omega))), (show (k : Int) < List.length l from (by first | omega | (have z := take_all hw hs hc1; (try simp only [List.length_append, List.length_cons, List.length_nil]); omega) | (have z1 := left_len l n k; first | omega | (simp only [List.length_append, List.length_cons, List.length_nil]; omega))))⟩ ?_
   refine gS [(3, CE.call [] [] (vc (bo (decide (0 ≤ Lib.idxS (fun y => decide ((List.getD l k tokd).1 = y)) (goneT l n))))) [])] [Spec Tryz.prog 48 [tc (AL.Fnv.slS (goneT l n)), tc (st ((List.getD l k tokd).1))] (ofH []) (vc (bo (decide (0 ≤ Lib.idxS (fun y => decide ((List.getD l k tokd).1 = y)) (goneT l n))))) (ofH [])] 49 [(4, vp 4 0), (9, vp 9 0), (11, vo 11), (13, vp 13 0), (30, vc (slT l)), (31, vc (i6 (List.length l : Int))), (32, vc (i6 (k : Int))), (40, vc (bo (!(decide (0 ≤ Lib.idxS (fun y => decide ((List.getD l k tokd).1 = y)) (goneT l n))))))] [(4, AObj.row [.s (SC.nilsl)]), (9, AObj.row [.s (AL.Fnv.slS (goneT l n))]), (11, AObj.grow 41 3 TokV tokd rowT (leftTo l n k)), (13, AObj.row [.s (st ((List.getD l k tokd).1)), .s (st ((List.getD l k tokd).2.1)), .s (AL.Policy.slP ((List.getD l k tokd).2.2))])] (ContainsS_c (goneT l n) ((List.getD l k tokd).1)) ?_
   refine gB (!(decide (0 ≤ Lib.idxS (fun y => decide ((List.getD l k tokd).1 = y)) (goneT l n)))) (fun hc3 => ?_) fun hc3 => ?_
   ·
    try simp only [xT, xF, xN, xM] at hc3
    refine gR [(2, CE.obj (AObj.grow 41 3 TokV tokd rowT [(List.getD l k tokd)])), (3, CE.obj (AObj.grow 41 3 TokV tokd rowT ((leftTo l n k) ++ [(List.getD l k tokd)])))] [flat 3 rowT [(List.getD l k tokd)] = [.s (st ((List.getD l k tokd).1)), .s (st ((List.getD l k tokd).2.1)), .s (AL.Policy.slP ((List.getD l k tokd).2.2))], List.length ([(List.getD l k tokd)] : List TokV) = 1, AppC (flat 3 rowT [(List.getD l k tokd)]) (List.length ([(List.getD l k tokd)] : List TokV)) 56 (AObj.grow 41 3 TokV tokd rowT (leftTo l n k)) (AObj.grow 41 3 TokV tokd rowT ((leftTo l n k) ++ [(List.getD l k tokd)]))] 49 [(4, vp 4 0), (9, vp 9 0), (11, vo 44), (30, vc (slT l)), (31, vc (i6 (List.length l : Int))), (32, vc (i6 (k : Int)))] [(4, AObj.row [.s (SC.nilsl)]), (9, AObj.row [.s (AL.Fnv.slS (goneT l n))]), (44, AObj.grow 41 3 TokV tokd rowT ((leftTo l n k) ++ [(List.getD l k tokd)]))] ⟨rfl, rfl, (⟨_, rfl, rfl, rfl, by have z1 := left_len l n k; simp only [List.length_append, List.length_cons, List.length_nil]; omega, by have z1 := left_len l n k; simp only [maxLen, List.length_append, List.length_cons, List.length_nil]; omega⟩)⟩ ?_
    refine AMx.blk ?_
    refine gR [] [InR .i64 ((k : Int) + 1)] 49 [(4, vp 4 0), (9, vp 9 0), (11, vo 44), (30, vc (slT l)), (31, vc (i6 (List.length l : Int))), (32, vc (i6 ((k : Int) + 1)))] [(4, AObj.row [.s (SC.nilsl)]), (9, AObj.row [.s (AL.Fnv.slS (goneT l n))]), (44, AObj.grow 41 3 TokV tokd rowT ((leftTo l n k) ++ [(List.getD l k tokd)]))] (show InR .i64 ((k : Int) + 1) from (inR64 (by first | omega | (have z := take_all hw hs hc1; (try simp only [List.length_append, List.length_cons, List.length_nil]); omega) | (have z1 := left_len l n k; first | omega | (simp only [List.length_append, List.length_cons, List.length_nil]; omega))) (by first | omega | (have z := take_all hw hs hc1; (try simp only [List.length_append, List.length_cons, List.length_nil]); omega) | (have z1 := left_len l n k; first | omega | (simp only [List.length_append, List.length_cons, List.length_nil]; omega))))) ?_
    refine AMx.ent_inv (s' := AS.lst 49 [(4, vp 4 0), (9, vp 9 0), (11, vo 11), (30, vc (slT l)), (31, vc (i6 (List.length l : Int))), (32, vc (i6 ((k : Int) + 1)))] [(4, AObj.row [.s (SC.nilsl)]), (9, AObj.row [.s (AL.Fnv.slS (goneT l n))]), (11, AObj.grow 41 3 TokV tokd rowT ((leftTo l n k) ++ [(List.getD l k tokd)]))]) (ent_swap 44 11 (by kernel_rfl) (by kernel_rfl)) ?_
    refine AMx.ent_inv (s' := AS.lst 49 [(4, vp 4 0), (9, vp 9 0), (11, vo 11), (30, vc (slT l)), (31, vc (i6 (List.length l : Int))), (32, vc (i6 ((k : Int) + 1)))] [(4, AObj.row [.s (SC.nilsl)]), (9, AObj.row [.s (AL.Fnv.slS (goneT l n))]), (11, AObj.grow 41 3 TokV tokd rowT ((leftTo l n k) ++ [(List.getD l k tokd)]))]) (ent_proj [4, 9, 11, 30, 31, 32] [4, 9, 11]) ?_
    refine AMx.inv ⟨_, ?_, k + 1, ?_, rfl, ?_⟩
    rotate_left
    · omega
    · rw [(left_n (by omega) (has_n hs (Lib.getD_mem tokd l k (by omega)) hc3)).1]; rfl
    · omega
   ·
    try simp only [xT, xF, xN, xM] at hc3
    refine AMx.skip ?_
    refine AMx.blk ?_
    refine gR [] [InR .i64 ((k : Int) + 1)] 49 [(4, vp 4 0), (9, vp 9 0), (11, vo 11), (30, vc (slT l)), (31, vc (i6 (List.length l : Int))), (32, vc (i6 ((k : Int) + 1)))] [(4, AObj.row [.s (SC.nilsl)]), (9, AObj.row [.s (AL.Fnv.slS (goneT l n))]), (11, AObj.grow 41 3 TokV tokd rowT (leftTo l n k))] (show InR .i64 ((k : Int) + 1) from (inR64 (by first | omega | (have z := take_all hw hs hc1; (try simp only [List.length_append, List.length_cons, List.length_nil]); omega) | (have z1 := left_len l n k; first | omega | (simp only [List.length_append, List.length_cons, List.length_nil]; omega))) (by first | omega | (have z := take_all hw hs hc1; (try simp only [List.length_append, List.length_cons, List.length_nil]); omega) | (have z1 := left_len l n k; first | omega | (simp only [List.length_append, List.length_cons, List.length_nil]; omega))))) ?_
    refine AMx.ent_inv (s' := AS.lst 49 [(4, vp 4 0), (9, vp 9 0), (11, vo 11), (30, vc (slT l)), (31, vc (i6 (List.length l : Int))), (32, vc (i6 ((k : Int) + 1)))] [(4, AObj.row [.s (SC.nilsl)]), (9, AObj.row [.s (AL.Fnv.slS (goneT l n))]), (11, AObj.grow 41 3 TokV tokd rowT (leftTo l n k))]) (ent_proj [4, 9, 11, 30, 31, 32] [4, 9, 11]) ?_
    refine AMx.inv ⟨_, ?_, k + 1, ?_, rfl, ?_⟩
    rotate_left
    · omega
    · rw [(left_y (by omega) (has_y hs (Lib.getD_mem tokd l k (by omega)) hc3)).1]; rfl
    · omega
  ·
   refine AMx.exit ?_
   refine AMx.code_exit ?_
   refine AMx.inv_exit ?_
   refine AMx.blk_exit ?_
   refine gY [] [(2, [9]), (3, [4])] [] 49 [(4, vp 4 0), (5, vc (AL.Fnv.slS (goneT l n))), (6, vc (i6 0))] [(4, AObj.row [.own 11]), (11, AObj.grow 41 3 TokV tokd rowT (leftTo l n k))] mixed trivial ?_
   refine AMx.ent (s' := AS.lst 49 [(4, vp 4 0), (5, vc (AL.Fnv.slS (goneT l n))), (6, vc (i6 0))] [(4, AObj.row [.s (slT (leftTo l n k))])]) (ent_freeze (id := 11) (T := 41) (by kernel_rfl)) ?_
   exact gT (AV.tup [TV.agg [.s (slT (leftTo l n k))], tc (AL.Fnv.slS (goneT l n)), tc (i6 0)]) (by rw [show revokeT l n = (leftTo l n k, goneT l n, 0) from by unfold revokeT; first | (rw [if_pos (by omega)]; done) | (rw [if_neg (by omega), (left_end (n := n) (show l.length ≤ k by omega)).1])])
end AL.Token
namespace AL.Quill
open Go AL
set_option linter.unusedVariables false
set_option linter.unusedSimpArgs false
abbrev ScanV := Bytes × Int × Int
def bigS (l : Bytes) : Int := l.foldl (fun n b => 256 * n + (b.toNat : Int)) 0
theorem big_snoc (l : Bytes) (b : UInt8) : bigS (l ++ [b]) = 256 * bigS l + (b.toNat : Int) := by
  unfold bigS; rw [List.foldl_append]; rfl
theorem big_step (l : Bytes) (k : Nat) (h : k < l.length) : bigS (List.take (k + 1) l) = 256 * bigS (List.take k l) + ((List.getD l k 0).toNat : Int) := by
  rw [Lib.take_succ 0 l k h, big_snoc]
theorem big_rng : ∀ (n : Nat) (l : Bytes), l.length ≤ n → 0 ≤ bigS l ∧ bigS l < 256 ^ n
  | 0, l, h => by
    obtain rfl := List.eq_nil_of_length_eq_zero (Nat.le_zero.1 h)
    exact ⟨Int.le_refl _, by decide⟩
  | n + 1, l, h => by
    rcases List.eq_nil_or_concat l with rfl | ⟨l', b, rfl⟩
    · refine ⟨Int.le_refl _, ?_⟩
      show (0 : Int) < _
      exact Int.pow_pos (by decide)
    · rw [List.concat_eq_append] at *
      rw [List.length_append] at h
      have q := big_rng n l' (by simpa using h)
      have hb := UInt8.toNat_lt b
      rw [big_snoc, Int.pow_succ]
      omega
theorem big_2 {l : Bytes} (h : l.length ≤ 2) : 0 ≤ bigS l ∧ bigS l < 65536 := big_rng 2 l h
theorem wrap_64 {n : Int} (h : 0 ≤ n) (h2 : n < 18446744073709551616) : IntKind.wrap .u64 n = n := by
  simp [IntKind.wrap, IntKind.signed, IntKind.bits]
  omega
theorem pow_8 : (2 : Int) ^ (min (8 : Int).toNat (IntKind.bits .u64)) = 256 := by decide
theorem or_big {n : Int} {b : Nat} (h0 : 0 ≤ n) (h1 : n < 4294967296) (hb : b < 256) :
    IntKind.wrap .u64 ((BitVec.ofInt 64 (IntKind.wrap .u64 (n * 2 ^ (min (8 : Int).toNat (IntKind.bits .u64)))) ||| BitVec.ofInt 64 (b : Int)).toNat) = 256 * n + (b : Int) := by
  obtain ⟨m, rfl⟩ := Int.eq_ofNat_of_zero_le h0
  rw [pow_8, wrap_64 (n := (m : Int) * 256) (by omega) (by omega)]
  have e1 : ((m : Int) * 256) = ((256 * m : Nat) : Int) := by omega
  rw [e1, BitVec.ofInt_natCast, BitVec.ofInt_natCast, BitVec.toNat_or, BitVec.toNat_ofNat, BitVec.toNat_ofNat, Nat.mod_eq_of_lt (by omega), Nat.mod_eq_of_lt (by omega)]
  have e2 : 256 * m ||| b = 256 * m + b := (Nat.two_pow_add_eq_or_of_lt (i := 8) (by omega) m).symm
  rw [e2, wrap_64 (by omega) (by omega)]
  omega
def numQ (x : ScanV) (n : Int) : Int × ScanV :=
  if ¬ x.2.2 = 0 then (0, x) else if x.2.1 < 0 ∨ (x.1.length : Int) < x.2.1 then (0, (x.1, x.2.1, 2)) else if (x.1.length : Int) - x.2.1 < n then (0, (x.1, x.2.1, 3)) else
  (bigS (List.drop x.2.1.toNat (List.take (x.2.1 + n).toNat x.1)), (x.1, x.2.1 + n, 0))
theorem num_1 {x : ScanV} {n : Int} (h : ¬ x.2.2 = 0) : numQ x n = (0, x) := if_pos h
theorem num_2 {x : ScanV} {n : Int} (h : x.2.2 = 0) (h2 : x.2.1 < 0 ∨ (x.1.length : Int) < x.2.1) : numQ x n = (0, (x.1, x.2.1, 2)) := by
  unfold numQ; rw [if_neg (fun q => q h), if_pos h2]
theorem num_3 {x : ScanV} {n : Int} (h : x.2.2 = 0) (h2 : 0 ≤ x.2.1 ∧ x.2.1 ≤ (x.1.length : Int)) (h3 : (x.1.length : Int) - x.2.1 < n) : numQ x n = (0, (x.1, x.2.1, 3)) := by
  unfold numQ; rw [if_neg (fun q => q h), if_neg (by omega), if_pos h3]
theorem num_4 {x : ScanV} {n : Int} (h : x.2.2 = 0) (h2 : 0 ≤ x.2.1 ∧ x.2.1 ≤ (x.1.length : Int)) (h3 : ¬ (x.1.length : Int) - x.2.1 < n) : numQ x n = (bigS (List.drop x.2.1.toNat (List.take (x.2.1 + n).toNat x.1)), (x.1, x.2.1 + n, 0)) := by
  unfold numQ; rw [if_neg (fun q => q h), if_neg (by omega), if_neg h3]
theorem num_len (x : ScanV) (n : Int) : (numQ x n).2.1 = x.1 := by
  unfold numQ; (repeat' split) <;> rfl
theorem num_cases (x : ScanV) {n : Int} (h1 : 1 ≤ n) (h2 : n ≤ 2) : (numQ x n).1 = 0 ∧ ¬ (numQ x n).2.2.2 = 0 ∨ (x.2.2 = 0 ∧ 0 ≤ x.2.1 ∧ x.2.1 + n ≤ (x.1.length : Int) ∧ (numQ x n).2 = (x.1, x.2.1 + n, 0) ∧ 0 ≤ (numQ x n).1 ∧ (numQ x n).1 < 65536) := by
  by_cases h : x.2.2 = 0
  · by_cases q : x.2.1 < 0 ∨ (x.1.length : Int) < x.2.1
    · left; rw [num_2 h q]; exact ⟨rfl, fun z => absurd (show (2 : Int) = 0 from z) (by decide)⟩
    · by_cases q2 : (x.1.length : Int) - x.2.1 < n
      · left; rw [num_3 h (by omega) q2]; exact ⟨rfl, fun z => absurd (show (3 : Int) = 0 from z) (by decide)⟩
      · right; rw [num_4 h (by omega) q2]
        have z := big_2 (l := List.drop x.2.1.toNat (List.take (x.2.1 + n).toNat x.1)) (by rw [List.length_drop, List.length_take]; omega)
        exact ⟨h, by omega, by omega, rfl, z.1, z.2⟩
  · left; rw [num_1 h]; exact ⟨rfl, h⟩
def rowQ (x : ScanV) : Bytes × ScanV :=
  if ¬ (numQ x 2).2.2.2 = 0 then ([], (numQ x 2).2) else if ((numQ x 2).2.1.length : Int) - (numQ x 2).2.2.1 < (numQ x 2).1 then ([], (x.1, x.2.1, 3)) else
  (List.drop (numQ x 2).2.2.1.toNat (List.take ((numQ x 2).2.2.1 + (numQ x 2).1).toNat x.1), (x.1, (numQ x 2).2.2.1 + (numQ x 2).1, 0))
theorem row_1 {x : ScanV} (h : ¬ (numQ x 2).2.2.2 = 0) : rowQ x = ([], (numQ x 2).2) := if_pos h
theorem row_2 {x : ScanV} (h : (numQ x 2).2.2.2 = 0) (h2 : ((numQ x 2).2.1.length : Int) - (numQ x 2).2.2.1 < (numQ x 2).1) : rowQ x = ([], (x.1, x.2.1, 3)) := by
  unfold rowQ; rw [if_neg (fun q => q h), if_pos h2]
theorem row_3 {x : ScanV} (h : (numQ x 2).2.2.2 = 0) (h2 : ¬ ((numQ x 2).2.1.length : Int) - (numQ x 2).2.2.1 < (numQ x 2).1) : rowQ x = (List.drop (numQ x 2).2.2.1.toNat (List.take ((numQ x 2).2.2.1 + (numQ x 2).1).toNat x.1), (x.1, (numQ x 2).2.2.1 + (numQ x 2).1, 0)) := by
  unfold rowQ; rw [if_neg (fun q => q h), if_neg h2]
theorem row_cases (x : ScanV) : ((rowQ x).1 = [] ∧ ¬ (rowQ x).2.2.2 = 0 ∧ (rowQ x).2.1 = x.1) ∨ (x.2.2 = 0 ∧ 0 ≤ x.2.1 ∧ (rowQ x).2 = (x.1, x.2.1 + 2 + ((rowQ x).1.length : Int), 0) ∧ x.2.1 + 2 + ((rowQ x).1.length : Int) ≤ (x.1.length : Int) ∧ (rowQ x).1.length < 65536) := by
  rcases num_cases x (n := 2) (by decide) (by decide) with ⟨_, h⟩ | ⟨h1, h2, h3, h4, h5, h6⟩
  · left; rw [row_1 h]; exact ⟨rfl, h, num_len x 2⟩
  · have h0 : (numQ x 2).2.2.2 = 0 := by rw [h4]
    by_cases q : ((numQ x 2).2.1.length : Int) - (numQ x 2).2.2.1 < (numQ x 2).1
    · left; rw [row_2 h0 q]; exact ⟨rfl, fun z => absurd (show (3 : Int) = 0 from z) (by decide), rfl⟩
    · right
      rw [row_3 h0 q]
      rw [h4] at q ⊢
      have e : (List.drop (x.2.1 + 2).toNat (List.take (x.2.1 + 2 + (numQ x 2).1).toNat x.1)).length = (numQ x 2).1.toNat := by
        rw [List.length_drop, List.length_take]
        simp only [] at q
        omega
      simp only [] at q ⊢
      rw [e]
      refine ⟨h1, h2, ?_, by omega, by omega⟩
      rw [show ((numQ x 2).1.toNat : Int) = (numQ x 2).1 by omega]
def be2 (n : Int) : Bytes := [UInt8.ofNat (n / 256 % 256).toNat, UInt8.ofNat (n % 256).toNat]
theorem byte_of {n : Int} (h : 0 ≤ n) : (UInt8.ofNat (n % 256).toNat).toNat = (n % 256).toNat := by
  rw [UInt8.toNat_ofNat']; omega
theorem wrap_8 (n : Int) : IntKind.wrap .u8 n = ((UInt8.ofNat (n % 256).toNat).toNat : Int) := by
  rw [UInt8.toNat_ofNat']
  simp [IntKind.wrap, IntKind.signed, IntKind.bits]
  omega
theorem be2_len (n : Int) : (be2 n).length = 2 := rfl
theorem lay_at {n : Int} {j : Nat} (hj : j < 2) : flat 1 rowU8 [List.getD (be2 n) j 0] = [AC.s (u8 (IntKind.wrap .u8 (Int.fdiv n (2 ^ (min (8 - 8 * (j : Int)).toNat (IntKind.bits .u64))))))] := by
  have h : j = 0 ∨ j = 1 := by omega
  rcases h with rfl | rfl
  · rw [show (2 : Int) ^ (min (8 - 8 * ((0 : Nat) : Int)).toNat (IntKind.bits .u64)) = 256 by decide, wrap_8, Int.fdiv_eq_ediv_of_nonneg _ (by decide)]; rfl
  · rw [show (2 : Int) ^ (min (8 - 8 * ((1 : Nat) : Int)).toNat (IntKind.bits .u64)) = 1 by decide, wrap_8, Int.fdiv_eq_ediv_of_nonneg _ (by decide), Int.ediv_one]; rfl
theorem lay_step (b : Bytes) (n : Int) {j : Nat} (hj : j < 2) : (b ++ List.take j (be2 n)) ++ [List.getD (be2 n) j 0] = b ++ List.take (j + 1) (be2 n) := by
  rw [Lib.take_succ 0 (be2 n) j (by rw [be2_len]; exact hj), List.append_assoc]
theorem lay_end (b : Bytes) (n : Int) {j : Nat} (hj : 2 ≤ j) : b ++ List.take j (be2 n) = b ++ be2 n := by
  rw [List.take_of_length_le (by rw [be2_len]; exact hj)]
theorem big_be2 {n : Int} (h : 0 ≤ n) (h2 : n < 65536) : bigS (be2 n) = n := by
  unfold bigS be2
  simp only [List.foldl_cons, List.foldl_nil]
  rw [byte_of h, byte_of (by omega)]
  omega
def rowB (s : Bytes) : Bytes := be2 (s.length : Int) ++ s
theorem rowB_len (s : Bytes) : (rowB s).length = 2 + s.length := by unfold rowB; rw [List.length_append, be2_len]
theorem num_lay (a b c : Bytes) {n : Int} (hb : (b.length : Int) = n) : numQ (a ++ (b ++ c), (a.length : Int), 0) n = (bigS b, (a ++ (b ++ c), ((a ++ b).length : Int), 0)) := by
  rw [num_4 rfl (by simp only [List.length_append]; omega) (by simp only [List.length_append]; omega)]
  have e : List.drop ((a.length : Int)).toNat (List.take ((a.length : Int) + n).toNat (a ++ (b ++ c))) = b := by
    rw [← hb, show ((a.length : Int) + (b.length : Int)).toNat = (a ++ b).length by rw [List.length_append]; omega, ← List.append_assoc, List.take_left, Int.toNat_natCast, List.drop_left]
  simp only [] at e ⊢
  rw [e, ← hb, List.length_append]
  simp
theorem row_lay (a s c : Bytes) (hs : s.length < 65536) : rowQ (a ++ (rowB s ++ c), (a.length : Int), 0) = (s, (a ++ (rowB s ++ c), ((a ++ rowB s).length : Int), 0)) := by
  have h := num_lay a (be2 (s.length : Int)) (s ++ c) (n := 2) rfl
  rw [← List.append_assoc (be2 (s.length : Int)) s c] at h
  rw [big_be2 (by omega) (by omega)] at h
  have h0 : (numQ (a ++ (rowB s ++ c), (a.length : Int), 0) 2) = ((s.length : Int), (a ++ (rowB s ++ c), ((a ++ be2 (s.length : Int)).length : Int), 0)) := h
  rw [row_3 (by rw [h0]) (by rw [h0]; simp only [List.length_append, rowB, be2_len]; omega), h0]
  have e : List.drop (((a ++ be2 (s.length : Int)).length : Int)).toNat (List.take (((a ++ be2 (s.length : Int)).length : Int) + (s.length : Int)).toNat (a ++ (rowB s ++ c))) = s := by
    rw [show a ++ (rowB s ++ c) = (a ++ be2 (s.length : Int)) ++ (s ++ c) by unfold rowB; simp only [List.append_assoc], show (((a ++ be2 (s.length : Int)).length : Int) + (s.length : Int)).toNat = ((a ++ be2 (s.length : Int)) ++ s).length by simp only [List.length_append]; omega, ← List.append_assoc, List.take_left, Int.toNat_natCast, List.drop_left]
  simp only [] at e ⊢
  rw [e]
  simp only [List.length_append, rowB, be2_len]
  refine Prod.ext rfl (Prod.ext rfl (Prod.ext ?_ rfl))
  simp only []
  omega
end AL.Quill
