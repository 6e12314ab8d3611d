/- mounts: the contracts of its functions, by their walks. No condition. -/
import Derived.Test.YtfedegdihgeelaaDoorMountA
namespace AL.Mount
open Go Go.Proofs AL
open AL.Quill (rowQ numQ rowB)
set_option linter.unusedVariables false
set_option linter.unusedSimpArgs false

theorem f23_body : Tryd.f23.body = some (.seq (.region 0 (rg Tryd.f23 0) false) (.seq (.region 1 (rg Tryd.f23 1) false) (.seq (.seq (.region 2 (rg Tryd.f23 2) false) (.block 0 (.loop (.seq (.region 3 (rg Tryd.f23 3) false) (.seq (.cond (.tmp 14) (.skip) (.exit 0)) (.seq (.block 1 (.seq (.region 4 (rg Tryd.f23 4) false) (.region 5 (rg Tryd.f23 5) false))) (.region 6 (rg Tryd.f23 6) false))))))) (.seq (.region 7 (rg Tryd.f23 7) false) (.ret))))) := by kernel_rfl

set_option maxRecDepth 100000 in
set_option maxHeartbeats 8000000 in
theorem paths_c (l : List MountV) (hb : l.length ≤ 1000) : Pure Tryd.prog 23 [TV.agg [.s (AL.Mount.slM l)]] (vc (AL.Fnv.slS (pathsM l))) := by
 refine Pure.of_body Tryd.func23 f23_body (by kernel_rfl) Tryd.ntmps23 (by kernel_rfl) (by kernel_rfl) ?_
 refine gS [] [] 25 [(1, vp 1 0)] [(1, AObj.row [.s (AL.Mount.slM l)])] trivial ?_
 refine gS [(3, CE.obj (AObj.grow 9 1 Bytes [] AL.Fnv.rowS (List.replicate (List.length l) [])))] [0 ≤ (List.length l : Int), (List.length l : Int) ≤ (List.length l : Int), (16 : Int) * (List.length l : Int) ≤ 281474976710656, (List.length l : Int) ≤ 9223372036854775807, MakeC (List.length l) [.s (st [])] (AObj.grow 9 1 Bytes [] AL.Fnv.rowS (List.replicate (List.length l) []))] 25 [(1, vp 1 0), (3, vo 9)] [(1, AObj.row [.s (AL.Mount.slM l)]), (9, AObj.grow 9 1 Bytes [] AL.Fnv.rowS (List.replicate (List.length l) []))] ⟨(show 0 ≤ (List.length l : Int) from (by first | omega | (simp only [List.length_append, List.length_replicate, paths_len, List.length_take]; omega))), (show (List.length l : Int) ≤ (List.length l : Int) from (by first | omega | (simp only [List.length_append, List.length_replicate, paths_len, List.length_take]; omega))), (show (16 : Int) * (List.length l : Int) ≤ 281474976710656 from (by first | omega | (simp only [List.length_append, List.length_replicate, paths_len, List.length_take]; omega))), (show (List.length l : Int) ≤ 9223372036854775807 from (by first | omega | (simp only [List.length_append, List.length_replicate, paths_len, List.length_take]; omega))), (⟨_, rfl, rfl⟩)⟩ ?_
 refine gQ ?_
 refine gS [] [] 25 [(3, vo 9), (11, vc (AL.Mount.slM l)), (12, vc (i6 (List.length l : Int))), (13, vc (i6 0))] [(9, AObj.grow 9 1 Bytes [] AL.Fnv.rowS (List.replicate (List.length l) []))] trivial ?_
 refine AMx.block ?_
 refine AMx.ent (s' := AS.lst 25 [(3, vo 9), (11, vc (AL.Mount.slM l)), (12, vc (i6 (List.length l : Int))), (13, vc (i6 0))] [(9, AObj.grow 9 1 Bytes [] AL.Fnv.rowS (List.replicate (List.length l) []))]) (ent_proj [3, 11, 12, 13] [9]) ?_
 refine AMx.loop (fun mm ss => ∃ (k : Nat), (k ≤ l.length) ∧ mm = l.length - k ∧ ss = AS.lst 25 [(3, vo 9), (11, vc (AL.Mount.slM l)), (12, vc (i6 (List.length l : Int))), (13, vc (i6 (k : Int)))] [(9, AObj.grow 9 1 Bytes [] AL.Fnv.rowS (pathsM (List.take k l) ++ List.replicate (List.length l - k) []))]) ⟨0, ?_, rfl, ?_⟩ ?_
 · omega
 · rfl
 rintro mm ss ⟨k, hI, rfl, rfl⟩
 refine gS [] [] 25 [(3, vo 9), (11, vc (AL.Mount.slM l)), (12, vc (i6 (List.length l : Int))), (13, vc (i6 (k : Int))), (14, vc (bo (decide ((k : Int) < (List.length l : Int)))))] [(9, AObj.grow 9 1 Bytes [] AL.Fnv.rowS (pathsM (List.take k l) ++ List.replicate (List.length l - k) []))] trivial ?_
 refine gQ ?_
 refine gC ((k : Int) < (List.length l : Int)) (fun hc1 => ?_) fun hc1 => ?_
 ·
  refine AMx.skip ?_
  refine gQ ?_
  refine AMx.block ?_
  refine gS [] [(0 : Int) ≤ (k : Int), (k : Int) < List.length l] 25 [(3, vo 9), (4, vc (i6 (k : Int))), (5, vp 5 0), (11, vc (AL.Mount.slM l)), (12, vc (i6 (List.length l : Int))), (13, vc (i6 (k : Int)))] [(5, AObj.row [.s (st ((List.getD l k AL.Mount.md).1)), .s (i6 (((List.getD l k AL.Mount.md).2).1)), .s (bo (((List.getD l k AL.Mount.md).2).2))]), (9, AObj.grow 9 1 Bytes [] AL.Fnv.rowS (pathsM (List.take k l) ++ List.replicate (List.length l - k) []))] ⟨(show (0 : Int) ≤ (k : Int) from (by first | omega | (simp only [List.length_append, List.length_replicate, paths_len, List.length_take]; omega))), (show (k : Int) < List.length l from (by first | omega | (simp only [List.length_append, List.length_replicate, paths_len, List.length_take]; omega)))⟩ ?_
  refine gR [(5, CE.obj (AObj.grow 9 1 Bytes [] AL.Fnv.rowS (List.set (pathsM (List.take k l) ++ List.replicate (List.length l - k) []) k ((List.getD l k AL.Mount.md).1))))] [(0 : Int) ≤ (k : Int), (k : Int) < List.length (pathsM (List.take k l) ++ List.replicate (List.length l - k) [] : List Bytes), StoreC k 0 [.s (st ((List.getD l k AL.Mount.md).1))] (AObj.grow 9 1 Bytes [] AL.Fnv.rowS (pathsM (List.take k l) ++ List.replicate (List.length l - k) [])) (AObj.grow 9 1 Bytes [] AL.Fnv.rowS (List.set (pathsM (List.take k l) ++ List.replicate (List.length l - k) []) k ((List.getD l k AL.Mount.md).1)))] 25 [(3, vo 9), (11, vc (AL.Mount.slM l)), (12, vc (i6 (List.length l : Int))), (13, vc (i6 (k : Int)))] [(9, AObj.grow 9 1 Bytes [] AL.Fnv.rowS (List.set (pathsM (List.take k l) ++ List.replicate (List.length l - k) []) k ((List.getD l k AL.Mount.md).1)))] ⟨(show (0 : Int) ≤ (k : Int) from (by first | omega | (simp only [List.length_append, List.length_replicate, paths_len, List.length_take]; omega))), (show (k : Int) < List.length (pathsM (List.take k l) ++ List.replicate (List.length l - k) [] : List Bytes) from (by first | omega | (simp only [List.length_append, List.length_replicate, paths_len, List.length_take]; omega))), (⟨(List.getD l k AL.Mount.md).1, rfl, by first | omega | (simp only [List.length_append, List.length_replicate, paths_len, List.length_take]; omega), rfl⟩)⟩ ?_
  refine AMx.blk ?_
  refine gR [] [InR .i64 ((k : Int) + 1)] 25 [(3, vo 9), (11, vc (AL.Mount.slM l)), (12, vc (i6 (List.length l : Int))), (13, vc (i6 ((k : Int) + 1)))] [(9, AObj.grow 9 1 Bytes [] AL.Fnv.rowS (List.set (pathsM (List.take k l) ++ List.replicate (List.length l - k) []) k ((List.getD l k AL.Mount.md).1)))] (show InR .i64 ((k : Int) + 1) from (inR64 (by first | omega | (simp only [List.length_append, List.length_replicate, paths_len, List.length_take]; omega)) (by first | omega | (simp only [List.length_append, List.length_replicate, paths_len, List.length_take]; omega)))) ?_
  refine AMx.ent_inv (s' := AS.lst 25 [(3, vo 9), (11, vc (AL.Mount.slM l)), (12, vc (i6 (List.length l : Int))), (13, vc (i6 ((k : Int) + 1)))] [(9, AObj.grow 9 1 Bytes [] AL.Fnv.rowS (List.set (pathsM (List.take k l) ++ List.replicate (List.length l - k) []) k ((List.getD l k AL.Mount.md).1)))]) (ent_proj [3, 11, 12, 13] [9]) ?_
  refine AMx.inv ⟨_, ?_, k + 1, ?_, rfl, ?_⟩
  rotate_left
  · omega
  · rw [← paths_step l k (by omega)]; rfl
  · omega
 ·
  refine AMx.exit ?_
  refine AMx.code_exit ?_
  refine AMx.inv_exit ?_
  refine AMx.blk_exit ?_
  rw [show pathsM (List.take k l) ++ List.replicate (List.length l - k) [] = pathsM l from paths_end l k (by omega)]
  refine gS [] [] 25 [(2, vo 9)] [(9, AObj.grow 9 1 Bytes [] AL.Fnv.rowS (pathsM l))] trivial ?_
  refine AMx.ent (s' := AS.lst 25 [(2, vc (AL.Fnv.slS (pathsM l)))] []) (ent_freeze (id := 9) (T := 9) (by kernel_rfl)) ?_
  exact gT (vc (AL.Fnv.slS (pathsM l))) rfl

theorem f18_body : Tryd.f18.body = some (.seq (.region 0 (rg Tryd.f18 0) false) (.seq (.region 1 (rg Tryd.f18 1) false) (.seq (.seq (.region 2 (rg Tryd.f18 2) false) (.block 0 (.loop (.seq (.region 3 (rg Tryd.f18 3) false) (.seq (.cond (.tmp 10) (.skip) (.exit 0)) (.seq (.block 1 (.seq (.region 4 (rg Tryd.f18 4) false) (.region 5 (rg Tryd.f18 5) false))) (.region 6 (rg Tryd.f18 6) false))))))) (.seq (.region 7 (rg Tryd.f18 7) false) (.ret))))) := by kernel_rfl

set_option maxRecDepth 100000 in
set_option maxHeartbeats 8000000 in
theorem Length_c (l : List MountV) (hm : ∀ m ∈ l, m.1.length ≤ 60000) (hb : l.length ≤ 10) : Pure Tryd.prog 18 [TV.agg [.s (AL.Mount.slM l)]] (vc (i6 (lengthM l : Int))) := by
 refine Pure.of_body Tryd.func18 f18_body (by kernel_rfl) Tryd.ntmps18 (by kernel_rfl) (by kernel_rfl) ?_
 refine gS [] [] 21 [(1, vp 1 0)] [(1, AObj.row [.s (AL.Mount.slM l)])] trivial ?_
 refine gS [] [] 21 [(1, vp 1 0), (3, vc (i6 0))] [(1, AObj.row [.s (AL.Mount.slM l)])] trivial ?_
 refine gQ ?_
 refine gS [] [] 21 [(3, vc (i6 0)), (7, vc (AL.Mount.slM l)), (8, vc (i6 (List.length l : Int))), (9, vc (i6 0))] [] trivial ?_
 refine AMx.block ?_
 refine AMx.ent (s' := AS.lst 21 [(3, vc (i6 0)), (7, vc (AL.Mount.slM l)), (8, vc (i6 (List.length l : Int))), (9, vc (i6 0))] []) (ent_proj [3, 7, 8, 9] []) ?_
 refine AMx.loop (fun mm ss => ∃ (k : Nat), (k ≤ l.length) ∧ mm = l.length - k ∧ ss = AS.lst 21 [(3, vc (i6 (lengthM (List.take k l) : Int))), (7, vc (AL.Mount.slM l)), (8, vc (i6 (List.length l : Int))), (9, vc (i6 (k : Int)))] []) ⟨0, ?_, rfl, ?_⟩ ?_
 · omega
 · rfl
 rintro mm ss ⟨k, hI, rfl, rfl⟩
 refine gS [] [] 21 [(3, vc (i6 (lengthM (List.take k l) : Int))), (7, vc (AL.Mount.slM l)), (8, vc (i6 (List.length l : Int))), (9, vc (i6 (k : Int))), (10, vc (bo (decide ((k : Int) < (List.length l : Int)))))] [] trivial ?_
 refine gQ ?_
 refine gC ((k : Int) < (List.length l : Int)) (fun hc1 => ?_) fun hc1 => ?_
 ·
  refine AMx.skip ?_
  refine gQ ?_
  refine AMx.block ?_
  refine gS [] [(0 : Int) ≤ (k : Int), (k : Int) < List.length l] 21 [(3, vc (i6 (lengthM (List.take k l) : Int))), (5, vp 5 0), (7, vc (AL.Mount.slM l)), (8, vc (i6 (List.length l : Int))), (9, vc (i6 (k : Int)))] [(5, AObj.row [.s (st ((List.getD l k AL.Mount.md).1)), .s (i6 (((List.getD l k AL.Mount.md).2).1)), .s (bo (((List.getD l k AL.Mount.md).2).2))])] ⟨(show (0 : Int) ≤ (k : Int) from (by first | omega | (have q1 := length_le hm k; have q2 : l.length * (4 + 60000) ≤ 10 * (4 + 60000) := Nat.mul_le_mul_right _ hb; have q3 := hm _ (Lib.getD_mem md l k (by omega)); omega))), (show (k : Int) < List.length l from (by first | omega | (have q1 := length_le hm k; have q2 : l.length * (4 + 60000) ≤ 10 * (4 + 60000) := Nat.mul_le_mul_right _ hb; have q3 := hm _ (Lib.getD_mem md l k (by omega)); omega)))⟩ ?_
  refine gR [] [InR .i64 (4 + (List.length ((List.getD l k AL.Mount.md).1 : List UInt8) : Int)), InR .i64 ((lengthM (List.take k l) : Int) + (4 + (List.length ((List.getD l k AL.Mount.md).1 : List UInt8) : Int)))] 21 [(3, vc (i6 ((lengthM (List.take k l) : Int) + (4 + (List.length ((List.getD l k AL.Mount.md).1 : List UInt8) : Int))))), (7, vc (AL.Mount.slM l)), (8, vc (i6 (List.length l : Int))), (9, vc (i6 (k : Int)))] [] ⟨(show InR .i64 (4 + (List.length ((List.getD l k AL.Mount.md).1 : List UInt8) : Int)) from (inR64 (by first | omega | (have q1 := length_le hm k; have q2 : l.length * (4 + 60000) ≤ 10 * (4 + 60000) := Nat.mul_le_mul_right _ hb; have q3 := hm _ (Lib.getD_mem md l k (by omega)); omega)) (by first | omega | (have q1 := length_le hm k; have q2 : l.length * (4 + 60000) ≤ 10 * (4 + 60000) := Nat.mul_le_mul_right _ hb; have q3 := hm _ (Lib.getD_mem md l k (by omega)); omega)))), (show InR .i64 ((lengthM (List.take k l) : Int) + (4 + (List.length ((List.getD l k AL.Mount.md).1 : List UInt8) : Int))) from (inR64 (by first | omega | (have q1 := length_le hm k; have q2 : l.length * (4 + 60000) ≤ 10 * (4 + 60000) := Nat.mul_le_mul_right _ hb; have q3 := hm _ (Lib.getD_mem md l k (by omega)); omega)) (by first | omega | (have q1 := length_le hm k; have q2 : l.length * (4 + 60000) ≤ 10 * (4 + 60000) := Nat.mul_le_mul_right _ hb; have q3 := hm _ (Lib.getD_mem md l k (by omega)); omega))))⟩ ?_
  refine AMx.blk ?_
  refine gR [] [InR .i64 ((k : Int) + 1)] 21 [(3, vc (i6 ((lengthM (List.take k l) : Int) + (4 + (List.length ((List.getD l k AL.Mount.md).1 : List UInt8) : Int))))), (7, vc (AL.Mount.slM l)), (8, vc (i6 (List.length l : Int))), (9, vc (i6 ((k : Int) + 1)))] [] (show InR .i64 ((k : Int) + 1) from (inR64 (by first | omega | (have q1 := length_le hm k; have q2 : l.length * (4 + 60000) ≤ 10 * (4 + 60000) := Nat.mul_le_mul_right _ hb; have q3 := hm _ (Lib.getD_mem md l k (by omega)); omega)) (by first | omega | (have q1 := length_le hm k; have q2 : l.length * (4 + 60000) ≤ 10 * (4 + 60000) := Nat.mul_le_mul_right _ hb; have q3 := hm _ (Lib.getD_mem md l k (by omega)); omega)))) ?_
  refine AMx.ent_inv (s' := AS.lst 21 [(3, vc (i6 ((lengthM (List.take k l) : Int) + (4 + (List.length ((List.getD l k AL.Mount.md).1 : List UInt8) : Int))))), (7, vc (AL.Mount.slM l)), (8, vc (i6 (List.length l : Int))), (9, vc (i6 ((k : Int) + 1)))] []) (ent_proj [3, 7, 8, 9] []) ?_
  refine AMx.inv ⟨_, ?_, k + 1, ?_, rfl, ?_⟩
  rotate_left
  · omega
  · rw [length_step l k (by omega)]; rfl
  · omega
 ·
  refine AMx.exit ?_
  refine AMx.code_exit ?_
  refine AMx.inv_exit ?_
  refine AMx.blk_exit ?_
  rw [show List.take k l = l from List.take_of_length_le (by omega)]
  refine gS [] [] 21 [(2, vc (i6 (lengthM l : Int)))] [] trivial ?_
  exact gT (vc (i6 (lengthM l : Int))) rfl

theorem f16_body : Tryd.f16.body = some (.seq (.region 0 (rg Tryd.f16 0) false) (.seq (.region 1 (rg Tryd.f16 1) false) (.seq (.seq (.region 2 (rg Tryd.f16 2) false) (.block 0 (.loop (.seq (.region 3 (rg Tryd.f16 3) false) (.seq (.cond (.tmp 11) (.skip) (.exit 0)) (.seq (.block 1 (.seq (.region 4 (rg Tryd.f16 4) false) (.seq (.region 5 (rg Tryd.f16 5) false) (.seq (.region 6 (rg Tryd.f16 6) false) (.seq (.seq (.region 7 (rg Tryd.f16 7) false) (.cond (.tmp 23) (.region 8 (rg Tryd.f16 8) false) (.skip))) (.region 9 (rg Tryd.f16 9) false)))))) (.region 10 (rg Tryd.f16 10) false))))))) (.seq (.region 11 (rg Tryd.f16 11) false) (.ret))))) := by kernel_rfl

set_option maxRecDepth 100000 in
set_option maxHeartbeats 8000000 in
theorem Text_c (l : List MountV) (hm : ∀ m ∈ l, m.1.length ≤ 60000) (hb : l.length ≤ 10) : Pure Tryd.prog 16 [TV.agg [.s (AL.Mount.slM l)]] (vc (st (textM l))) := by
 refine Pure.of_body Tryd.func16 f16_body (by kernel_rfl) Tryd.ntmps16 (by kernel_rfl) (by kernel_rfl) ?_
 refine gS [] [] 35 [(1, vp 1 0)] [(1, AObj.row [.s (AL.Mount.slM l)])] trivial ?_
 refine gS [] [] 35 [(1, vp 1 0), (3, vc (SC.nilsl))] [(1, AObj.row [.s (AL.Mount.slM l)])] trivial ?_
 refine gQ ?_
 refine gS [] [] 35 [(3, vc (SC.nilsl)), (8, vc (AL.Mount.slM l)), (9, vc (i6 (List.length l : Int))), (10, vc (i6 0))] [] trivial ?_
 refine AMx.block ?_
 refine AMx.ent (s' := AS.lst 35 [(3, vo 3), (8, vc (AL.Mount.slM l)), (9, vc (i6 (List.length l : Int))), (10, vc (i6 0))] [(3, AObj.grow 5 1 UInt8 0 rowU8 [])]) (ent_adopt (t := 3) (d := 3) 5 1 UInt8 0 rowU8 (by kernel_rfl) (by kernel_rfl) (by kernel_rfl) (by kernel_rfl)) ?_
 refine AMx.ent (s' := AS.lst 35 [(3, vo 3), (8, vc (AL.Mount.slM l)), (9, vc (i6 (List.length l : Int))), (10, vc (i6 0))] [(3, AObj.grow 5 1 UInt8 0 rowU8 [])]) (ent_proj [3, 8, 9, 10] [3]) ?_
 refine AMx.loop (fun mm ss => ∃ (k : Nat), (k ≤ l.length) ∧ mm = l.length - k ∧ ss = AS.lst 35 [(3, vo 3), (8, vc (AL.Mount.slM l)), (9, vc (i6 (List.length l : Int))), (10, vc (i6 (k : Int)))] [(3, AObj.grow 5 1 UInt8 0 rowU8 (textM (List.take k l)))]) ⟨0, ?_, rfl, ?_⟩ ?_
 · omega
 · rfl
 rintro mm ss ⟨k, hI, rfl, rfl⟩
 refine gS [] [] 35 [(3, vo 3), (8, vc (AL.Mount.slM l)), (9, vc (i6 (List.length l : Int))), (10, vc (i6 (k : Int))), (11, vc (bo (decide ((k : Int) < (List.length l : Int)))))] [(3, AObj.grow 5 1 UInt8 0 rowU8 (textM (List.take k l)))] trivial ?_
 refine gQ ?_
 refine gC ((k : Int) < (List.length l : Int)) (fun hc1 => ?_) fun hc1 => ?_
 ·
  refine AMx.skip ?_
  refine gQ ?_
  refine AMx.block ?_
  refine gS [] [(0 : Int) ≤ (k : Int), (k : Int) < List.length l] 35 [(3, vo 3), (5, vp 5 0), (8, vc (AL.Mount.slM l)), (9, vc (i6 (List.length l : Int))), (10, vc (i6 (k : Int)))] [(3, AObj.grow 5 1 UInt8 0 rowU8 (textM (List.take k l))), (5, AObj.row [.s (st ((List.getD l k AL.Mount.md).1)), .s (i6 (((List.getD l k AL.Mount.md).2).1)), .s (bo (((List.getD l k AL.Mount.md).2).2))])] ⟨(show (0 : Int) ≤ (k : Int) from (by first | omega | (have q1 := length_le hm l.length; rw [List.take_length] at q1; unfold lengthM at q1; have q2 : l.length * (4 + 60000) ≤ 10 * (4 + 60000) := Nat.mul_le_mul_right _ hb; omega) | (have q1 := length_le hm k; unfold lengthM at q1; have q2 : l.length * (4 + 60000) ≤ 10 * (4 + 60000) := Nat.mul_le_mul_right _ hb; have q3 := hm _ (Lib.getD_mem md l k (by omega)); first | omega | (simp only [List.length_append, List.length_cons, List.length_nil, Quill.rowB_len]; omega)))), (show (k : Int) < List.length l from (by first | omega | (have q1 := length_le hm l.length; rw [List.take_length] at q1; unfold lengthM at q1; have q2 : l.length * (4 + 60000) ≤ 10 * (4 + 60000) := Nat.mul_le_mul_right _ hb; omega) | (have q1 := length_le hm k; unfold lengthM at q1; have q2 : l.length * (4 + 60000) ≤ 10 * (4 + 60000) := Nat.mul_le_mul_right _ hb; have q3 := hm _ (Lib.getD_mem md l k (by omega)); first | omega | (simp only [List.length_append, List.length_cons, List.length_nil, Quill.rowB_len]; omega))))⟩ ?_
  refine gS [(3, CE.call [3] [] (AV.tup [TV.c (.own 18), tc (i6 0)]) [(18, AObj.grow 5 1 UInt8 0 rowU8 ((textM (List.take k l)) ++ AL.Quill.rowB ((List.getD l k AL.Mount.md).1)))])] [Spec Tryd.prog 32 [tc (SC.sl 1 UInt8 0 rowU8 (textM (List.take k l))), tc (st ((List.getD l k AL.Mount.md).1))] (ofH []) (AV.tup [TV.c (.own 18), tc (i6 0)]) (ofH [(18, AObj.grow 5 1 UInt8 0 rowU8 ((textM (List.take k l)) ++ AL.Quill.rowB ((List.getD l k AL.Mount.md).1)))])] 35 [(3, vo 18), (5, vp 5 0), (8, vc (AL.Mount.slM l)), (9, vc (i6 (List.length l : Int))), (10, vc (i6 (k : Int)))] [(5, AObj.row [.s (st ((List.getD l k AL.Mount.md).1)), .s (i6 (((List.getD l k AL.Mount.md).2).1)), .s (bo (((List.getD l k AL.Mount.md).2).2))]), (18, AObj.grow 5 1 UInt8 0 rowU8 ((textM (List.take k l)) ++ AL.Quill.rowB ((List.getD l k AL.Mount.md).1)))] (AL.Quill.QRow_c (textM (List.take k l)) ((List.getD l k AL.Mount.md).1) (by first | omega | (have q1 := length_le hm l.length; rw [List.take_length] at q1; unfold lengthM at q1; have q2 : l.length * (4 + 60000) ≤ 10 * (4 + 60000) := Nat.mul_le_mul_right _ hb; omega) | (have q1 := length_le hm k; unfold lengthM at q1; have q2 : l.length * (4 + 60000) ≤ 10 * (4 + 60000) := Nat.mul_le_mul_right _ hb; have q3 := hm _ (Lib.getD_mem md l k (by omega)); first | omega | (simp only [List.length_append, List.length_cons, List.length_nil, Quill.rowB_len]; omega))) (by first | omega | (have q1 := length_le hm l.length; rw [List.take_length] at q1; unfold lengthM at q1; have q2 : l.length * (4 + 60000) ≤ 10 * (4 + 60000) := Nat.mul_le_mul_right _ hb; omega) | (have q1 := length_le hm k; unfold lengthM at q1; have q2 : l.length * (4 + 60000) ≤ 10 * (4 + 60000) := Nat.mul_le_mul_right _ hb; have q3 := hm _ (Lib.getD_mem md l k (by omega)); first | omega | (simp only [List.length_append, List.length_cons, List.length_nil, Quill.rowB_len]; omega))) 18) ?_
  refine gS [] [] 35 [(3, vo 18), (5, vp 5 0), (6, vc (u8 0)), (8, vc (AL.Mount.slM l)), (9, vc (i6 (List.length l : Int))), (10, vc (i6 (k : Int)))] [(5, AObj.row [.s (st ((List.getD l k AL.Mount.md).1)), .s (i6 (((List.getD l k AL.Mount.md).2).1)), .s (bo (((List.getD l k AL.Mount.md).2).2))]), (18, AObj.grow 5 1 UInt8 0 rowU8 ((textM (List.take k l)) ++ AL.Quill.rowB ((List.getD l k AL.Mount.md).1)))] trivial ?_
  refine gQ ?_
  refine gS [] [] 35 [(3, vo 18), (5, vp 5 0), (6, vc (u8 0)), (8, vc (AL.Mount.slM l)), (9, vc (i6 (List.length l : Int))), (10, vc (i6 (k : Int))), (23, vc (bo (((List.getD l k AL.Mount.md).2).2)))] [(5, AObj.row [.s (st ((List.getD l k AL.Mount.md).1)), .s (i6 (((List.getD l k AL.Mount.md).2).1)), .s (bo (((List.getD l k AL.Mount.md).2).2))]), (18, AObj.grow 5 1 UInt8 0 rowU8 ((textM (List.take k l)) ++ AL.Quill.rowB ((List.getD l k AL.Mount.md).1)))] trivial ?_
  refine gB (((List.getD l k AL.Mount.md).2).2) (fun hc2 => ?_) fun hc2 => ?_
  ·
   try simp only [xT, xF] at hc2
   refine gR [] [] 35 [(3, vo 18), (5, vp 5 0), (6, vc (u8 1)), (8, vc (AL.Mount.slM l)), (9, vc (i6 (List.length l : Int))), (10, vc (i6 (k : Int)))] [(5, AObj.row [.s (st ((List.getD l k AL.Mount.md).1)), .s (i6 (((List.getD l k AL.Mount.md).2).1)), .s (bo (((List.getD l k AL.Mount.md).2).2))]), (18, AObj.grow 5 1 UInt8 0 rowU8 ((textM (List.take k l)) ++ AL.Quill.rowB ((List.getD l k AL.Mount.md).1)))] trivial ?_
   refine gR [(6, CE.obj (AObj.grow 5 1 UInt8 0 rowU8 [b8 (List.getD l k AL.Mount.md).2.1, bitB (List.getD l k AL.Mount.md).2.2])), (7, CE.obj (AObj.grow 5 1 UInt8 0 rowU8 (((textM (List.take k l)) ++ AL.Quill.rowB ((List.getD l k AL.Mount.md).1)) ++ [b8 (List.getD l k AL.Mount.md).2.1, bitB (List.getD l k AL.Mount.md).2.2])))] [flat 1 rowU8 [b8 (List.getD l k AL.Mount.md).2.1, bitB (List.getD l k AL.Mount.md).2.2] = [.s (u8 (IntKind.wrap .u8 (((List.getD l k AL.Mount.md).2).1))), .s (u8 1)], List.length ([b8 (List.getD l k AL.Mount.md).2.1, bitB (List.getD l k AL.Mount.md).2.2] : List UInt8) = 2, AppC (flat 1 rowU8 [b8 (List.getD l k AL.Mount.md).2.1, bitB (List.getD l k AL.Mount.md).2.2]) (List.length ([b8 (List.getD l k AL.Mount.md).2.1, bitB (List.getD l k AL.Mount.md).2.2] : List UInt8)) 1 (AObj.grow 5 1 UInt8 0 rowU8 ((textM (List.take k l)) ++ AL.Quill.rowB ((List.getD l k AL.Mount.md).1))) (AObj.grow 5 1 UInt8 0 rowU8 (((textM (List.take k l)) ++ AL.Quill.rowB ((List.getD l k AL.Mount.md).1)) ++ [b8 (List.getD l k AL.Mount.md).2.1, bitB (List.getD l k AL.Mount.md).2.2]))] 35 [(3, vo 31), (8, vc (AL.Mount.slM l)), (9, vc (i6 (List.length l : Int))), (10, vc (i6 (k : Int)))] [(31, AObj.grow 5 1 UInt8 0 rowU8 (((textM (List.take k l)) ++ AL.Quill.rowB ((List.getD l k AL.Mount.md).1)) ++ [b8 (List.getD l k AL.Mount.md).2.1, bitB (List.getD l k AL.Mount.md).2.2]))] ⟨(two_b (by first | exact bit_t (by assumption) | exact bit_f (by assumption))), rfl, (⟨_, rfl, rfl, rfl, by have q1 := length_le hm k; unfold lengthM at q1; have q2 : l.length * (4 + 60000) ≤ 10 * (4 + 60000) := Nat.mul_le_mul_right _ hb; have q3 := hm _ (Lib.getD_mem md l k (by omega)); simp only [List.length_append, List.length_cons, List.length_nil, Quill.rowB_len]; omega, by have q1 := length_le hm k; unfold lengthM at q1; have q2 : l.length * (4 + 60000) ≤ 10 * (4 + 60000) := Nat.mul_le_mul_right _ hb; have q3 := hm _ (Lib.getD_mem md l k (by omega)); simp only [maxLen, List.length_append, List.length_cons, List.length_nil, Quill.rowB_len]; omega⟩)⟩ ?_
   refine AMx.blk ?_
   refine gR [] [InR .i64 ((k : Int) + 1)] 35 [(3, vo 31), (8, vc (AL.Mount.slM l)), (9, vc (i6 (List.length l : Int))), (10, vc (i6 ((k : Int) + 1)))] [(31, AObj.grow 5 1 UInt8 0 rowU8 (((textM (List.take k l)) ++ AL.Quill.rowB ((List.getD l k AL.Mount.md).1)) ++ [b8 (List.getD l k AL.Mount.md).2.1, bitB (List.getD l k AL.Mount.md).2.2]))] (show InR .i64 ((k : Int) + 1) from (inR64 (by first | omega | (have q1 := length_le hm l.length; rw [List.take_length] at q1; unfold lengthM at q1; have q2 : l.length * (4 + 60000) ≤ 10 * (4 + 60000) := Nat.mul_le_mul_right _ hb; omega) | (have q1 := length_le hm k; unfold lengthM at q1; have q2 : l.length * (4 + 60000) ≤ 10 * (4 + 60000) := Nat.mul_le_mul_right _ hb; have q3 := hm _ (Lib.getD_mem md l k (by omega)); first | omega | (simp only [List.length_append, List.length_cons, List.length_nil, Quill.rowB_len]; omega))) (by first | omega | (have q1 := length_le hm l.length; rw [List.take_length] at q1; unfold lengthM at q1; have q2 : l.length * (4 + 60000) ≤ 10 * (4 + 60000) := Nat.mul_le_mul_right _ hb; omega) | (have q1 := length_le hm k; unfold lengthM at q1; have q2 : l.length * (4 + 60000) ≤ 10 * (4 + 60000) := Nat.mul_le_mul_right _ hb; have q3 := hm _ (Lib.getD_mem md l k (by omega)); first | omega | (simp only [List.length_append, List.length_cons, List.length_nil, Quill.rowB_len]; omega))))) ?_
   refine AMx.ent_inv (s' := AS.lst 35 [(3, vo 3), (8, vc (AL.Mount.slM l)), (9, vc (i6 (List.length l : Int))), (10, vc (i6 ((k : Int) + 1)))] [(3, AObj.grow 5 1 UInt8 0 rowU8 (((textM (List.take k l)) ++ AL.Quill.rowB ((List.getD l k AL.Mount.md).1)) ++ [b8 (List.getD l k AL.Mount.md).2.1, bitB (List.getD l k AL.Mount.md).2.2]))]) (ent_swap 31 3 (by kernel_rfl) (by kernel_rfl)) ?_
   refine AMx.ent_inv (s' := AS.lst 35 [(3, vo 3), (8, vc (AL.Mount.slM l)), (9, vc (i6 (List.length l : Int))), (10, vc (i6 ((k : Int) + 1)))] [(3, AObj.grow 5 1 UInt8 0 rowU8 (((textM (List.take k l)) ++ AL.Quill.rowB ((List.getD l k AL.Mount.md).1)) ++ [b8 (List.getD l k AL.Mount.md).2.1, bitB (List.getD l k AL.Mount.md).2.2]))]) (ent_proj [3, 8, 9, 10] [3]) ?_
   refine AMx.inv ⟨_, ?_, k + 1, ?_, rfl, ?_⟩
   rotate_left
   · omega
   · rw [List.append_assoc, text_step l k (by omega)]; rfl
   · omega
  ·
   try simp only [xT, xF] at hc2
   refine AMx.skip ?_
   refine gR [(6, CE.obj (AObj.grow 5 1 UInt8 0 rowU8 [b8 (List.getD l k AL.Mount.md).2.1, bitB (List.getD l k AL.Mount.md).2.2])), (7, CE.obj (AObj.grow 5 1 UInt8 0 rowU8 (((textM (List.take k l)) ++ AL.Quill.rowB ((List.getD l k AL.Mount.md).1)) ++ [b8 (List.getD l k AL.Mount.md).2.1, bitB (List.getD l k AL.Mount.md).2.2])))] [flat 1 rowU8 [b8 (List.getD l k AL.Mount.md).2.1, bitB (List.getD l k AL.Mount.md).2.2] = [.s (u8 (IntKind.wrap .u8 (((List.getD l k AL.Mount.md).2).1))), .s (u8 0)], List.length ([b8 (List.getD l k AL.Mount.md).2.1, bitB (List.getD l k AL.Mount.md).2.2] : List UInt8) = 2, AppC (flat 1 rowU8 [b8 (List.getD l k AL.Mount.md).2.1, bitB (List.getD l k AL.Mount.md).2.2]) (List.length ([b8 (List.getD l k AL.Mount.md).2.1, bitB (List.getD l k AL.Mount.md).2.2] : List UInt8)) 1 (AObj.grow 5 1 UInt8 0 rowU8 ((textM (List.take k l)) ++ AL.Quill.rowB ((List.getD l k AL.Mount.md).1))) (AObj.grow 5 1 UInt8 0 rowU8 (((textM (List.take k l)) ++ AL.Quill.rowB ((List.getD l k AL.Mount.md).1)) ++ [b8 (List.getD l k AL.Mount.md).2.1, bitB (List.getD l k AL.Mount.md).2.2]))] 35 [(3, vo 31), (8, vc (AL.Mount.slM l)), (9, vc (i6 (List.length l : Int))), (10, vc (i6 (k : Int)))] [(31, AObj.grow 5 1 UInt8 0 rowU8 (((textM (List.take k l)) ++ AL.Quill.rowB ((List.getD l k AL.Mount.md).1)) ++ [b8 (List.getD l k AL.Mount.md).2.1, bitB (List.getD l k AL.Mount.md).2.2]))] ⟨(two_b (by first | exact bit_t (by assumption) | exact bit_f (by assumption))), rfl, (⟨_, rfl, rfl, rfl, by have q1 := length_le hm k; unfold lengthM at q1; have q2 : l.length * (4 + 60000) ≤ 10 * (4 + 60000) := Nat.mul_le_mul_right _ hb; have q3 := hm _ (Lib.getD_mem md l k (by omega)); simp only [List.length_append, List.length_cons, List.length_nil, Quill.rowB_len]; omega, by have q1 := length_le hm k; unfold lengthM at q1; have q2 : l.length * (4 + 60000) ≤ 10 * (4 + 60000) := Nat.mul_le_mul_right _ hb; have q3 := hm _ (Lib.getD_mem md l k (by omega)); simp only [maxLen, List.length_append, List.length_cons, List.length_nil, Quill.rowB_len]; omega⟩)⟩ ?_
   refine AMx.blk ?_
   refine gR [] [InR .i64 ((k : Int) + 1)] 35 [(3, vo 31), (8, vc (AL.Mount.slM l)), (9, vc (i6 (List.length l : Int))), (10, vc (i6 ((k : Int) + 1)))] [(31, AObj.grow 5 1 UInt8 0 rowU8 (((textM (List.take k l)) ++ AL.Quill.rowB ((List.getD l k AL.Mount.md).1)) ++ [b8 (List.getD l k AL.Mount.md).2.1, bitB (List.getD l k AL.Mount.md).2.2]))] (show InR .i64 ((k : Int) + 1) from (inR64 (by first | omega | (have q1 := length_le hm l.length; rw [List.take_length] at q1; unfold lengthM at q1; have q2 : l.length * (4 + 60000) ≤ 10 * (4 + 60000) := Nat.mul_le_mul_right _ hb; omega) | (have q1 := length_le hm k; unfold lengthM at q1; have q2 : l.length * (4 + 60000) ≤ 10 * (4 + 60000) := Nat.mul_le_mul_right _ hb; have q3 := hm _ (Lib.getD_mem md l k (by omega)); first | omega | (simp only [List.length_append, List.length_cons, List.length_nil, Quill.rowB_len]; omega))) (by first | omega | (have q1 := length_le hm l.length; rw [List.take_length] at q1; unfold lengthM at q1; have q2 : l.length * (4 + 60000) ≤ 10 * (4 + 60000) := Nat.mul_le_mul_right _ hb; omega) | (have q1 := length_le hm k; unfold lengthM at q1; have q2 : l.length * (4 + 60000) ≤ 10 * (4 + 60000) := Nat.mul_le_mul_right _ hb; have q3 := hm _ (Lib.getD_mem md l k (by omega)); first | omega | (simp only [List.length_append, List.length_cons, List.length_nil, Quill.rowB_len]; omega))))) ?_
   refine AMx.ent_inv (s' := AS.lst 35 [(3, vo 3), (8, vc (AL.Mount.slM l)), (9, vc (i6 (List.length l : Int))), (10, vc (i6 ((k : Int) + 1)))] [(3, AObj.grow 5 1 UInt8 0 rowU8 (((textM (List.take k l)) ++ AL.Quill.rowB ((List.getD l k AL.Mount.md).1)) ++ [b8 (List.getD l k AL.Mount.md).2.1, bitB (List.getD l k AL.Mount.md).2.2]))]) (ent_swap 31 3 (by kernel_rfl) (by kernel_rfl)) ?_
   refine AMx.ent_inv (s' := AS.lst 35 [(3, vo 3), (8, vc (AL.Mount.slM l)), (9, vc (i6 (List.length l : Int))), (10, vc (i6 ((k : Int) + 1)))] [(3, AObj.grow 5 1 UInt8 0 rowU8 (((textM (List.take k l)) ++ AL.Quill.rowB ((List.getD l k AL.Mount.md).1)) ++ [b8 (List.getD l k AL.Mount.md).2.1, bitB (List.getD l k AL.Mount.md).2.2]))]) (ent_proj [3, 8, 9, 10] [3]) ?_
   refine AMx.inv ⟨_, ?_, k + 1, ?_, rfl, ?_⟩
   rotate_left
   · omega
   · rw [List.append_assoc, text_step l k (by omega)]; rfl
   · omega
 ·
  refine AMx.exit ?_
  refine AMx.code_exit ?_
  refine AMx.inv_exit ?_
  refine AMx.blk_exit ?_
  rw [show List.take k l = l from List.take_of_length_le (by omega)]
  refine gS [(1, CE.str (textM l))] [flat 1 rowU8 (textM l) = flat 1 rowU8 (textM l), List.length (textM l : List UInt8) = List.length (textM l : List UInt8), (List.length (textM l : List UInt8) : Int) ≤ 140737488355328] 35 [(2, vc (st (textM l)))] [] ⟨rfl, rfl, (show (List.length (textM l : List UInt8) : Int) ≤ 140737488355328 from (by first | omega | (have q1 := length_le hm l.length; rw [List.take_length] at q1; unfold lengthM at q1; have q2 : l.length * (4 + 60000) ≤ 10 * (4 + 60000) := Nat.mul_le_mul_right _ hb; omega) | (have q1 := length_le hm k; unfold lengthM at q1; have q2 : l.length * (4 + 60000) ≤ 10 * (4 + 60000) := Nat.mul_le_mul_right _ hb; have q3 := hm _ (Lib.getD_mem md l k (by omega)); first | omega | (simp only [List.length_append, List.length_cons, List.length_nil, Quill.rowB_len]; omega))))⟩ ?_
  exact gT (vc (st (textM l))) rfl

end AL.Mount
