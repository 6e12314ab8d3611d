/- gate: the contracts of its functions, by their walks. No condition. -/
import Derived.Test.YtbfhmgbgehenoaaGateD
import Derived.Test.YtbfhmgbgehenoaaFnvA
namespace AL.Gate
open Go Go.Proofs AL AL.Fnv
set_option linter.unusedVariables false
set_option linter.unusedSimpArgs false

theorem f81_body : Try.f81.body = some (.seq (.region 0 (rg Try.f81 0) false) (.seq (.region 1 (rg Try.f81 1) false) (.ret))) := by kernel_rfl

set_option maxRecDepth 100000 in
set_option maxHeartbeats 8000000 in
theorem findC_c (x : One) (w : Int) : Pure Try.prog 81 [TV.agg [.s (i6 x.1), .s (u8 x.2)], tc (SC.ref 1 (rl [i6 w]))] (vc (bo (decide (x.1 = w)))) := by
 refine Pure.of_body Try.func81 f81_body (by kernel_rfl) Try.ntmps81 (by kernel_rfl) (by kernel_rfl) ?_
 refine gS [] [] 8 [(1, vc (SC.ref 1 (rl [i6 w]))), (2, vp 2 0)] [(2, AObj.row [.s (i6 x.1), .s (u8 x.2)])] trivial ?_
 refine gS [] [] 8 [(3, vc (bo (decide (x.1 = w))))] [] trivial ?_
 exact gT (vc (bo (decide (x.1 = w)))) rfl

theorem f80_body : Try.f80.body = some (.seq (.region 0 (rg Try.f80 0) false) (.seq (.seq (.region 1 (rg Try.f80 1) false) (.block 0 (.loop (.seq (.region 2 (rg Try.f80 2) false) (.seq (.cond (.tmp 9) (.skip) (.exit 0)) (.seq (.block 1 (.seq (.region 3 (rg Try.f80 3) false) (.seq (.region 4 (rg Try.f80 4) false) (.cond (.tmp 16) (.seq (.region 5 (rg Try.f80 5) false) (.ret)) (.skip))))) (.region 6 (rg Try.f80 6) false))))))) (.seq (.region 7 (rg Try.f80 7) false) (.ret)))) := by kernel_rfl

set_option maxRecDepth 100000 in
set_option maxHeartbeats 8000000 in
theorem Index_c (f : FuncId) (caps : List Cap) (p : One → Bool) (hf : ∀ x : One, Pure Try.prog f ([TV.agg [.s (i6 x.1), .s (u8 x.2)]] ++ List.map capT caps) (vc (bo (p x)))) (l : List One) : Pure Try.prog 80 [tc (slO l), TV.c (.fn f caps)] (vc (i6 (Lib.idxS p l))) := by
 refine Pure.of_body Try.func80 f80_body (by kernel_rfl) Try.ntmps80 (by kernel_rfl) (by kernel_rfl) ?_
 refine AMx.sl 0 (l := l) rfl (fun hl => ?_)
 simp only [maxLen] at hl
 refine gS [] [] 19 [(0, vc (slO l)), (1, AV.t (TV.c (.fn f caps)))] [] trivial ?_
 refine gQ ?_
 refine gS [] [] 19 [(0, vc (slO l)), (1, AV.t (TV.c (.fn f caps))), (7, vc (i6 (List.length l : Int))), (8, vc (i6 0))] [] trivial ?_
 refine AMx.block ?_
 refine AMx.ent (s' := AS.lst 19 [(0, vc (slO l)), (1, AV.t (TV.c (.fn f caps))), (7, vc (i6 (List.length l : Int))), (8, vc (i6 0))] []) (ent_proj [0, 1, 7, 8] []) ?_
 refine AMx.loop (fun mm ss => ∃ (k : Nat), (k ≤ l.length ∧ ∀ x ∈ List.take k l, p x = false) ∧ mm = l.length - k ∧ ss = AS.lst 19 [(0, vc (slO l)), (1, AV.t (TV.c (.fn f caps))), (7, vc (i6 (List.length l : Int))), (8, vc (i6 (k : Int)))] []) ⟨0, ?_, rfl, ?_⟩ ?_
 · exact ⟨by omega, fun x hx => by simp at hx⟩
 · rfl
 rintro mm ss ⟨k, ⟨hI, hN⟩, rfl, rfl⟩
 refine gS [] [] 19 [(0, vc (slO l)), (1, AV.t (TV.c (.fn f caps))), (7, vc (i6 (List.length l : Int))), (8, vc (i6 (k : Int))), (9, vc (bo (decide ((k : Int) < (List.length l : Int)))))] [] trivial ?_
 refine gQ ?_
 refine gC ((k : Int) < (List.length l : Int)) (fun hc1 => ?_) fun hc1 => ?_
 ·
  refine AMx.skip ?_
  refine gQ ?_
  refine AMx.block ?_
  refine gS [] [] 19 [(0, vc (slO l)), (1, AV.t (TV.c (.fn f caps))), (5, vc (i6 (k : Int))), (7, vc (i6 (List.length l : Int))), (8, vc (i6 (k : Int)))] [] trivial ?_
  refine gS [(5, CE.call [] [] (vc (bo (p (List.getD l k (0, 0))))) [])] [(0 : Int) ≤ (k : Int), (k : Int) < List.length l, Spec Try.prog f ([TV.agg [.s (i6 ((List.getD l k (0, 0)).1)), .s (u8 ((List.getD l k (0, 0)).2))]] ++ List.map capT caps) (ofH []) (vc (bo (p (List.getD l k (0, 0))))) (ofH [])] 19 [(0, vc (slO l)), (1, AV.t (TV.c (.fn f caps))), (5, vc (i6 (k : Int))), (7, vc (i6 (List.length l : Int))), (8, vc (i6 (k : Int))), (16, vc (bo (p (List.getD l k (0, 0)))))] [] ⟨(by omega), (by omega), (hf (List.getD l k (0, 0)))⟩ ?_
  refine gB (p (List.getD l k (0, 0))) (fun hc2 => ?_) fun hc2 => ?_
  ·
   try simp only [xT, xF] at hc2
   refine gS [] [] 19 [(4, vc (i6 (k : Int)))] [] trivial ?_
   exact gT (vc (i6 (k : Int))) (by rw [Lib.idx_hit (0, 0) l k (by omega) hN (by assumption)])
  ·
   try simp only [xT, xF] at hc2
   refine AMx.skip ?_
   refine AMx.blk ?_
   refine gR [] [InR .i64 ((k : Int) + 1)] 19 [(0, vc (slO l)), (1, AV.t (TV.c (.fn f caps))), (7, vc (i6 (List.length l : Int))), (8, vc (i6 ((k : Int) + 1)))] [] (show InR .i64 ((k : Int) + 1) from (inR64 (by omega) (by omega))) ?_
   refine AMx.ent_inv (s' := AS.lst 19 [(0, vc (slO l)), (1, AV.t (TV.c (.fn f caps))), (7, vc (i6 (List.length l : Int))), (8, vc (i6 ((k : Int) + 1)))] []) (ent_proj [0, 1, 7, 8] []) ?_
   refine AMx.inv ⟨_, ?_, k + 1, ?_, rfl, ?_⟩
   rotate_left
   · exact ⟨by omega, Lib.all_step (0, 0) l k (by omega) hN (by assumption)⟩
   · rfl
   · omega
 ·
  refine AMx.exit ?_
  refine AMx.code_exit ?_
  refine AMx.inv_exit ?_
  refine AMx.blk_exit ?_
  refine gS [] [] 19 [(4, vc (i6 (-1)))] [] trivial ?_
  exact gT (vc (i6 (-1))) (by rw [Lib.idx_none (fun x hx => hN x (by rwa [List.take_of_length_le (by omega)]))])

theorem f62_body : Try.f62.body = some (.seq (.region 0 (rg Try.f62 0) false) (.seq (.region 1 (rg Try.f62 1) false) (.ret))) := by kernel_rfl

set_option maxRecDepth 100000 in
set_option maxHeartbeats 8000000 in
theorem find_c (l : List One) (w : Int) : Pure Try.prog 62 [tc (slO l), tc (i6 w)] (vc (i6 (findS l w))) := by
 refine Pure.of_body Try.func62 f62_body (by kernel_rfl) Try.ntmps62 (by kernel_rfl) (by kernel_rfl) ?_
 refine gS [(0, CE.shr none)] [] 8 [(0, vc (slO l)), (3, vc (SC.ref 1 (rl [i6 w])))] [] trivial ?_
 refine gS [(2, CE.call [] [] (vc (i6 (Lib.idxS (fun x : One => decide (x.1 = w)) l))) [])] [Spec Try.prog 80 [tc (slO l), TV.c (.fn 81 [.s (SC.ref 1 (rl [i6 w]))])] (ofH []) (vc (i6 (Lib.idxS (fun x : One => decide (x.1 = w)) l))) (ofH [])] 8 [(4, vc (i6 (Lib.idxS (fun x : One => decide (x.1 = w)) l)))] [] (Index_c 81 [.s (SC.ref 1 (rl [i6 w]))] (fun x : One => decide (x.1 = w)) (fun x => findC_c x w) l) ?_
 exact gT (vc (i6 (Lib.idxS (fun x : One => decide (x.1 = w)) l))) rfl

theorem f68_body : Try.f68.body = some (.seq (.region 0 (rg Try.f68 0) false) (.seq (.seq (.region 1 (rg Try.f68 1) false) (.cond (.tmp 6) (.region 2 (rg Try.f68 2) false) (.skip))) (.seq (.seq (.region 3 (rg Try.f68 3) false) (.seq (.region 4 (rg Try.f68 4) false) (.cond (.tmp 16) (.region 5 (rg Try.f68 5) false) (.skip)))) (.seq (.region 6 (rg Try.f68 6) false) (.ret))))) := by kernel_rfl

set_option maxRecDepth 100000 in
set_option maxHeartbeats 8000000 in
theorem Grow_c (n : Int) (h0 : 0 ≤ n) (hb : n * 16 ≤ 140737488355328) : ∀ d, Spec Try.prog 68 [tc (SC.nilsl), tc (i6 n)] H0 (vo d) (ofH [(d, AObj.grow 102 2 One (0, 0) rowO [])]) := by
 refine Own.of_body Try.func68 f68_body (by kernel_rfl) Try.ntmps68 (by kernel_rfl) rfl ?_
 refine gS [] [] 27 [(0, vc (SC.nilsl)), (1, vc (i6 n))] [] trivial ?_
 refine gQ ?_
 refine gS [] [] 27 [(0, vc (SC.nilsl)), (1, vc (i6 n)), (6, vc (bo (decide (n < 0))))] [] trivial ?_
 refine gC (n < 0) (fun hc1 => ?_) fun hc1 => ?_
 ·
  exfalso
  omega
 ·
  refine AMx.skip ?_
  refine gQ ?_
  refine gS [] [InR .i64 (0 - 0), InR .i64 (n - (0 - 0))] 27 [(0, vc (SC.nilsl)), (1, vc (i6 (n - (0 - 0))))] [] ⟨(inR64 (by omega) (by omega)), (show InR .i64 (n - (0 - 0)) from (inR64 (by omega) (by omega)))⟩ ?_
  refine gS [] [] 27 [(0, vc (SC.nilsl)), (1, vc (i6 (n - (0 - 0)))), (16, vc (bo (decide (0 < n - (0 - 0)))))] [] trivial ?_
  refine gC (0 < n - (0 - 0)) (fun hc2 => ?_) fun hc2 => ?_
  ·
   refine gR [(5, CE.obj (AObj.grow 102 2 One (0, 0) rowO (List.replicate (n - (0 - 0)).toNat (0, 0))))] [0 ≤ (0 : Int), (0 : Int) ≤ 0, 1 ≤ n - (0 - 0), (n - (0 - 0)) * (16 : Int) ≤ 140737488355328, MakeC (n - (0 - 0)).toNat [.s (i6 0), .s (u8 0)] (AObj.grow 102 2 One (0, 0) rowO (List.replicate (n - (0 - 0)).toNat (0, 0))), 0 ≤ (0 : Int), (0 : Int) ≤ (List.length (List.replicate (n - (0 - 0)).toNat (0, 0) : List One) : Int)] 27 [(0, vo 25)] [(25, AObj.grow 102 2 One (0, 0) rowO (List.take 0 (List.replicate (n - (0 - 0)).toNat (0, 0))))] ⟨(by omega), (by omega), (by omega), (by omega), (⟨_, rfl, rfl⟩), (by omega), (show (0 : Int) ≤ (List.length (List.replicate (n - (0 - 0)).toNat (0, 0) : List One) : Int) from (by omega))⟩ ?_
   refine gS [] [] 27 [(4, vo 25)] [(25, AObj.grow 102 2 One (0, 0) rowO (List.take 0 (List.replicate (n - (0 - 0)).toNat (0, 0))))] trivial ?_
   refine AMx.ret ?_
   exact ⟨.inl rfl, 25, AObj.grow 102 2 One (0, 0) rowO (List.take 0 (List.replicate (n - (0 - 0)).toNat (0, 0))), by kernel_rfl, by kernel_rfl, rfl⟩
  ·
   refine AMx.skip ?_
   refine gS [] [] 27 [(4, vc (SC.nilsl))] [] trivial ?_
   refine AMx.ent (s' := AS.lst 27 [(4, vo 4)] [(4, AObj.grow 102 2 One (0, 0) rowO [])]) (ent_adopt (t := 4) (d := 4) 102 2 One (0, 0) rowO (by kernel_rfl) (by kernel_rfl) (by kernel_rfl) (by kernel_rfl)) ?_
   refine AMx.ret ?_
   exact ⟨.inl rfl, 4, AObj.grow 102 2 One (0, 0) rowO [], by kernel_rfl, by kernel_rfl, rfl⟩

theorem f58_body : Try.f58.body = some (.seq (.region 0 (rg Try.f58 0) false) (.seq (.region 1 (rg Try.f58 1) false) (.seq (.seq (.region 2 (rg Try.f58 2) false) (.block 0 (.loop (.seq (.region 3 (rg Try.f58 3) false) (.seq (.cond (.tmp 12) (.skip) (.exit 0)) (.seq (.block 1 (.seq (.region 4 (rg Try.f58 4) false) (.seq (.region 5 (rg Try.f58 5) false) (.seq (.region 6 (rg Try.f58 6) false) (.cond (.tmp 20) (.region 7 (rg Try.f58 7) false) (.skip)))))) (.region 8 (rg Try.f58 8) false))))))) (.seq (.region 9 (rg Try.f58 9) false) (.seq (.seq (.region 10 (rg Try.f58 10) false) (.block 2 (.loop (.seq (.region 11 (rg Try.f58 11) false) (.seq (.cond (.tmp 28) (.skip) (.exit 2)) (.seq (.block 3 (.seq (.region 12 (rg Try.f58 12) false) (.region 13 (rg Try.f58 13) false))) (.region 14 (rg Try.f58 14) false))))))) (.seq (.region 15 (rg Try.f58 15) false) (.ret))))))) := by kernel_rfl

set_option maxRecDepth 100000 in
set_option maxHeartbeats 8000000 in
theorem Concat_c (ls : List (List One)) (hb : ls.flatten.length * 16 ≤ 140737488355328) : Pure Try.prog 58 [tc (slL ls)] (vc (slO ls.flatten)) := by
 refine Pure.of_body Try.func58 f58_body (by kernel_rfl) Try.ntmps58 (by kernel_rfl) (by kernel_rfl) ?_
 refine AMx.sl 0 (l := ls) rfl (fun hl => ?_)
 simp only [maxLen] at hl
 refine gS [] [] 36 [(0, vc (slL ls))] [] trivial ?_
 refine gS [] [] 36 [(0, vc (slL ls)), (3, vc (i6 0))] [] trivial ?_
 refine gQ ?_
 refine gS [] [] 36 [(0, vc (slL ls)), (3, vc (i6 0)), (9, vc (slL ls)), (10, vc (i6 (List.length ls : Int))), (11, vc (i6 0))] [] trivial ?_
 refine AMx.block ?_
 refine AMx.ent (s' := AS.lst 36 [(0, vc (slL ls)), (3, vc (i6 0)), (9, vc (slL ls)), (10, vc (i6 (List.length ls : Int))), (11, vc (i6 0))] []) (ent_proj [0, 3, 9, 10, 11] []) ?_
 refine AMx.loop (fun mm ss => ∃ (k : Nat), (k ≤ ls.length) ∧ mm = ls.length - k ∧ ss = AS.lst 36 [(0, vc (slL ls)), (3, vc (i6 ((List.take k ls).flatten.length : Int))), (9, vc (slL ls)), (10, vc (i6 (List.length ls : Int))), (11, vc (i6 (k : Int)))] []) ⟨0, ?_, rfl, ?_⟩ ?_
 · omega
 · rfl
 rintro mm ss ⟨k, hI, rfl, rfl⟩
 refine gS [] [] 36 [(0, vc (slL ls)), (3, vc (i6 ((List.take k ls).flatten.length : Int))), (9, vc (slL ls)), (10, vc (i6 (List.length ls : Int))), (11, vc (i6 (k : Int))), (12, vc (bo (decide ((k : Int) < (List.length ls : Int)))))] [] trivial ?_
 refine gQ ?_
 refine gC ((k : Int) < (List.length ls : Int)) (fun hc1 => ?_) fun hc1 => ?_
 ·
  refine AMx.skip ?_
  refine gQ ?_
  refine AMx.block ?_
  refine gS [] [(0 : Int) ≤ (k : Int), (k : Int) < List.length ls] 36 [(0, vc (slL ls)), (3, vc (i6 ((List.take k ls).flatten.length : Int))), (5, vc (slO (List.getD ls k []))), (9, vc (slL ls)), (10, vc (i6 (List.length ls : Int))), (11, vc (i6 (k : Int)))] [] ⟨(by first | omega | (have h1 := Lib.flat_len ls k (by omega); have h2 := Lib.flat_le ls (k + 1); omega) | (have h3 := Lib.flat_le ls k; omega)), (show (k : Int) < List.length ls from (by first | omega | (have h1 := Lib.flat_len ls k (by omega); have h2 := Lib.flat_le ls (k + 1); omega) | (have h3 := Lib.flat_le ls k; omega)))⟩ ?_
  refine gS [] [InR .i64 (((List.take k ls).flatten.length : Int) + (List.length ((List.getD ls k []) : List One) : Int))] 36 [(0, vc (slL ls)), (3, vc (i6 (((List.take k ls).flatten.length : Int) + (List.length ((List.getD ls k []) : List One) : Int)))), (9, vc (slL ls)), (10, vc (i6 (List.length ls : Int))), (11, vc (i6 (k : Int)))] [] (show InR .i64 (((List.take k ls).flatten.length : Int) + (List.length ((List.getD ls k []) : List One) : Int)) from (inR64 (by first | omega | (have h1 := Lib.flat_len ls k (by omega); have h2 := Lib.flat_le ls (k + 1); omega) | (have h3 := Lib.flat_le ls k; omega)) (by first | omega | (have h1 := Lib.flat_len ls k (by omega); have h2 := Lib.flat_le ls (k + 1); omega) | (have h3 := Lib.flat_le ls k; omega)))) ?_
  refine gS [] [] 36 [(0, vc (slL ls)), (3, vc (i6 (((List.take k ls).flatten.length : Int) + (List.length ((List.getD ls k []) : List One) : Int)))), (9, vc (slL ls)), (10, vc (i6 (List.length ls : Int))), (11, vc (i6 (k : Int))), (20, vc (bo (decide (((List.take k ls).flatten.length : Int) + (List.length ((List.getD ls k []) : List One) : Int) < 0))))] [] trivial ?_
  refine gC (((List.take k ls).flatten.length : Int) + (List.length ((List.getD ls k []) : List One) : Int) < 0) (fun hc2 => ?_) fun hc2 => ?_
  ·
   exfalso
   first | omega | (have h1 := Lib.flat_len ls k (by omega); have h2 := Lib.flat_le ls (k + 1); omega) | (have h3 := Lib.flat_le ls k; omega)
  ·
   refine AMx.skip ?_
   refine AMx.blk ?_
   refine gR [] [InR .i64 ((k : Int) + 1)] 36 [(0, vc (slL ls)), (3, vc (i6 (((List.take k ls).flatten.length : Int) + (List.length ((List.getD ls k []) : List One) : Int)))), (9, vc (slL ls)), (10, vc (i6 (List.length ls : Int))), (11, vc (i6 ((k : Int) + 1)))] [] (show InR .i64 ((k : Int) + 1) from (inR64 (by first | omega | (have h1 := Lib.flat_len ls k (by omega); have h2 := Lib.flat_le ls (k + 1); omega) | (have h3 := Lib.flat_le ls k; omega)) (by first | omega | (have h1 := Lib.flat_len ls k (by omega); have h2 := Lib.flat_le ls (k + 1); omega) | (have h3 := Lib.flat_le ls k; omega)))) ?_
   refine AMx.ent_inv (s' := AS.lst 36 [(0, vc (slL ls)), (3, vc (i6 (((List.take k ls).flatten.length : Int) + (List.length ((List.getD ls k []) : List One) : Int)))), (9, vc (slL ls)), (10, vc (i6 (List.length ls : Int))), (11, vc (i6 ((k : Int) + 1)))] []) (ent_proj [0, 3, 9, 10, 11] []) ?_
   refine AMx.inv ⟨_, ?_, k + 1, ?_, rfl, ?_⟩
   rotate_left
   · omega
   · rw [Lib.flat_len ls k (by omega)]; rfl
   · omega
 ·
  refine AMx.exit ?_
  refine AMx.code_exit ?_
  refine AMx.inv_exit ?_
  refine AMx.blk_exit ?_
  refine gS [(1, CE.call [] [] (vo 24) [(24, AObj.grow 102 2 One (0, 0) rowO [])])] [Spec Try.prog 68 [tc (SC.nilsl), tc (i6 ((List.take k ls).flatten.length : Int))] (ofH []) (vo 24) (ofH [(24, AObj.grow 102 2 One (0, 0) rowO [])])] 36 [(0, vc (slL ls)), (6, vo 24)] [(24, AObj.grow 102 2 One (0, 0) rowO [])] (Grow_c ((List.take k ls).flatten.length : Int) (by first | omega | (have h1 := Lib.flat_len ls k (by omega); have h2 := Lib.flat_le ls (k + 1); omega) | (have h3 := Lib.flat_le ls k; omega)) (by first | omega | (have h1 := Lib.flat_len ls k (by omega); have h2 := Lib.flat_le ls (k + 1); omega) | (have h3 := Lib.flat_le ls k; omega)) 24) ?_
  refine gQ ?_
  refine gS [] [] 36 [(6, vo 24), (25, vc (slL ls)), (26, vc (i6 (List.length ls : Int))), (27, vc (i6 0))] [(24, AObj.grow 102 2 One (0, 0) rowO [])] trivial ?_
  refine AMx.block ?_
  refine AMx.ent (s' := AS.lst 36 [(6, vo 24), (25, vc (slL ls)), (26, vc (i6 (List.length ls : Int))), (27, vc (i6 0))] [(24, AObj.grow 102 2 One (0, 0) rowO [])]) (ent_proj [6, 25, 26, 27] [24]) ?_
  refine AMx.loop (fun mm ss => ∃ (m : Nat), (m ≤ ls.length) ∧ mm = ls.length - m ∧ ss = AS.lst 36 [(6, vo 24), (25, vc (slL ls)), (26, vc (i6 (List.length ls : Int))), (27, vc (i6 (m : Int)))] [(24, AObj.grow 102 2 One (0, 0) rowO ((List.take m ls).flatten))]) ⟨0, ?_, rfl, ?_⟩ ?_
  · omega
  · rfl
  rintro mm ss ⟨m, hI, rfl, rfl⟩
  refine gS [] [] 36 [(6, vo 24), (25, vc (slL ls)), (26, vc (i6 (List.length ls : Int))), (27, vc (i6 (m : Int))), (28, vc (bo (decide ((m : Int) < (List.length ls : Int)))))] [(24, AObj.grow 102 2 One (0, 0) rowO ((List.take m ls).flatten))] trivial ?_
  refine gQ ?_
  refine gC ((m : Int) < (List.length ls : Int)) (fun hc3 => ?_) fun hc3 => ?_
  ·
   refine AMx.skip ?_
   refine gQ ?_
   refine AMx.block ?_
   refine gS [] [(0 : Int) ≤ (m : Int), (m : Int) < List.length ls] 36 [(6, vo 24), (8, vc (slO (List.getD ls m []))), (25, vc (slL ls)), (26, vc (i6 (List.length ls : Int))), (27, vc (i6 (m : Int)))] [(24, AObj.grow 102 2 One (0, 0) rowO ((List.take m ls).flatten))] ⟨(by first | omega | (have h1 := Lib.flat_len ls k (by omega); have h2 := Lib.flat_le ls (k + 1); omega) | (have h3 := Lib.flat_le ls k; omega)), (show (m : Int) < List.length ls from (by first | omega | (have h1 := Lib.flat_len ls k (by omega); have h2 := Lib.flat_le ls (k + 1); omega) | (have h3 := Lib.flat_le ls k; omega)))⟩ ?_
   refine gR [(2, CE.obj (AObj.grow 102 2 One (0, 0) rowO (((List.take m ls).flatten) ++ (List.getD ls m []))))] [AppC (flat 2 rowO (List.getD ls m [])) (List.length ((List.getD ls m []) : List One)) 16 (AObj.grow 102 2 One (0, 0) rowO ((List.take m ls).flatten)) (AObj.grow 102 2 One (0, 0) rowO (((List.take m ls).flatten) ++ (List.getD ls m [])))] 36 [(6, vo 33), (25, vc (slL ls)), (26, vc (i6 (List.length ls : Int))), (27, vc (i6 (m : Int)))] [(33, AObj.grow 102 2 One (0, 0) rowO (((List.take m ls).flatten) ++ (List.getD ls m [])))] (⟨_, rfl, rfl, rfl, by have h1 := Lib.flat_len ls m (by omega); have h2 := Lib.flat_le ls (m + 1); omega, by simp only [maxLen]; have h1 := Lib.flat_len ls m (by omega); have h2 := Lib.flat_le ls (m + 1); omega⟩) ?_
   refine AMx.blk ?_
   refine gR [] [InR .i64 ((m : Int) + 1)] 36 [(6, vo 33), (25, vc (slL ls)), (26, vc (i6 (List.length ls : Int))), (27, vc (i6 ((m : Int) + 1)))] [(33, AObj.grow 102 2 One (0, 0) rowO (((List.take m ls).flatten) ++ (List.getD ls m [])))] (show InR .i64 ((m : Int) + 1) from (inR64 (by first | omega | (have h1 := Lib.flat_len ls k (by omega); have h2 := Lib.flat_le ls (k + 1); omega) | (have h3 := Lib.flat_le ls k; omega)) (by first | omega | (have h1 := Lib.flat_len ls k (by omega); have h2 := Lib.flat_le ls (k + 1); omega) | (have h3 := Lib.flat_le ls k; omega)))) ?_
   refine AMx.ent_inv (s' := AS.lst 36 [(6, vo 24), (25, vc (slL ls)), (26, vc (i6 (List.length ls : Int))), (27, vc (i6 ((m : Int) + 1)))] [(24, AObj.grow 102 2 One (0, 0) rowO (((List.take m ls).flatten) ++ (List.getD ls m [])))]) (ent_swap 33 24 (by kernel_rfl) (by kernel_rfl)) ?_
   refine AMx.ent_inv (s' := AS.lst 36 [(6, vo 24), (25, vc (slL ls)), (26, vc (i6 (List.length ls : Int))), (27, vc (i6 ((m : Int) + 1)))] [(24, AObj.grow 102 2 One (0, 0) rowO (((List.take m ls).flatten) ++ (List.getD ls m [])))]) (ent_proj [6, 25, 26, 27] [24]) ?_
   refine AMx.inv ⟨_, ?_, m + 1, ?_, rfl, ?_⟩
   rotate_left
   · omega
   · rw [← Lib.flat_step [] ls m (by omega)]; rfl
   · omega
  ·
   refine AMx.exit ?_
   refine AMx.code_exit ?_
   refine AMx.inv_exit ?_
   refine AMx.blk_exit ?_
   refine gS [] [] 36 [(2, vo 24)] [(24, AObj.grow 102 2 One (0, 0) rowO ((List.take m ls).flatten))] trivial ?_
   refine AMx.ent (s' := AS.lst 36 [(2, vc (slO ((List.take m ls).flatten)))] []) (ent_freeze (id := 24) (T := 102) (by kernel_rfl)) ?_
   exact gT (vc (slO ((List.take m ls).flatten))) (by rw [Lib.flat_all ls m (by omega)])

theorem f51_body : Try.f51.body = some (.seq (.region 0 (rg Try.f51 0) false) (.seq (.region 1 (rg Try.f51 1) false) (.seq (.seq (.region 2 (rg Try.f51 2) false) (.cond (.tmp 10) (.seq (.region 3 (rg Try.f51 3) false) (.ret)) (.skip))) (.seq (.region 4 (rg Try.f51 4) true) (.ret))))) := by kernel_rfl

set_option maxRecDepth 100000 in
set_option maxHeartbeats 8000000 in
theorem without_c (l : List One) (w : Int) (hb : l.length ≤ 100000) : Pure Try.prog 51 [tc (slO l), tc (i6 w)] (vc (slO (dropS w l))) := by
 refine Pure.of_body Try.func51 f51_body (by kernel_rfl) Try.ntmps51 (by kernel_rfl) (by kernel_rfl) ?_
 refine gS [] [] 21 [(0, vc (slO l)), (1, vc (i6 w))] [] trivial ?_
 refine gS [(2, CE.call [] [] (vc (i6 (findS l w))) [])] [Spec Try.prog 62 [tc (slO l), tc (i6 w)] (ofH []) (vc (i6 (findS l w))) (ofH [])] 21 [(0, vc (slO l)), (5, vc (i6 (findS l w)))] [] (find_c l w) ?_
 refine gQ ?_
 refine gS [] [] 21 [(0, vc (slO l)), (5, vc (i6 (findS l w))), (10, vc (bo (decide (findS l w < 0))))] [] trivial ?_
 refine gC (findS l w < 0) (fun hc1 => ?_) fun hc1 => ?_
 ·
  refine gS [] [] 21 [(4, vc (slO l))] [] trivial ?_
  exact gT (vc (slO l)) (by rw [drop_none (by assumption)])
 ·
  refine AMx.skip ?_
  refine gY [(7, CE.obj (AObj.grow 71 1 (List One) [] rowL [List.take (findS l w).toNat l, List.drop ((findS l w) + 1).toNat l])), (8, CE.call [19] [] (vc (slO (([List.take (findS l w).toNat l, List.drop ((findS l w) + 1).toNat l]).flatten))) [])] [(8, [19])] [0 ≤ findS l w, findS l w ≤ List.length l, InR .i64 ((findS l w) + 1), 0 ≤ (findS l w) + 1, (findS l w) + 1 ≤ List.length l, flat 1 rowL [List.take (findS l w).toNat l, List.drop ((findS l w) + 1).toNat l] = [.s (slO (List.take (findS l w).toNat l)), .s (slO (List.drop ((findS l w) + 1).toNat l))], List.length ([List.take (findS l w).toNat l, List.drop ((findS l w) + 1).toNat l] : List (List One)) = 2, Spec Try.prog 58 [tc (slL [List.take (findS l w).toNat l, List.drop ((findS l w) + 1).toNat l])] (ofH []) (vc (slO (([List.take (findS l w).toNat l, List.drop ((findS l w) + 1).toNat l]).flatten))) (ofH [])] 21 [(4, vc (slO (([List.take (findS l w).toNat l, List.drop ((findS l w) + 1).toNat l]).flatten)))] [] mixed ⟨(by first | omega | (have hf := find_lt l w; first | omega | (simp; omega))), (by first | omega | (have hf := find_lt l w; first | omega | (simp; omega))), (inR64 (by first | omega | (have hf := find_lt l w; first | omega | (simp; omega))) (by first | omega | (have hf := find_lt l w; first | omega | (simp; omega)))), (by first | omega | (have hf := find_lt l w; first | omega | (simp; omega))), (by first | omega | (have hf := find_lt l w; first | omega | (simp; omega))), rfl, rfl, (Concat_c [List.take (findS l w).toNat l, List.drop ((findS l w) + 1).toNat l] (by simp only [List.flatten_cons, List.flatten_nil, List.length_append, List.length_cons, List.length_nil, List.length_take, List.length_drop]; first | omega | (have hf := find_lt l w; first | omega | (simp; omega))))⟩ ?_
  exact gT (vc (slO (([List.take (findS l w).toNat l, List.drop ((findS l w) + 1).toNat l]).flatten))) (by rw [← drop_at (by omega), show (findS l w + 1).toNat = (findS l w).toNat + 1 by omega]; simp)

theorem f52_body : Try.f52.body = some (.seq (.region 0 (rg Try.f52 0) false) (.seq (.region 1 (rg Try.f52 1) false) (.ret))) := by kernel_rfl

set_option maxRecDepth 100000 in
set_option maxHeartbeats 8000000 in
theorem open_c (g : Gt) (m : Int) : Pure Try.prog 52 [TV.agg [.s (slO g.1), .s (slO g.2)], tc (u8 m)] (vc (bo (openS g.1 m))) := by
 refine Pure.of_body Try.func52 f52_body (by kernel_rfl) Try.ntmps52 (by kernel_rfl) (by kernel_rfl) ?_
 refine gS [] [] 21 [(1, vc (u8 m)), (2, vp 2 0)] [(2, AObj.row [.s (slO g.1), .s (slO g.2)])] trivial ?_
 refine gS [] [((decide ((List.length g.1 : Int) = 0)) = false) → allP [(decide ((List.length g.1 : Int) = 0)) = false], ((decide ((List.length g.1 : Int) = 0)) = false) → allP [(decide ((List.length g.1 : Int) = 0)) = false], (((decide ((List.length g.1 : Int) = 0)) = false) ∧ (decide (m = 1)) = true) → allP [((decide ((List.length g.1 : Int) = 0)) = false) ∧ (decide (m = 1)) = true], (((decide ((List.length g.1 : Int) = 0)) = false) ∧ (decide (m = 1)) = true) → allP [((decide ((List.length g.1 : Int) = 0)) = false) ∧ (decide (m = 1)) = true, (0 : Int) ≤ 0, (0 : Int) < List.length g.1], (((decide ((List.length g.1 : Int) = 0)) = false) ∧ (decide (m = 1)) = true) → allP [((decide ((List.length g.1 : Int) = 0)) = false) ∧ (decide (m = 1)) = true], (((decide ((List.length g.1 : Int) = 0)) = false) ∧ (decide (m = 1)) = true) → allP [((decide ((List.length g.1 : Int) = 0)) = false) ∧ (decide (m = 1)) = true], (((decide ((List.length g.1 : Int) = 0)) = false) ∧ (decide (m = 1)) = true) → allP [((decide ((List.length g.1 : Int) = 0)) = false) ∧ (decide (m = 1)) = true], ((decide ((List.length g.1 : Int) = 0)) = false) → allP [(decide ((List.length g.1 : Int) = 0)) = false, (decide (m = 1)) = true → allP [((decide ((List.length g.1 : Int) = 0)) = false) ∧ (decide (m = 1)) = true]], (decide ((List.length g.1 : Int) = 0)) = false → allP [(decide ((List.length g.1 : Int) = 0)) = false]] 21 [(4, vc (bo ((decide ((List.length g.1 : Int) = 0)) || ((decide (m = 1)) && (decide ((List.getD g.1 0 (0, 0)).2 = 1))))))] [] ⟨(fun hp => hp), (fun hp => hp), (fun hp => hp), (fun hp => by have hq := hp; (try simp only [xT, xF, xA, xO, xB, xP, xN, xM, Bool.not_eq_true, Bool.not_eq_false] at hq); exact ⟨hp, (by omega), (show (0 : Int) < List.length g.1 from (by omega))⟩), (fun hp => hp), (fun hp => hp), (fun hp => hp), (fun hp => by have hq := hp; (try simp only [xT, xF, xA, xO, xB, xP, xN, xM, Bool.not_eq_true, Bool.not_eq_false] at hq); exact ⟨hp, (fun hp2 => (by first | exact hp2 | exact ⟨hp, hp2⟩))⟩), (fun hp2 => (by first | exact hp2 | exact ⟨hp, hp2⟩))⟩ ?_
 exact gT (vc (bo ((decide ((List.length g.1 : Int) = 0)) || ((decide (m = 1)) && (decide ((List.getD g.1 0 (0, 0)).2 = 1)))))) (by rw [open_eq])

theorem f67_body : Try.f67.body = some (.seq (.region 0 (rg Try.f67 0) false) (.seq (.region 1 (rg Try.f67 1) false) (.ret))) := by kernel_rfl

set_option maxRecDepth 100000 in
set_option maxHeartbeats 8000000 in
theorem inC_c (a b : One) (ha : 0 ≤ a.1) (hb : 0 ≤ b.1) : Pure Try.prog 67 [TV.agg [.s (i6 a.1), .s (u8 a.2)], TV.agg [.s (i6 b.1), .s (u8 b.2)]] (vc (i6 (a.1 - b.1))) := by
 refine Pure.of_body Try.func67 f67_body (by kernel_rfl) Try.ntmps67 (by kernel_rfl) (by kernel_rfl) ?_
 refine AMx.cell 0 0 rfl rfl (fun (h0 : InR .i64 a.1) => ?_)
 refine AMx.cell 1 0 rfl rfl (fun (h1 : InR .i64 b.1) => ?_)
 simp only [inR64_iff] at h0 h1
 refine gS [] [] 10 [(2, vp 2 0), (3, vp 3 0)] [(2, AObj.row [.s (i6 a.1), .s (u8 a.2)]), (3, AObj.row [.s (i6 b.1), .s (u8 b.2)])] trivial ?_
 refine gS [] [InR .i64 (a.1 - b.1)] 10 [(4, vc (i6 (a.1 - b.1)))] [] (show InR .i64 (a.1 - b.1) from (inR64 (by omega) (by omega))) ?_
 exact gT (vc (i6 (a.1 - b.1))) rfl

theorem f66_body : Try.f66.body = some (.seq (.region 0 (rg Try.f66 0) false) (.seq (.region 1 (rg Try.f66 1) false) (.seq (.region 2 (rg Try.f66 2) false) (.seq (.block 0 (.loop (.seq (.seq (.region 3 (rg Try.f66 3) false) (.cond (.tmp 17) (.skip) (.exit 0))) (.block 1 (.seq (.region 4 (rg Try.f66 4) false) (.seq (.region 5 (rg Try.f66 5) true) (.cond (.tmp 31) (.region 6 (rg Try.f66 6) false) (.region 7 (rg Try.f66 7) false)))))))) (.seq (.region 8 (rg Try.f66 8) true) (.ret)))))) := by kernel_rfl

set_option maxRecDepth 100000 in
set_option maxHeartbeats 8000000 in
theorem Search_c (f : FuncId) (t : One) (c : One → Int) (l : List One) (hf : ∀ x ∈ l, Pure Try.prog f [TV.agg [.s (i6 x.1), .s (u8 x.2)], TV.agg [.s (i6 t.1), .s (u8 t.2)]] (vc (i6 (c x)))) (ha : Lib.Ahead (fun x : One => decide (c x < 0)) l) (hb : l.length ≤ 100000) : Pure Try.prog 66 [tc (slO l), TV.agg [.s (i6 t.1), .s (u8 t.2)], TV.c (.fn f [])] (AV.tup [tc (i6 (Lib.leadS (fun x : One => decide (c x < 0)) l : Int)), tc (bo (decide ((Lib.leadS (fun x : One => decide (c x < 0)) l : Int) < List.length l) && decide (c (List.getD l (Lib.leadS (fun x : One => decide (c x < 0)) l) (0, 0)) = 0)))]) := by
 refine Pure.of_body Try.func66 f66_body (by kernel_rfl) Try.ntmps66 (by kernel_rfl) (by kernel_rfl) ?_
 refine AMx.sl 0 (l := l) rfl (fun hl => ?_)
 simp only [maxLen] at hl
 refine gS [] [] 49 [(0, vc (slO l)), (2, AV.t (TV.c (.fn f []))), (4, vp 4 0)] [(4, AObj.row [.s (i6 t.1), .s (u8 t.2)])] trivial ?_
 refine gS [] [] 49 [(0, vc (slO l)), (2, AV.t (TV.c (.fn f []))), (4, vp 4 0), (8, vc (i6 (List.length l : Int)))] [(4, AObj.row [.s (i6 t.1), .s (u8 t.2)])] trivial ?_
 refine gS [] [] 49 [(0, vc (slO l)), (2, AV.t (TV.c (.fn f []))), (4, vp 4 0), (8, vc (i6 (List.length l : Int))), (9, vc (i6 0)), (10, vc (i6 (List.length l : Int)))] [(4, AObj.row [.s (i6 t.1), .s (u8 t.2)])] trivial ?_
 refine gQ ?_
 refine AMx.block ?_
 refine AMx.ent (s' := AS.lst 49 [(0, vc (slO l)), (2, AV.t (TV.c (.fn f []))), (4, vp 4 0), (8, vc (i6 (List.length l : Int))), (9, vc (i6 0)), (10, vc (i6 (List.length l : Int)))] [(4, AObj.row [.s (i6 t.1), .s (u8 t.2)])]) (ent_proj [0, 2, 4, 8, 9, 10] [4]) ?_
 refine AMx.loop (fun mm ss => ∃ (i : Nat) (j : Nat), (i ≤ j ∧ j ≤ l.length ∧ (∀ x ∈ List.take i l, (fun x : One => decide (c x < 0)) x = true) ∧ (∀ x ∈ List.drop j l, (fun x : One => decide (c x < 0)) x = false)) ∧ mm = j - i ∧ ss = AS.lst 49 [(0, vc (slO l)), (2, AV.t (TV.c (.fn f []))), (4, vp 4 0), (8, vc (i6 (List.length l : Int))), (9, vc (i6 (i : Int))), (10, vc (i6 (j : Int)))] [(4, AObj.row [.s (i6 t.1), .s (u8 t.2)])]) ⟨0, l.length, ?_, rfl, ?_⟩ ?_
 · exact ⟨by omega, by omega, fun x hx => by simp at hx, fun x hx => by simp at hx⟩
 · rfl
 rintro mm ss ⟨i, j, ⟨hI, hJ, h1, h2⟩, rfl, rfl⟩
 have hh := Lib.half (i := i) (j := j) (by omega)
 refine gQ ?_
 refine gS [] [] 49 [(0, vc (slO l)), (2, AV.t (TV.c (.fn f []))), (4, vp 4 0), (8, vc (i6 (List.length l : Int))), (9, vc (i6 (i : Int))), (10, vc (i6 (j : Int))), (17, vc (bo (decide ((i : Int) < (j : Int)))))] [(4, AObj.row [.s (i6 t.1), .s (u8 t.2)])] trivial ?_
 refine gC ((i : Int) < (j : Int)) (fun hc1 => ?_) fun hc1 => ?_
 ·
  refine AMx.skip ?_
  refine AMx.block ?_
  refine gS [] [InR .i64 ((i : Int) + (j : Int)), (0 : Int) ≤ 1, InR .i64 (Int.fdiv (IntKind.wrap .u64 ((i : Int) + (j : Int))) (2 ^ (min (1 : Int).toNat (IntKind.bits .u64))))] 49 [(0, vc (slO l)), (2, AV.t (TV.c (.fn f []))), (4, vp 4 0), (8, vc (i6 (List.length l : Int))), (9, vc (i6 (i : Int))), (10, vc (i6 (j : Int))), (11, vc (i6 (Int.fdiv (IntKind.wrap .u64 ((i : Int) + (j : Int))) (2 ^ (min (1 : Int).toNat (IntKind.bits .u64))))))] [(4, AObj.row [.s (i6 t.1), .s (u8 t.2)])] ⟨(inR64 (by first | omega | (rw [hh]; omega)) (by first | omega | (rw [hh]; omega))), (by first | omega | (rw [hh]; omega)), (show InR .i64 (Int.fdiv (IntKind.wrap .u64 ((i : Int) + (j : Int))) (2 ^ (min (1 : Int).toNat (IntKind.bits .u64)))) from (inR64 (by first | omega | (rw [hh]; omega)) (by first | omega | (rw [hh]; omega))))⟩ ?_
  refine gY [(6, CE.call [] [] (vc (i6 (c (List.getD l (Int.fdiv (IntKind.wrap .u64 ((i : Int) + (j : Int))) (2 ^ (min (1 : Int).toNat (IntKind.bits .u64)))).toNat (0, 0))))) [])] [(5, [4])] [(0 : Int) ≤ Int.fdiv (IntKind.wrap .u64 ((i : Int) + (j : Int))) (2 ^ (min (1 : Int).toNat (IntKind.bits .u64))), Int.fdiv (IntKind.wrap .u64 ((i : Int) + (j : Int))) (2 ^ (min (1 : Int).toNat (IntKind.bits .u64))) < List.length l, Spec Try.prog f [TV.agg [.s (i6 ((List.getD l (Int.fdiv (IntKind.wrap .u64 ((i : Int) + (j : Int))) (2 ^ (min (1 : Int).toNat (IntKind.bits .u64)))).toNat (0, 0)).1)), .s (u8 ((List.getD l (Int.fdiv (IntKind.wrap .u64 ((i : Int) + (j : Int))) (2 ^ (min (1 : Int).toNat (IntKind.bits .u64)))).toNat (0, 0)).2))], TV.agg [.s (i6 t.1), .s (u8 t.2)]] (ofH []) (vc (i6 (c (List.getD l (Int.fdiv (IntKind.wrap .u64 ((i : Int) + (j : Int))) (2 ^ (min (1 : Int).toNat (IntKind.bits .u64)))).toNat (0, 0))))) (ofH [])] 49 [(0, vc (slO l)), (2, AV.t (TV.c (.fn f []))), (4, vp 4 0), (8, vc (i6 (List.length l : Int))), (9, vc (i6 (i : Int))), (10, vc (i6 (j : Int))), (11, vc (i6 (Int.fdiv (IntKind.wrap .u64 ((i : Int) + (j : Int))) (2 ^ (min (1 : Int).toNat (IntKind.bits .u64)))))), (31, vc (bo (decide (c (List.getD l (Int.fdiv (IntKind.wrap .u64 ((i : Int) + (j : Int))) (2 ^ (min (1 : Int).toNat (IntKind.bits .u64)))).toNat (0, 0)) < 0))))] [(4, AObj.row [.s (i6 t.1), .s (u8 t.2)])] mixed ⟨(by first | omega | (rw [hh]; omega)), (by first | omega | (rw [hh]; omega)), (hf (List.getD l (Int.fdiv (IntKind.wrap .u64 ((i : Int) + (j : Int))) (2 ^ (min (1 : Int).toNat (IntKind.bits .u64)))).toNat (0, 0)) (Lib.getD_mem _ _ _ (by omega)))⟩ ?_
  refine gC (c (List.getD l (Int.fdiv (IntKind.wrap .u64 ((i : Int) + (j : Int))) (2 ^ (min (1 : Int).toNat (IntKind.bits .u64)))).toNat (0, 0)) < 0) (fun hc2 => ?_) fun hc2 => ?_
  ·
   refine gR [] [InR .i64 ((Int.fdiv (IntKind.wrap .u64 ((i : Int) + (j : Int))) (2 ^ (min (1 : Int).toNat (IntKind.bits .u64)))) + 1)] 49 [(0, vc (slO l)), (2, AV.t (TV.c (.fn f []))), (4, vp 4 0), (8, vc (i6 (List.length l : Int))), (9, vc (i6 ((Int.fdiv (IntKind.wrap .u64 ((i : Int) + (j : Int))) (2 ^ (min (1 : Int).toNat (IntKind.bits .u64)))) + 1))), (10, vc (i6 (j : Int)))] [(4, AObj.row [.s (i6 t.1), .s (u8 t.2)])] (show InR .i64 ((Int.fdiv (IntKind.wrap .u64 ((i : Int) + (j : Int))) (2 ^ (min (1 : Int).toNat (IntKind.bits .u64)))) + 1) from (inR64 (by first | omega | (rw [hh]; omega)) (by first | omega | (rw [hh]; omega)))) ?_
   refine AMx.blk ?_
   refine AMx.ent_inv (s' := AS.lst 49 [(0, vc (slO l)), (2, AV.t (TV.c (.fn f []))), (4, vp 4 0), (8, vc (i6 (List.length l : Int))), (9, vc (i6 ((Int.fdiv (IntKind.wrap .u64 ((i : Int) + (j : Int))) (2 ^ (min (1 : Int).toNat (IntKind.bits .u64)))) + 1))), (10, vc (i6 (j : Int)))] [(4, AObj.row [.s (i6 t.1), .s (u8 t.2)])]) (ent_proj [0, 2, 4, 8, 9, 10] [4]) ?_
   refine AMx.inv ⟨_, ?_, (i + j) / 2 + 1, j, ?_, rfl, ?_⟩
   rotate_left
   · exact ⟨by omega, by omega, Lib.ahead_lo (0, 0) ha ((i + j) / 2) (by omega) (by have q := hc2; rw [hh, Int.toNat_natCast] at q; exact decide_eq_true q), h2⟩
   · rw [hh]; rfl
   · omega
  ·
   refine gR [] [] 49 [(0, vc (slO l)), (2, AV.t (TV.c (.fn f []))), (4, vp 4 0), (8, vc (i6 (List.length l : Int))), (9, vc (i6 (i : Int))), (10, vc (i6 (Int.fdiv (IntKind.wrap .u64 ((i : Int) + (j : Int))) (2 ^ (min (1 : Int).toNat (IntKind.bits .u64))))))] [(4, AObj.row [.s (i6 t.1), .s (u8 t.2)])] trivial ?_
   refine AMx.blk ?_
   refine AMx.ent_inv (s' := AS.lst 49 [(0, vc (slO l)), (2, AV.t (TV.c (.fn f []))), (4, vp 4 0), (8, vc (i6 (List.length l : Int))), (9, vc (i6 (i : Int))), (10, vc (i6 (Int.fdiv (IntKind.wrap .u64 ((i : Int) + (j : Int))) (2 ^ (min (1 : Int).toNat (IntKind.bits .u64))))))] [(4, AObj.row [.s (i6 t.1), .s (u8 t.2)])]) (ent_proj [0, 2, 4, 8, 9, 10] [4]) ?_
   refine AMx.inv ⟨_, ?_, i, (i + j) / 2, ?_, rfl, ?_⟩
   rotate_left
   · exact ⟨by omega, by omega, h1, Lib.ahead_hi (0, 0) ha ((i + j) / 2) (by omega) (by have q := hc2; rw [hh, Int.toNat_natCast] at q; exact decide_eq_false q)⟩
   · rw [hh]
   · omega
 ·
  refine AMx.exit ?_
  refine AMx.code_exit ?_
  refine AMx.inv_exit ?_
  refine AMx.blk_exit ?_
  refine gY [(11, CE.call [] [] (vc (i6 (c (List.getD l i (0, 0))))) [])] [(10, [4])] [((decide ((i : Int) < (List.length l : Int))) = true) → allP [(decide ((i : Int) < (List.length l : Int))) = true, (decide ((i : Int) < (List.length l : Int))) = true, (0 : Int) ≤ (i : Int), (i : Int) < List.length l], ((decide ((i : Int) < (List.length l : Int))) = true) → allP [(decide ((i : Int) < (List.length l : Int))) = true], ((decide ((i : Int) < (List.length l : Int))) = true) → allP [(decide ((i : Int) < (List.length l : Int))) = true, (decide ((i : Int) < (List.length l : Int))) = true, (decide ((i : Int) < (List.length l : Int))) = true, Spec Try.prog f [TV.agg [.s (i6 ((List.getD l i (0, 0)).1)), .s (u8 ((List.getD l i (0, 0)).2))], TV.agg [.s (i6 t.1), .s (u8 t.2)]] (ofH []) (vc (i6 (c (List.getD l i (0, 0))))) (ofH [])], ((decide ((i : Int) < (List.length l : Int))) = true) → allP [(decide ((i : Int) < (List.length l : Int))) = true], (decide ((i : Int) < (List.length l : Int))) = true → allP [(decide ((i : Int) < (List.length l : Int))) = true]] 49 [(6, vc (i6 (i : Int))), (7, vc (bo ((decide ((i : Int) < (List.length l : Int))) && (decide (c (List.getD l i (0, 0)) = 0)))))] [] mixed ⟨(fun hp => by have hq := hp; (try simp only [xT, xF, xA, xO, xB, xP, xN, xM, Bool.not_eq_true, Bool.not_eq_false] at hq); exact ⟨hp, hp, (by first | omega | (rw [hh]; omega)), (show (i : Int) < List.length l from (by first | omega | (rw [hh]; omega)))⟩), (fun hp => hp), (fun hp => by have hq := hp; (try simp only [xT, xF, xA, xO, xB, xP, xN, xM, Bool.not_eq_true, Bool.not_eq_false] at hq); exact ⟨hp, hp, hp, (hf (List.getD l i (0, 0)) (Lib.getD_mem _ _ _ (by omega)))⟩), (fun hp => hp), (fun hp2 => (by first | exact hp2 | exact ⟨hp, hp2⟩))⟩ ?_
  exact gT (AV.tup [tc (i6 (i : Int)), tc (bo ((decide ((i : Int) < (List.length l : Int))) && (decide (c (List.getD l i (0, 0)) = 0))))]) (by rw [Lib.lead_eq l i (by omega) h1 (by rw [show i = j by omega]; exact h2)])

theorem f53_body : Try.f53.body = some (.seq (.region 0 (rg Try.f53 0) false) (.seq (.region 1 (rg Try.f53 1) false) (.seq (.region 2 (rg Try.f53 2) true) (.seq (.region 3 (rg Try.f53 3) false) (.ret))))) := by kernel_rfl

set_option maxRecDepth 100000 in
set_option maxHeartbeats 8000000 in
theorem in_c (g : Gt) (x : One) (hu : Up g.1) (hok : ∀ y ∈ g.1, 0 ≤ y.1) (hx : 0 ≤ x.1) (hb : g.1.length ≤ 99999) : Pure Try.prog 53 [TV.agg [.s (slO g.1), .s (slO g.2)], TV.agg [.s (i6 x.1), .s (u8 x.2)]] (AV.t (TV.agg [.s (slO ((intoS g.1 x, g.2).1)), .s (slO ((intoS g.1 x, g.2).2))])) := by
 refine Pure.of_body Try.func53 f53_body (by kernel_rfl) Try.ntmps53 (by kernel_rfl) (by kernel_rfl) ?_
 refine gS [] [] 28 [(2, vp 2 0), (3, vp 3 0), (4, vp 4 0)] [(2, AObj.row [.s (slO g.1), .s (slO g.2)]), (3, AObj.row [.s (i6 x.1), .s (u8 x.2)]), (4, AObj.row [.s (SC.nilsl), .s (SC.nilsl)])] trivial ?_
 refine gS [(3, CE.call [] [] (AV.tup [tc (i6 ((Lib.leadS (fun y : One => decide (y.1 - x.1 < 0)) g.1) : Int)), tc (bo (decide (((Lib.leadS (fun y : One => decide (y.1 - x.1 < 0)) g.1) : Int) < List.length g.1) && decide ((List.getD g.1 (Lib.leadS (fun y : One => decide (y.1 - x.1 < 0)) g.1) (0, 0)).1 - x.1 = 0)))]) [])] [Spec Try.prog 66 [tc (slO g.1), TV.agg [.s (i6 x.1), .s (u8 x.2)], TV.c (.fn 67 [])] (ofH []) (AV.tup [tc (i6 ((Lib.leadS (fun y : One => decide (y.1 - x.1 < 0)) g.1) : Int)), tc (bo (decide (((Lib.leadS (fun y : One => decide (y.1 - x.1 < 0)) g.1) : Int) < List.length g.1) && decide ((List.getD g.1 (Lib.leadS (fun y : One => decide (y.1 - x.1 < 0)) g.1) (0, 0)).1 - x.1 = 0)))]) (ofH [])] 28 [(2, vp 2 0), (3, vp 3 0), (4, vp 4 0), (5, vc (i6 ((Lib.leadS (fun y : One => decide (y.1 - x.1 < 0)) g.1) : Int)))] [(2, AObj.row [.s (slO g.1), .s (slO g.2)]), (3, AObj.row [.s (i6 x.1), .s (u8 x.2)]), (4, AObj.row [.s (SC.nilsl), .s (SC.nilsl)])] (Search_c 67 x (fun a : One => a.1 - x.1) g.1 (fun a ha => inC_c a x (hok a ha) hx) (up_ahead hu _) (by omega)) ?_
 refine gY [(5, CE.shr (some (AObj.grow 102 2 One (0, 0) rowO [x]))), (10, CE.obj (AObj.grow 71 1 (List One) [] rowL [List.take (Lib.leadS (fun y : One => decide (y.1 - x.1 < 0)) g.1) g.1, [x], List.drop (Lib.leadS (fun y : One => decide (y.1 - x.1 < 0)) g.1) g.1])), (11, CE.call [24] [] (vc (slO (([List.take (Lib.leadS (fun y : One => decide (y.1 - x.1 < 0)) g.1) g.1, [x], List.drop (Lib.leadS (fun y : One => decide (y.1 - x.1 < 0)) g.1) g.1]).flatten))) [])] [(1, [2]), (4, [3]), (7, [2]), (11, [24]), (13, [2])] [0 ≤ ((Lib.leadS (fun y : One => decide (y.1 - x.1 < 0)) g.1) : Int), ((Lib.leadS (fun y : One => decide (y.1 - x.1 < 0)) g.1) : Int) ≤ List.length g.1, flat 2 rowO [x] = [.s (i6 x.1), .s (u8 x.2)], List.length ([x] : List One) = 1, 0 ≤ ((Lib.leadS (fun y : One => decide (y.1 - x.1 < 0)) g.1) : Int), ((Lib.leadS (fun y : One => decide (y.1 - x.1 < 0)) g.1) : Int) ≤ List.length g.1, flat 1 rowL [List.take (Lib.leadS (fun y : One => decide (y.1 - x.1 < 0)) g.1) g.1, [x], List.drop (Lib.leadS (fun y : One => decide (y.1 - x.1 < 0)) g.1) g.1] = [.s (slO (List.take (Lib.leadS (fun y : One => decide (y.1 - x.1 < 0)) g.1) g.1)), .s (slO [x]), .s (slO (List.drop (Lib.leadS (fun y : One => decide (y.1 - x.1 < 0)) g.1) g.1))], List.length ([List.take (Lib.leadS (fun y : One => decide (y.1 - x.1 < 0)) g.1) g.1, [x], List.drop (Lib.leadS (fun y : One => decide (y.1 - x.1 < 0)) g.1) g.1] : List (List One)) = 3, Spec Try.prog 58 [tc (slL [List.take (Lib.leadS (fun y : One => decide (y.1 - x.1 < 0)) g.1) g.1, [x], List.drop (Lib.leadS (fun y : One => decide (y.1 - x.1 < 0)) g.1) g.1])] (ofH []) (vc (slO (([List.take (Lib.leadS (fun y : One => decide (y.1 - x.1 < 0)) g.1) g.1, [x], List.drop (Lib.leadS (fun y : One => decide (y.1 - x.1 < 0)) g.1) g.1]).flatten))) (ofH [])] 28 [(2, vp 2 0), (4, vp 4 0)] [(2, AObj.row [.s (slO (([List.take (Lib.leadS (fun y : One => decide (y.1 - x.1 < 0)) g.1) g.1, [x], List.drop (Lib.leadS (fun y : One => decide (y.1 - x.1 < 0)) g.1) g.1]).flatten)), .s (slO g.2)]), (4, AObj.row [.s (SC.nilsl), .s (SC.nilsl)])] mixed ⟨(by first | omega | (have hl := Lib.lead_le (fun y : One => decide (y.1 - x.1 < 0)) g.1; first | omega | (simp only [List.length_take, List.length_drop]; omega))), (by first | omega | (have hl := Lib.lead_le (fun y : One => decide (y.1 - x.1 < 0)) g.1; first | omega | (simp only [List.length_take, List.length_drop]; omega))), rfl, rfl, (by first | omega | (have hl := Lib.lead_le (fun y : One => decide (y.1 - x.1 < 0)) g.1; first | omega | (simp only [List.length_take, List.length_drop]; omega))), (by first | omega | (have hl := Lib.lead_le (fun y : One => decide (y.1 - x.1 < 0)) g.1; first | omega | (simp only [List.length_take, List.length_drop]; omega))), rfl, rfl, (Concat_c [List.take (Lib.leadS (fun y : One => decide (y.1 - x.1 < 0)) g.1) g.1, [x], List.drop (Lib.leadS (fun y : One => decide (y.1 - x.1 < 0)) g.1) g.1] (by simp only [List.flatten_cons, List.flatten_nil, List.length_append, List.length_cons, List.length_nil, List.length_take, List.length_drop]; first | omega | (have hl := Lib.lead_le (fun y : One => decide (y.1 - x.1 < 0)) g.1; first | omega | (simp only [List.length_take, List.length_drop]; omega))))⟩ ?_
 refine gS [] [] 28 [(4, vp 4 0)] [(4, AObj.row [.s (slO (([List.take (Lib.leadS (fun y : One => decide (y.1 - x.1 < 0)) g.1) g.1, [x], List.drop (Lib.leadS (fun y : One => decide (y.1 - x.1 < 0)) g.1) g.1]).flatten)), .s (slO g.2)])] trivial ?_
 exact gT (AV.t (TV.agg [.s (slO (([List.take (Lib.leadS (fun y : One => decide (y.1 - x.1 < 0)) g.1) g.1, [x], List.drop (Lib.leadS (fun y : One => decide (y.1 - x.1 < 0)) g.1) g.1]).flatten)), .s (slO g.2)])) (by rw [← into_lead g.1 x hu]; simp)

theorem f43_body : Try.f43.body = some (.seq (.region 0 (rg Try.f43 0) false) (.seq (.seq (.region 1 (rg Try.f43 1) false) (.seq (.region 2 (rg Try.f43 2) false) (.cond (.tmp 11) (.seq (.region 3 (rg Try.f43 3) false) (.ret)) (.skip)))) (.seq (.region 4 (rg Try.f43 4) false) (.ret)))) := by kernel_rfl

set_option maxRecDepth 100000 in
set_option maxHeartbeats 8000000 in
theorem Holds_c (g : Gt) (w : Int) : Pure Try.prog 43 [TV.agg [.s (slO g.1), .s (slO g.2)], tc (i6 w)] (vc (u8 (modeS g.1 w))) := by
 refine Pure.of_body Try.func43 f43_body (by kernel_rfl) Try.ntmps43 (by kernel_rfl) (by kernel_rfl) ?_
 refine gS [] [] 18 [(1, vc (i6 w)), (2, vp 2 0)] [(2, AObj.row [.s (slO g.1), .s (slO g.2)])] trivial ?_
 refine gQ ?_
 refine gS [(3, CE.call [] [] (vc (i6 (findS g.1 w))) [])] [Spec Try.prog 62 [tc (slO g.1), tc (i6 w)] (ofH []) (vc (i6 (findS g.1 w))) (ofH [])] 18 [(2, vp 2 0), (5, vc (i6 (findS g.1 w)))] [(2, AObj.row [.s (slO g.1), .s (slO g.2)])] (find_c g.1 w) ?_
 refine gS [] [] 18 [(2, vp 2 0), (5, vc (i6 (findS g.1 w))), (11, vc (bo (decide (0 ≤ findS g.1 w))))] [(2, AObj.row [.s (slO g.1), .s (slO g.2)])] trivial ?_
 refine gC (0 ≤ findS g.1 w) (fun hc1 => ?_) fun hc1 => ?_
 ·
  refine gS [] [(0 : Int) ≤ findS g.1 w, findS g.1 w < List.length g.1] 18 [(4, vc (u8 ((List.getD g.1 (findS g.1 w).toNat (0, 0)).2)))] [] ⟨(by first | omega | (have hf := find_lt g.1 w; omega)), (show findS g.1 w < List.length g.1 from (by first | omega | (have hf := find_lt g.1 w; omega)))⟩ ?_
  exact gT (vc (u8 ((List.getD g.1 (findS g.1 w).toNat (0, 0)).2))) (by unfold modeS; rw [if_neg (by omega)])
 ·
  refine AMx.skip ?_
  refine gS [] [] 18 [(4, vc (u8 0))] [] trivial ?_
  exact gT (vc (u8 0)) (by unfold modeS; rw [if_pos (by omega)])

theorem f42_body : Try.f42.body = some (.seq (.region 0 (rg Try.f42 0) false) (.seq (.region 1 (rg Try.f42 1) false) (.ret))) := by kernel_rfl

set_option maxRecDepth 100000 in
set_option maxHeartbeats 8000000 in
theorem Waits_c (g : Gt) (w : Int) : Pure Try.prog 42 [TV.agg [.s (slO g.1), .s (slO g.2)], tc (i6 w)] (vc (bo (decide (0 ≤ findS g.2 w)))) := by
 refine Pure.of_body Try.func42 f42_body (by kernel_rfl) Try.ntmps42 (by kernel_rfl) (by kernel_rfl) ?_
 refine gS [] [] 10 [(1, vc (i6 w)), (2, vp 2 0)] [(2, AObj.row [.s (slO g.1), .s (slO g.2)])] trivial ?_
 refine gS [(3, CE.call [] [] (vc (i6 (findS g.2 w))) [])] [Spec Try.prog 62 [tc (slO g.2), tc (i6 w)] (ofH []) (vc (i6 (findS g.2 w))) (ofH [])] 10 [(4, vc (bo (decide (0 ≤ findS g.2 w))))] [] (find_c g.2 w) ?_
 exact gT (vc (bo (decide (0 ≤ findS g.2 w)))) rfl

theorem f59_body : Try.f59.body = some (.seq (.region 0 (rg Try.f59 0) false) (.seq (.region 1 (rg Try.f59 1) false) (.seq (.seq (.region 2 (rg Try.f59 2) false) (.block 0 (.loop (.seq (.region 3 (rg Try.f59 3) false) (.seq (.cond (.tmp 9) (.skip) (.exit 0)) (.seq (.block 1 (.seq (.region 4 (rg Try.f59 4) false) (.region 5 (rg Try.f59 5) false))) (.region 6 (rg Try.f59 6) false))))))) (.seq (.region 7 (rg Try.f59 7) false) (.ret))))) := by kernel_rfl

set_option maxRecDepth 100000 in
set_option maxHeartbeats 8000000 in
theorem names_c (l : List One) (hb : l.length ≤ 100000) : Pure Try.prog 59 [tc (slO l)] (vc (slI (namesS l))) := by
 refine Pure.of_body Try.func59 f59_body (by kernel_rfl) Try.ntmps59 (by kernel_rfl) (by kernel_rfl) ?_
 refine gS [] [] 19 [(0, vc (slO l))] [] trivial ?_
 refine gS [] [] 19 [(0, vc (slO l)), (3, vc (SC.nilsl))] [] trivial ?_
 refine gQ ?_
 refine gS [] [] 19 [(3, vc (SC.nilsl)), (6, vc (slO l)), (7, vc (i6 (List.length l : Int))), (8, vc (i6 0))] [] trivial ?_
 refine AMx.block ?_
 refine AMx.ent (s' := AS.lst 19 [(3, vo 3), (6, vc (slO l)), (7, vc (i6 (List.length l : Int))), (8, vc (i6 0))] [(3, AObj.grow 3 1 Int 0 rowI [])]) (ent_adopt (t := 3) (d := 3) 3 1 Int 0 rowI (by kernel_rfl) (by kernel_rfl) (by kernel_rfl) (by kernel_rfl)) ?_
 refine AMx.ent (s' := AS.lst 19 [(3, vo 3), (6, vc (slO l)), (7, vc (i6 (List.length l : Int))), (8, vc (i6 0))] [(3, AObj.grow 3 1 Int 0 rowI [])]) (ent_proj [3, 6, 7, 8] [3]) ?_
 refine AMx.loop (fun mm ss => ∃ (k : Nat), (k ≤ l.length) ∧ mm = l.length - k ∧ ss = AS.lst 19 [(3, vo 3), (6, vc (slO l)), (7, vc (i6 (List.length l : Int))), (8, vc (i6 (k : Int)))] [(3, AObj.grow 3 1 Int 0 rowI (namesS (List.take k l)))]) ⟨0, ?_, rfl, ?_⟩ ?_
 · omega
 · rfl
 rintro mm ss ⟨k, hI, rfl, rfl⟩
 refine gS [] [] 19 [(3, vo 3), (6, vc (slO l)), (7, vc (i6 (List.length l : Int))), (8, vc (i6 (k : Int))), (9, vc (bo (decide ((k : Int) < (List.length l : Int)))))] [(3, AObj.grow 3 1 Int 0 rowI (namesS (List.take k l)))] trivial ?_
 refine gQ ?_
 refine gC ((k : Int) < (List.length l : Int)) (fun hc1 => ?_) fun hc1 => ?_
 ·
  refine AMx.skip ?_
  refine gQ ?_
  refine AMx.block ?_
  refine gS [] [(0 : Int) ≤ (k : Int), (k : Int) < List.length l] 19 [(3, vo 3), (5, vp 5 0), (6, vc (slO l)), (7, vc (i6 (List.length l : Int))), (8, vc (i6 (k : Int)))] [(3, AObj.grow 3 1 Int 0 rowI (namesS (List.take k l))), (5, AObj.row [.s (i6 ((List.getD l k (0, 0)).1)), .s (u8 ((List.getD l k (0, 0)).2))])] ⟨(by omega), (show (k : Int) < List.length l from (by omega))⟩ ?_
  refine gR [(3, CE.obj (AObj.grow 3 1 Int 0 rowI [(List.getD l k (0, 0)).1])), (4, CE.obj (AObj.grow 3 1 Int 0 rowI ((namesS (List.take k l)) ++ [(List.getD l k (0, 0)).1])))] [flat 1 rowI [(List.getD l k (0, 0)).1] = [.s (i6 ((List.getD l k (0, 0)).1))], List.length ([(List.getD l k (0, 0)).1] : List Int) = 1, AppC (flat 1 rowI [(List.getD l k (0, 0)).1]) (List.length ([(List.getD l k (0, 0)).1] : List Int)) 8 (AObj.grow 3 1 Int 0 rowI (namesS (List.take k l))) (AObj.grow 3 1 Int 0 rowI ((namesS (List.take k l)) ++ [(List.getD l k (0, 0)).1]))] 19 [(3, vo 16), (6, vc (slO l)), (7, vc (i6 (List.length l : Int))), (8, vc (i6 (k : Int)))] [(16, AObj.grow 3 1 Int 0 rowI ((namesS (List.take k l)) ++ [(List.getD l k (0, 0)).1]))] ⟨rfl, rfl, (⟨_, rfl, rfl, rfl, by simp only [names_len, List.length_take, List.length_cons, List.length_nil]; omega, by simp only [maxLen, names_len, List.length_take, List.length_cons, List.length_nil]; omega⟩)⟩ ?_
  refine AMx.blk ?_
  refine gR [] [InR .i64 ((k : Int) + 1)] 19 [(3, vo 16), (6, vc (slO l)), (7, vc (i6 (List.length l : Int))), (8, vc (i6 ((k : Int) + 1)))] [(16, AObj.grow 3 1 Int 0 rowI ((namesS (List.take k l)) ++ [(List.getD l k (0, 0)).1]))] (show InR .i64 ((k : Int) + 1) from (inR64 (by omega) (by omega))) ?_
  refine AMx.ent_inv (s' := AS.lst 19 [(3, vo 3), (6, vc (slO l)), (7, vc (i6 (List.length l : Int))), (8, vc (i6 ((k : Int) + 1)))] [(3, AObj.grow 3 1 Int 0 rowI ((namesS (List.take k l)) ++ [(List.getD l k (0, 0)).1]))]) (ent_swap 16 3 (by kernel_rfl) (by kernel_rfl)) ?_
  refine AMx.ent_inv (s' := AS.lst 19 [(3, vo 3), (6, vc (slO l)), (7, vc (i6 (List.length l : Int))), (8, vc (i6 ((k : Int) + 1)))] [(3, AObj.grow 3 1 Int 0 rowI ((namesS (List.take k l)) ++ [(List.getD l k (0, 0)).1]))]) (ent_proj [3, 6, 7, 8] [3]) ?_
  refine AMx.inv ⟨_, ?_, k + 1, ?_, rfl, ?_⟩
  rotate_left
  · omega
  · rw [← names_step l k (by omega)]; rfl
  · omega
 ·
  refine AMx.exit ?_
  refine AMx.code_exit ?_
  refine AMx.inv_exit ?_
  refine AMx.blk_exit ?_
  refine gS [] [] 19 [(2, vo 3)] [(3, AObj.grow 3 1 Int 0 rowI (namesS (List.take k l)))] trivial ?_
  refine AMx.ent (s' := AS.lst 19 [(2, vc (slI (namesS (List.take k l))))] []) (ent_freeze (id := 3) (T := 3) (by kernel_rfl)) ?_
  exact gT (vc (slI (namesS (List.take k l)))) (by rw [List.take_of_length_le (by omega)])

theorem f39_body : Try.f39.body = some (.seq (.region 0 (rg Try.f39 0) false) (.seq (.region 1 (rg Try.f39 1) false) (.ret))) := by kernel_rfl

set_option maxRecDepth 100000 in
set_option maxHeartbeats 8000000 in
theorem Row_c (g : Gt) (hb : g.1.length + g.2.length ≤ 90000) : Pure Try.prog 39 [TV.agg [.s (slO g.1), .s (slO g.2)]] (vc (slI (namesS g.2))) := by
 refine Pure.of_body Try.func39 f39_body (by kernel_rfl) Try.ntmps39 (by kernel_rfl) (by kernel_rfl) ?_
 refine gS [] [] 6 [(1, vp 1 0)] [(1, AObj.row [.s (slO g.1), .s (slO g.2)])] trivial ?_
 refine gS [(2, CE.call [] [] (vc (slI (namesS g.2))) [])] [Spec Try.prog 59 [tc (slO g.2)] (ofH []) (vc (slI (namesS g.2))) (ofH [])] 6 [(2, vc (slI (namesS g.2)))] [] (names_c g.2 (by omega)) ?_
 exact gT (vc (slI (namesS g.2))) rfl

theorem f46_body : Try.f46.body = some (.seq (.region 0 (rg Try.f46 0) false) (.seq (.region 1 (rg Try.f46 1) false) (.ret))) := by kernel_rfl

set_option maxRecDepth 100000 in
set_option maxHeartbeats 8000000 in
theorem Free_c (g : Gt) (hb : g.1.length + g.2.length ≤ 90000) : Pure Try.prog 46 [TV.agg [.s (slO g.1), .s (slO g.2)]] (vc (bo (decide ((List.length g.1 : Int) + (List.length g.2 : Int) = 0)))) := by
 refine Pure.of_body Try.func46 f46_body (by kernel_rfl) Try.ntmps46 (by kernel_rfl) (by kernel_rfl) ?_
 refine gS [] [] 11 [(1, vp 1 0)] [(1, AObj.row [.s (slO g.1), .s (slO g.2)])] trivial ?_
 refine gS [] [InR .i64 ((List.length g.1 : Int) + (List.length g.2 : Int))] 11 [(2, vc (bo (decide ((List.length g.1 : Int) + (List.length g.2 : Int) = 0))))] [] (show InR .i64 ((List.length g.1 : Int) + (List.length g.2 : Int)) from (inR64 (by omega) (by omega))) ?_
 exact gT (vc (bo (decide ((List.length g.1 : Int) + (List.length g.2 : Int) = 0)))) rfl

theorem f54_body : Try.f54.body = some (.seq (.region 0 (rg Try.f54 0) false) (.seq (.seq (.region 1 (rg Try.f54 1) false) (.block 0 (.loop (.seq (.seq (.region 2 (rg Try.f54 2) false) (.cond (.tmp 9) (.skip) (.exit 0))) (.seq (.block 1 (.seq (.region 4 (rg Try.f54 4) false) (.cond (.tmp 18) (.seq (.region 5 (rg Try.f54 5) false) (.ret)) (.skip)))) (.region 3 (rg Try.f54 3) false)))))) (.seq (.region 6 (rg Try.f54 6) false) (.ret)))) := by kernel_rfl

set_option maxRecDepth 100000 in
set_option maxHeartbeats 8000000 in
theorem RFind_c (l : List One) (w : Int) : Pure Try.prog 54 [tc (slO l), tc (i6 w)] (vc (i6 (findS l w))) := by
 refine Pure.of_body Try.func54 f54_body (by kernel_rfl) Try.ntmps54 (by kernel_rfl) (by kernel_rfl) ?_
 refine AMx.sl 0 (l := l) rfl (fun hl => ?_)
 simp only [maxLen] at hl
 refine gS [] [] 20 [(0, vc (slO l)), (1, vc (i6 w))] [] trivial ?_
 refine gQ ?_
 refine gS [] [] 20 [(0, vc (slO l)), (1, vc (i6 w)), (5, vc (i6 0))] [] trivial ?_
 refine AMx.block ?_
 refine AMx.ent (s' := AS.lst 20 [(0, vc (slO l)), (1, vc (i6 w)), (5, vc (i6 0))] []) (ent_proj [0, 1, 5] []) ?_
 refine AMx.loop (fun mm ss => ∃ (k : Nat), (k ≤ l.length ∧ ∀ x ∈ List.take k l, isW w x = false) ∧ mm = l.length - k ∧ ss = AS.lst 20 [(0, vc (slO l)), (1, vc (i6 w)), (5, vc (i6 (k : Int)))] []) ⟨0, ?_, rfl, ?_⟩ ?_
 · exact ⟨by omega, fun x hx => by simp at hx⟩
 · rfl
 rintro mm ss ⟨k, ⟨hI, hN⟩, rfl, rfl⟩
 refine gQ ?_
 refine gS [] [] 20 [(0, vc (slO l)), (1, vc (i6 w)), (5, vc (i6 (k : Int))), (9, vc (bo (decide ((k : Int) < (List.length l : Int)))))] [] trivial ?_
 refine gC ((k : Int) < (List.length l : Int)) (fun hc1 => ?_) fun hc1 => ?_
 ·
  refine AMx.skip ?_
  refine gQ ?_
  refine AMx.block ?_
  refine gS [] [(0 : Int) ≤ (k : Int), (k : Int) < List.length l] 20 [(0, vc (slO l)), (1, vc (i6 w)), (5, vc (i6 (k : Int))), (18, vc (bo (decide ((List.getD l k (0, 0)).1 = w))))] [] ⟨(by omega), (show (k : Int) < List.length l from (by omega))⟩ ?_
  refine gC ((List.getD l k (0, 0)).1 = w) (fun hc2 => ?_) fun hc2 => ?_
  ·
   refine gS [] [] 20 [(4, vc (i6 (k : Int)))] [] trivial ?_
   exact gT (vc (i6 (k : Int))) (by unfold findS; rw [Lib.idx_hit (0, 0) l k (by omega) hN (decide_eq_true (by assumption))])
  ·
   refine AMx.skip ?_
   refine AMx.blk ?_
   refine gR [] [InR .i64 ((k : Int) + 1)] 20 [(0, vc (slO l)), (1, vc (i6 w)), (5, vc (i6 ((k : Int) + 1)))] [] (show InR .i64 ((k : Int) + 1) from (inR64 (by omega) (by omega))) ?_
   refine AMx.ent_inv (s' := AS.lst 20 [(0, vc (slO l)), (1, vc (i6 w)), (5, vc (i6 ((k : Int) + 1)))] []) (ent_proj [0, 1, 5] []) ?_
   refine AMx.inv ⟨_, ?_, k + 1, ?_, rfl, ?_⟩
   rotate_left
   · exact ⟨by omega, Lib.all_step (0, 0) l k (by omega) hN (decide_eq_false (by assumption))⟩
   · rfl
   · omega
 ·
  refine AMx.exit ?_
  refine AMx.code_exit ?_
  refine AMx.inv_exit ?_
  refine AMx.blk_exit ?_
  refine gS [] [] 20 [(4, vc (i6 (-1)))] [] trivial ?_
  exact gT (vc (i6 (-1))) (by unfold findS; rw [Lib.idx_none (fun x hx => hN x (by rwa [List.take_of_length_le (by omega)]))])

theorem f55_body : Try.f55.body = some (.seq (.region 0 (rg Try.f55 0) false) (.seq (.seq (.region 1 (rg Try.f55 1) false) (.cond (.tmp 6) (.seq (.region 2 (rg Try.f55 2) false) (.ret)) (.skip))) (.seq (.region 3 (rg Try.f55 3) true) (.ret)))) := by kernel_rfl

set_option maxRecDepth 100000 in
set_option maxHeartbeats 8000000 in
theorem RWithout_c (l : List One) (i : Int) (hi : i < l.length) (hb : l.length ≤ 100000) : Pure Try.prog 55 [tc (slO l), tc (i6 i)] (vc (slO (cutS l i))) := by
 refine Pure.of_body Try.func55 f55_body (by kernel_rfl) Try.ntmps55 (by kernel_rfl) (by kernel_rfl) ?_
 refine gS [] [] 18 [(0, vc (slO l)), (1, vc (i6 i))] [] trivial ?_
 refine gQ ?_
 refine gS [] [] 18 [(0, vc (slO l)), (1, vc (i6 i)), (6, vc (bo (decide (i < 0))))] [] trivial ?_
 refine gC (i < 0) (fun hc1 => ?_) fun hc1 => ?_
 ·
  refine gS [] [] 18 [(4, vc (slO l))] [] trivial ?_
  exact gT (vc (slO l)) (by unfold cutS; rw [if_pos (by assumption)])
 ·
  refine AMx.skip ?_
  refine gY [(0, CE.obj (AObj.grow 108 2 One (0, 0) rowO [])), (4, CE.obj (AObj.grow 108 2 One (0, 0) rowO ([] ++ (List.take (i).toNat l)))), (9, CE.obj (AObj.grow 108 2 One (0, 0) rowO (([] ++ (List.take (i).toNat l)) ++ (List.drop (i + 1).toNat l))))] [(4, [8]), (9, [12])] [flat 2 rowO [] = [], List.length ([] : List One) = 0, 0 ≤ i, i ≤ List.length l, AppC (flat 2 rowO (List.take (i).toNat l)) (List.length (List.take (i).toNat l : List One)) 16 (AObj.grow 108 2 One (0, 0) rowO []) (AObj.grow 108 2 One (0, 0) rowO ([] ++ (List.take (i).toNat l))), InR .i64 (i + 1), 0 ≤ i + 1, i + 1 ≤ List.length l, AppC (flat 2 rowO (List.drop (i + 1).toNat l)) (List.length (List.drop (i + 1).toNat l : List One)) 16 (AObj.grow 108 2 One (0, 0) rowO ([] ++ (List.take (i).toNat l))) (AObj.grow 108 2 One (0, 0) rowO (([] ++ (List.take (i).toNat l)) ++ (List.drop (i + 1).toNat l)))] 18 [(4, vo 17)] [(17, AObj.grow 108 2 One (0, 0) rowO (([] ++ (List.take (i).toNat l)) ++ (List.drop (i + 1).toNat l)))] mixed ⟨rfl, rfl, (by omega), (by omega), (⟨_, rfl, rfl, rfl, by simp only [List.length_take, List.length_nil]; omega, by simp only [maxLen, List.length_take, List.length_nil]; omega⟩), (inR64 (by omega) (by omega)), (by omega), (by omega), (⟨_, rfl, rfl, rfl, by simp only [List.length_append, List.length_take, List.length_drop, List.length_nil]; omega, by simp only [maxLen, List.length_append, List.length_take, List.length_drop, List.length_nil]; omega⟩)⟩ ?_
  refine AMx.ent (s' := AS.lst 18 [(4, vc (slO (([] ++ (List.take (i).toNat l)) ++ (List.drop (i + 1).toNat l))))] []) (ent_freeze (id := 17) (T := 108) (by kernel_rfl)) ?_
  exact gT (vc (slO (([] ++ (List.take (i).toNat l)) ++ (List.drop (i + 1).toNat l)))) (by unfold cutS; rw [if_neg (by omega), show (i + 1).toNat = i.toNat + 1 by omega]; rfl)

theorem f56_body : Try.f56.body = some (.seq (.region 0 (rg Try.f56 0) false) (.seq (.region 1 (rg Try.f56 1) false) (.ret))) := by kernel_rfl

set_option maxRecDepth 100000 in
set_option maxHeartbeats 8000000 in
theorem RMay_c (l : List One) (m : Int) : Pure Try.prog 56 [tc (slO l), tc (u8 m)] (vc (bo (openS l m))) := by
 refine Pure.of_body Try.func56 f56_body (by kernel_rfl) Try.ntmps56 (by kernel_rfl) (by kernel_rfl) ?_
 refine gS [] [] 19 [(0, vc (slO l)), (1, vc (u8 m))] [] trivial ?_
 refine gS [] [((decide ((List.length l : Int) = 0)) = false) → allP [(decide ((List.length l : Int) = 0)) = false], ((decide ((List.length l : Int) = 0)) = false) → allP [(decide ((List.length l : Int) = 0)) = false], (((decide ((List.length l : Int) = 0)) = false) ∧ (decide (m = 1)) = true) → allP [((decide ((List.length l : Int) = 0)) = false) ∧ (decide (m = 1)) = true, (0 : Int) ≤ 0, (0 : Int) < List.length l], (((decide ((List.length l : Int) = 0)) = false) ∧ (decide (m = 1)) = true) → allP [((decide ((List.length l : Int) = 0)) = false) ∧ (decide (m = 1)) = true], (((decide ((List.length l : Int) = 0)) = false) ∧ (decide (m = 1)) = true) → allP [((decide ((List.length l : Int) = 0)) = false) ∧ (decide (m = 1)) = true], (((decide ((List.length l : Int) = 0)) = false) ∧ (decide (m = 1)) = true) → allP [((decide ((List.length l : Int) = 0)) = false) ∧ (decide (m = 1)) = true], ((decide ((List.length l : Int) = 0)) = false) → allP [(decide ((List.length l : Int) = 0)) = false, (decide (m = 1)) = true → allP [((decide ((List.length l : Int) = 0)) = false) ∧ (decide (m = 1)) = true]], (decide ((List.length l : Int) = 0)) = false → allP [(decide ((List.length l : Int) = 0)) = false]] 19 [(4, vc (bo ((decide ((List.length l : Int) = 0)) || ((decide (m = 1)) && (decide ((List.getD l 0 (0, 0)).2 = 1))))))] [] ⟨(fun hp => hp), (fun hp => hp), (fun hp => by have hq := hp; (try simp only [xT, xF, xA, xO, xB, xP, xN, xM, Bool.not_eq_true, Bool.not_eq_false] at hq); exact ⟨hp, (by omega), (show (0 : Int) < List.length l from (by omega))⟩), (fun hp => hp), (fun hp => hp), (fun hp => hp), (fun hp => by have hq := hp; (try simp only [xT, xF, xA, xO, xB, xP, xN, xM, Bool.not_eq_true, Bool.not_eq_false] at hq); exact ⟨hp, (fun hp2 => (by first | exact hp2 | exact ⟨hp, hp2⟩))⟩), (fun hp2 => (by first | exact hp2 | exact ⟨hp, hp2⟩))⟩ ?_
 exact gT (vc (bo ((decide ((List.length l : Int) = 0)) || ((decide (m = 1)) && (decide ((List.getD l 0 (0, 0)).2 = 1)))))) (by rw [open_eq])

theorem f57_body : Try.f57.body = some (.seq (.region 0 (rg Try.f57 0) false) (.seq (.region 1 (rg Try.f57 1) false) (.seq (.block 0 (.loop (.seq (.seq (.region 2 (rg Try.f57 2) true) (.cond (.tmp 19) (.skip) (.exit 0))) (.block 1 (.region 3 (rg Try.f57 3) false))))) (.seq (.region 4 (rg Try.f57 4) true) (.ret))))) := by kernel_rfl

set_option maxRecDepth 100000 in
set_option maxHeartbeats 8000000 in
theorem RInto_c (l : List One) (x : One) (hb : l.length ≤ 99999) : Pure Try.prog 57 [tc (slO l), TV.agg [.s (i6 x.1), .s (u8 x.2)]] (vc (slO (intoS l x))) := by
 refine Pure.of_body Try.func57 f57_body (by kernel_rfl) Try.ntmps57 (by kernel_rfl) (by kernel_rfl) ?_
 refine gS [] [] 34 [(0, vc (slO l)), (3, vp 3 0)] [(3, AObj.row [.s (i6 x.1), .s (u8 x.2)])] trivial ?_
 refine gS [] [] 34 [(0, vc (slO l)), (3, vp 3 0), (5, vc (i6 0))] [(3, AObj.row [.s (i6 x.1), .s (u8 x.2)])] trivial ?_
 refine gQ ?_
 refine AMx.block ?_
 refine AMx.ent (s' := AS.lst 34 [(0, vc (slO l)), (3, vp 3 0), (5, vc (i6 0))] [(3, AObj.row [.s (i6 x.1), .s (u8 x.2)])]) (ent_proj [0, 3, 5] [3]) ?_
 refine AMx.loop (fun mm ss => ∃ (k : Nat), (k ≤ l.length ∧ ∀ y ∈ List.take k l, y.1 < x.1) ∧ mm = l.length - k ∧ ss = AS.lst 34 [(0, vc (slO l)), (3, vp 3 0), (5, vc (i6 (k : Int)))] [(3, AObj.row [.s (i6 x.1), .s (u8 x.2)])]) ⟨0, ?_, rfl, ?_⟩ ?_
 · exact ⟨by omega, fun x hx => by simp at hx⟩
 · rfl
 rintro mm ss ⟨k, ⟨hI, hN⟩, rfl, rfl⟩
 refine gQ ?_
 refine gY [] [(11, [3])] [((decide ((k : Int) < (List.length l : Int))) = true) → allP [(decide ((k : Int) < (List.length l : Int))) = true, (decide ((k : Int) < (List.length l : Int))) = true, (0 : Int) ≤ (k : Int), (k : Int) < List.length l], ((decide ((k : Int) < (List.length l : Int))) = true) → allP [(decide ((k : Int) < (List.length l : Int))) = true], ((decide ((k : Int) < (List.length l : Int))) = true) → allP [(decide ((k : Int) < (List.length l : Int))) = true], ((decide ((k : Int) < (List.length l : Int))) = true) → allP [(decide ((k : Int) < (List.length l : Int))) = true], ((decide ((k : Int) < (List.length l : Int))) = true) → allP [(decide ((k : Int) < (List.length l : Int))) = true, (decide ((k : Int) < (List.length l : Int))) = true], (decide ((k : Int) < (List.length l : Int))) = true → allP [(decide ((k : Int) < (List.length l : Int))) = true]] 34 [(0, vc (slO l)), (3, vp 3 0), (5, vc (i6 (k : Int))), (19, vc (bo ((decide ((k : Int) < (List.length l : Int))) && (decide ((List.getD l k (0, 0)).1 < x.1)))))] [(3, AObj.row [.s (i6 x.1), .s (u8 x.2)])] mixed ⟨(fun hp => by have hq := hp; (try simp only [xT, xF, xA, xO, xB, xP, xN, xM, Bool.not_eq_true, Bool.not_eq_false] at hq); exact ⟨hp, hp, (by omega), (show (k : Int) < List.length l from (by omega))⟩), (fun hp => hp), (fun hp => hp), (fun hp => hp), (fun hp => ⟨hp, hp⟩), (fun hp2 => (by first | exact hp2 | exact ⟨hp, hp2⟩))⟩ ?_
 refine gB (((decide ((k : Int) < (List.length l : Int))) && (decide ((List.getD l k (0, 0)).1 < x.1)))) (fun hc1 => ?_) fun hc1 => ?_
 ·
  try simp only [xT, xF, xA, xB] at hc1
  refine AMx.skip ?_
  refine AMx.block ?_
  refine gR [] [InR .i64 ((k : Int) + 1)] 34 [(0, vc (slO l)), (3, vp 3 0), (5, vc (i6 ((k : Int) + 1)))] [(3, AObj.row [.s (i6 x.1), .s (u8 x.2)])] (show InR .i64 ((k : Int) + 1) from (inR64 (by omega) (by omega))) ?_
  refine AMx.blk ?_
  refine AMx.ent_inv (s' := AS.lst 34 [(0, vc (slO l)), (3, vp 3 0), (5, vc (i6 ((k : Int) + 1)))] [(3, AObj.row [.s (i6 x.1), .s (u8 x.2)])]) (ent_proj [0, 3, 5] [3]) ?_
  refine AMx.inv ⟨_, ?_, k + 1, ?_, rfl, ?_⟩
  rotate_left
  · refine ⟨by omega, fun y hy => ?_⟩; rw [Lib.take_succ (0, 0) l k (by omega)] at hy; rcases List.mem_append.1 hy with hy | hy; exact hN y hy; rw [List.mem_singleton.1 hy]; exact hc1.2
  · rfl
  · omega
 ·
  try simp only [xT, xF, xA, xB] at hc1
  refine AMx.exit ?_
  refine AMx.code_exit ?_
  refine AMx.inv_exit ?_
  refine AMx.blk_exit ?_
  refine gY [(0, CE.obj (AObj.grow 108 2 One (0, 0) rowO [])), (4, CE.obj (AObj.grow 108 2 One (0, 0) rowO ([] ++ (List.take k l)))), (6, CE.obj (AObj.grow 108 2 One (0, 0) rowO [x])), (7, CE.obj (AObj.grow 108 2 One (0, 0) rowO (([] ++ (List.take k l)) ++ [x]))), (11, CE.obj (AObj.grow 108 2 One (0, 0) rowO ((([] ++ (List.take k l)) ++ [x]) ++ (List.drop k l))))] [(4, [22]), (5, [3]), (7, [26, 28]), (11, [29])] [flat 2 rowO [] = [], List.length ([] : List One) = 0, 0 ≤ (k : Int), (k : Int) ≤ List.length l, AppC (flat 2 rowO (List.take k l)) (List.length (List.take k l : List One)) 16 (AObj.grow 108 2 One (0, 0) rowO []) (AObj.grow 108 2 One (0, 0) rowO ([] ++ (List.take k l))), flat 2 rowO [x] = [.s (i6 x.1), .s (u8 x.2)], List.length ([x] : List One) = 1, AppC (flat 2 rowO [x]) (List.length ([x] : List One)) 16 (AObj.grow 108 2 One (0, 0) rowO ([] ++ (List.take k l))) (AObj.grow 108 2 One (0, 0) rowO (([] ++ (List.take k l)) ++ [x])), 0 ≤ (k : Int), (k : Int) ≤ List.length l, AppC (flat 2 rowO (List.drop k l)) (List.length (List.drop k l : List One)) 16 (AObj.grow 108 2 One (0, 0) rowO (([] ++ (List.take k l)) ++ [x])) (AObj.grow 108 2 One (0, 0) rowO ((([] ++ (List.take k l)) ++ [x]) ++ (List.drop k l)))] 34 [(4, vo 33)] [(33, AObj.grow 108 2 One (0, 0) rowO ((([] ++ (List.take k l)) ++ [x]) ++ (List.drop k l)))] mixed ⟨rfl, rfl, (by omega), (by omega), (⟨_, rfl, rfl, rfl, by simp only [List.length_append, List.length_take, List.length_drop, List.length_cons, List.length_nil]; omega, by simp only [maxLen, List.length_append, List.length_take, List.length_drop, List.length_cons, List.length_nil]; omega⟩), rfl, rfl, (⟨_, rfl, rfl, rfl, by simp only [List.length_append, List.length_take, List.length_drop, List.length_cons, List.length_nil]; omega, by simp only [maxLen, List.length_append, List.length_take, List.length_drop, List.length_cons, List.length_nil]; omega⟩), (by omega), (by omega), (⟨_, rfl, rfl, rfl, by simp only [List.length_append, List.length_take, List.length_drop, List.length_cons, List.length_nil]; omega, by simp only [maxLen, List.length_append, List.length_take, List.length_drop, List.length_cons, List.length_nil]; omega⟩)⟩ ?_
  refine AMx.ent (s' := AS.lst 34 [(4, vc (slO ((([] ++ (List.take k l)) ++ [x]) ++ (List.drop k l))))] []) (ent_freeze (id := 33) (T := 108) (by kernel_rfl)) ?_
  exact gT (vc (slO ((([] ++ (List.take k l)) ++ [x]) ++ (List.drop k l)))) (by rw [← into_cut l x k (by omega) hN (fun hk => by omega)]; rfl)

theorem f35_body : Try.f35.body = some (.seq (.region 0 (rg Try.f35 0) false) (.seq (.block 0 (.seq (.region 1 (rg Try.f35 1) false) (.cond (.tmp 10) (.seq (.region 2 (rg Try.f35 2) false) (.ret)) (.seq (.region 3 (rg Try.f35 3) false) (.cond (.tmp 22) (.seq (.region 4 (rg Try.f35 4) false) (.ret)) (.skip)))))) (.seq (.region 5 (rg Try.f35 5) false) (.seq (.seq (.region 6 (rg Try.f35 6) false) (.cond (.tmp 44) (.seq (.region 7 (rg Try.f35 7) false) (.ret)) (.skip))) (.seq (.region 8 (rg Try.f35 8) false) (.seq (.region 9 (rg Try.f35 9) false) (.ret))))))) := by kernel_rfl

set_option maxRecDepth 100000 in
set_option maxHeartbeats 8000000 in
theorem Ask_c (g : Gt) (w m : Int) (hg : Wf g) (hb : g.1.length + g.2.length ≤ 90000) : Pure Try.prog 35 [TV.agg [.s (slO g.1), .s (slO g.2)], tc (i6 w), tc (u8 m)] (AV.tup [TV.agg [.s (slO (((askS g w m).1).1)), .s (slO (((askS g w m).1).2))], tc (bo ((askS g w m).2.1)), tc (i6 ((askS g w m).2.2))]) := by
 refine Pure.of_body Try.func35 f35_body (by kernel_rfl) Try.ntmps35 (by kernel_rfl) (by kernel_rfl) ?_
 refine gS [] [] 56 [(1, vc (i6 w)), (2, vc (u8 m)), (3, vp 3 0), (6, vp 6 0)] [(3, AObj.row [.s (slO g.1), .s (slO g.2)]), (6, AObj.row [.s (SC.nilsl), .s (SC.nilsl)])] trivial ?_
 refine gQ ?_
 refine AMx.block ?_
 refine gS [] [((decide (w < 0)) = false) → allP [(decide (w < 0)) = false], ((decide (w < 0)) = false) → allP [(decide (w < 0)) = false], (((decide (w < 0)) = false) ∧ (!decide (m = 1)) = true) → allP [((decide (w < 0)) = false) ∧ (!decide (m = 1)) = true], ((decide (w < 0)) = false) → allP [(decide (w < 0)) = false, (!decide (m = 1)) = true → allP [((decide (w < 0)) = false) ∧ (!decide (m = 1)) = true]], (decide (w < 0)) = false → allP [(decide (w < 0)) = false]] 56 [(1, vc (i6 w)), (2, vc (u8 m)), (3, vp 3 0), (6, vp 6 0), (10, vc (bo ((decide (w < 0)) || ((!decide (m = 1)) && (!decide (m = 2))))))] [(3, AObj.row [.s (slO g.1), .s (slO g.2)]), (6, AObj.row [.s (SC.nilsl), .s (SC.nilsl)])] ⟨(fun hp => hp), (fun hp => hp), (fun hp => hp), (fun hp => by have hq := hp; (try simp only [xT, xF, xA, xO, xB, xP, xN, xM, Bool.not_eq_true, Bool.not_eq_false] at hq); exact ⟨hp, (fun hp2 => (by first | exact hp2 | exact ⟨hp, hp2⟩))⟩), (fun hp2 => (by first | exact hp2 | exact ⟨hp, hp2⟩))⟩ ?_
 refine gB (((decide (w < 0)) || ((!decide (m = 1)) && (!decide (m = 2))))) (fun hc1 => ?_) fun hc1 => ?_
 ·
  try simp only [xT, xF, xA, xB, xO, xP, xN, xM] at hc1
  refine gS [] [] 56 [(6, vp 6 0), (7, vc (bo false)), (8, vc (i6 2))] [(6, AObj.row [.s (slO g.1), .s (slO g.2)])] trivial ?_
  exact gT (AV.tup [TV.agg [.s (slO g.1), .s (slO g.2)], tc (bo false), tc (i6 2)]) (by rw [ask_arg (by omega)])
 ·
  try simp only [xT, xF, xA, xB, xO, xP, xN, xM] at hc1
  refine gS [(2, CE.call [] [] (vc (u8 (modeS g.1 w))) []), (7, CE.call [] [] (vc (bo (decide (0 ≤ findS g.2 w)))) [])] [Spec Try.prog 43 [TV.agg [.s (slO g.1), .s (slO g.2)], tc (i6 w)] (ofH []) (vc (u8 (modeS g.1 w))) (ofH []), ((!decide (modeS g.1 w = 0)) = false) → allP [(!decide (modeS g.1 w = 0)) = false, (!decide (modeS g.1 w = 0)) = false, Spec Try.prog 42 [TV.agg [.s (slO g.1), .s (slO g.2)], tc (i6 w)] (ofH []) (vc (bo (decide (0 ≤ findS g.2 w)))) (ofH [])], (!decide (modeS g.1 w = 0)) = false → allP [(!decide (modeS g.1 w = 0)) = false]] 56 [(1, vc (i6 w)), (2, vc (u8 m)), (3, vp 3 0), (6, vp 6 0), (22, vc (bo ((!decide (modeS g.1 w = 0)) || (decide (0 ≤ findS g.2 w)))))] [(3, AObj.row [.s (slO g.1), .s (slO g.2)]), (6, AObj.row [.s (SC.nilsl), .s (SC.nilsl)])] ⟨(Holds_c g w), (fun hp => by have hq := hp; (try simp only [xT, xF, xA, xO, xB, xP, xN, xM, Bool.not_eq_true, Bool.not_eq_false] at hq); exact ⟨hp, hp, (Waits_c g w)⟩), (fun hp2 => (by first | exact hp2 | exact ⟨hp, hp2⟩))⟩ ?_
  refine gB (((!decide (modeS g.1 w = 0)) || (decide (0 ≤ findS g.2 w)))) (fun hc2 => ?_) fun hc2 => ?_
  ·
   try simp only [xT, xF, xO, xP, xN, xM] at hc2
   refine gS [] [] 56 [(6, vp 6 0), (7, vc (bo false)), (8, vc (i6 9))] [(6, AObj.row [.s (slO g.1), .s (slO g.2)])] trivial ?_
   exact gT (AV.tup [TV.agg [.s (slO g.1), .s (slO g.2)], tc (bo false), tc (i6 9)]) (by have hm := mode_ne hg (w := w); rw [ask_state (by omega) (by omega)])
  ·
   try simp only [xT, xF, xO, xP, xN, xM] at hc2
   refine AMx.skip ?_
   refine AMx.blk ?_
   refine gS [] [] 56 [(2, vc (u8 m)), (3, vp 3 0), (6, vp 6 0), (9, vp 9 0)] [(3, AObj.row [.s (slO g.1), .s (slO g.2)]), (6, AObj.row [.s (SC.nilsl), .s (SC.nilsl)]), (9, AObj.row [.s (i6 w), .s (u8 m)])] trivial ?_
   refine gQ ?_
   refine gS [(7, CE.call [] [] (vc (bo (openS g.1 m))) [])] [((decide ((List.length g.2 : Int) = 0)) = true) → allP [(decide ((List.length g.2 : Int) = 0)) = true, (decide ((List.length g.2 : Int) = 0)) = true, Spec Try.prog 52 [TV.agg [.s (slO g.1), .s (slO g.2)], tc (u8 m)] (ofH []) (vc (bo (openS g.1 m))) (ofH [])], (decide ((List.length g.2 : Int) = 0)) = true → allP [(decide ((List.length g.2 : Int) = 0)) = true]] 56 [(3, vp 3 0), (6, vp 6 0), (9, vp 9 0), (44, vc (bo ((decide ((List.length g.2 : Int) = 0)) && (openS g.1 m))))] [(3, AObj.row [.s (slO g.1), .s (slO g.2)]), (6, AObj.row [.s (SC.nilsl), .s (SC.nilsl)]), (9, AObj.row [.s (i6 w), .s (u8 m)])] ⟨(fun hp => by have hq := hp; (try simp only [xT, xF, xA, xO, xB, xP, xN, xM, Bool.not_eq_true, Bool.not_eq_false] at hq); exact ⟨hp, hp, (open_c g m)⟩), (fun hp2 => (by first | exact hp2 | exact ⟨hp, hp2⟩))⟩ ?_
   refine gB (((decide ((List.length g.2 : Int) = 0)) && (openS g.1 m))) (fun hc3 => ?_) fun hc3 => ?_
   ·
    try simp only [xT, xF, xA, xB] at hc3
    refine gS [(2, CE.call [] [] (AV.t (TV.agg [.s (slO (((intoS g.1 (w, m), g.2) : Gt).1)), .s (slO (((intoS g.1 (w, m), g.2) : Gt).2))])) [])] [Spec Try.prog 53 [TV.agg [.s (slO g.1), .s (slO g.2)], TV.agg [.s (i6 w), .s (u8 m)]] (ofH []) (AV.t (TV.agg [.s (slO (((intoS g.1 (w, m), g.2) : Gt).1)), .s (slO (((intoS g.1 (w, m), g.2) : Gt).2))])) (ofH [])] 56 [(6, vp 6 0), (7, vc (bo true)), (8, vc (i6 0))] [(6, AObj.row [.s (slO (((intoS g.1 (w, m), g.2) : Gt).1)), .s (slO (((intoS g.1 (w, m), g.2) : Gt).2))])] (in_c g (w, m) (by first | assumption | exact hg.up | exact hw.up) (by first | assumption | exact Wf.pos hg | exact fun y hy => Wf.pos hw y hy) (by first | omega | exact wf_head hw (by omega)) (by first | omega | (show List.length _ ≤ _; omega) | (simp only []; omega))) ?_
    exact gT (AV.tup [TV.agg [.s (slO (((intoS g.1 (w, m), g.2) : Gt).1)), .s (slO (((intoS g.1 (w, m), g.2) : Gt).2))], tc (bo true), tc (i6 0)]) (by have h0 : g.2 = [] := List.eq_nil_of_length_eq_zero (by omega); rw [ask_in (by omega) (by have hm := mode_ne hg (w := w); omega) h0 (by simp_all)]; try simp only [h0])
   ·
    try simp only [xT, xF, xA, xB] at hc3
    refine AMx.skip ?_
    refine gS [(3, CE.shr (some (AObj.grow 102 2 One (0, 0) rowO [(w, m)]))), (4, CE.obj (AObj.grow 71 1 (List One) [] rowL [g.2, [(w, m)]])), (5, CE.call [52] [] (vc (slO (([g.2, [(w, m)]]).flatten))) [])] [flat 2 rowO [(w, m)] = [.s (i6 w), .s (u8 m)], List.length ([(w, m)] : List One) = 1, flat 1 rowL [g.2, [(w, m)]] = [.s (slO g.2), .s (slO [(w, m)])], List.length ([g.2, [(w, m)]] : List (List One)) = 2, Spec Try.prog 58 [tc (slL [g.2, [(w, m)]])] (ofH []) (vc (slO (([g.2, [(w, m)]]).flatten))) (ofH [])] 56 [(3, vp 3 0), (6, vp 6 0)] [(3, AObj.row [.s (slO g.1), .s (slO (([g.2, [(w, m)]]).flatten))]), (6, AObj.row [.s (SC.nilsl), .s (SC.nilsl)])] ⟨rfl, rfl, rfl, rfl, (Concat_c [g.2, [(w, m)]] (by simp only [List.flatten_cons, List.flatten_nil, List.length_append, List.length_cons, List.length_nil, List.length_take, List.length_drop]; omega))⟩ ?_
    refine gS [] [] 56 [(6, vp 6 0), (7, vc (bo false)), (8, vc (i6 0))] [(6, AObj.row [.s (slO g.1), .s (slO (([g.2, [(w, m)]]).flatten))])] trivial ?_
    exact gT (AV.tup [TV.agg [.s (slO g.1), .s (slO (([g.2, [(w, m)]]).flatten))], tc (bo false), tc (i6 0)]) (by rw [ask_row (by omega) (by have hm := mode_ne hg (w := w); omega) (fun h => by rcases hc3 with q | q; exact q (by rw [h.1]; rfl); rw [q] at h; cases h.2)]; simp)

theorem f38_body : Try.f38.body = some (.seq (.region 0 (rg Try.f38 0) false) (.seq (.seq (.region 1 (rg Try.f38 1) false) (.cond (.tmp 18) (.seq (.region 2 (rg Try.f38 2) false) (.ret)) (.skip))) (.seq (.seq (.region 3 (rg Try.f38 3) false) (.cond (.tmp 31) (.seq (.region 4 (rg Try.f38 4) false) (.ret)) (.skip))) (.seq (.seq (.region 5 (rg Try.f38 5) false) (.cond (.tmp 42) (.seq (.region 6 (rg Try.f38 6) false) (.ret)) (.skip))) (.seq (.region 7 (rg Try.f38 7) true) (.ret)))))) := by kernel_rfl

set_option maxRecDepth 100000 in
set_option maxHeartbeats 8000000 in
theorem RAsk_c (g : Gt) (w m : Int) (hg : Wf g) (hb : g.1.length + g.2.length ≤ 90000) : Pure Try.prog 38 [TV.agg [.s (slO g.1), .s (slO g.2)], tc (i6 w), tc (u8 m)] (AV.tup [TV.agg [.s (slO (((askS g w m).1).1)), .s (slO (((askS g w m).1).2))], tc (bo ((askS g w m).2.1)), tc (i6 ((askS g w m).2.2))]) := by
 refine Pure.of_body Try.func38 f38_body (by kernel_rfl) Try.ntmps38 (by kernel_rfl) (by kernel_rfl) ?_
 refine gS [] [] 62 [(1, vc (i6 w)), (2, vc (u8 m)), (3, vp 3 0), (6, vp 6 0)] [(3, AObj.row [.s (slO g.1), .s (slO g.2)]), (6, AObj.row [.s (SC.nilsl), .s (SC.nilsl)])] trivial ?_
 refine gQ ?_
 refine gS [] [((decide (w < 0)) = false) → allP [(decide (w < 0)) = false], ((decide (w < 0)) = false) → allP [(decide (w < 0)) = false], (((decide (w < 0)) = false) ∧ (!decide (m = 1)) = true) → allP [((decide (w < 0)) = false) ∧ (!decide (m = 1)) = true], ((decide (w < 0)) = false) → allP [(decide (w < 0)) = false, (!decide (m = 1)) = true → allP [((decide (w < 0)) = false) ∧ (!decide (m = 1)) = true]], (decide (w < 0)) = false → allP [(decide (w < 0)) = false]] 62 [(1, vc (i6 w)), (2, vc (u8 m)), (3, vp 3 0), (6, vp 6 0), (18, vc (bo ((decide (w < 0)) || ((!decide (m = 1)) && (!decide (m = 2))))))] [(3, AObj.row [.s (slO g.1), .s (slO g.2)]), (6, AObj.row [.s (SC.nilsl), .s (SC.nilsl)])] ⟨(fun hp => hp), (fun hp => hp), (fun hp => hp), (fun hp => by have hq := hp; (try simp only [xT, xF, xA, xO, xB, xP, xN, xM, Bool.not_eq_true, Bool.not_eq_false] at hq); exact ⟨hp, (fun hp2 => (by first | exact hp2 | exact ⟨hp, hp2⟩))⟩), (fun hp2 => (by first | exact hp2 | exact ⟨hp, hp2⟩))⟩ ?_
 refine gB (((decide (w < 0)) || ((!decide (m = 1)) && (!decide (m = 2))))) (fun hc1 => ?_) fun hc1 => ?_
 ·
  try simp only [xT, xF, xA, xB, xO, xP, xN, xM] at hc1
  refine gS [] [] 62 [(6, vp 6 0), (7, vc (bo false)), (8, vc (i6 2))] [(6, AObj.row [.s (slO g.1), .s (slO g.2)])] trivial ?_
  exact gT (AV.tup [TV.agg [.s (slO g.1), .s (slO g.2)], tc (bo false), tc (i6 2)]) (by rw [ask_arg (by omega)])
 ·
  try simp only [xT, xF, xA, xB, xO, xP, xN, xM] at hc1
  refine AMx.skip ?_
  refine gQ ?_
  refine gS [(3, CE.call [] [] (vc (i6 (findS g.1 w))) []), (9, CE.call [] [] (vc (i6 (findS g.2 w))) [])] [Spec Try.prog 54 [tc (slO g.1), tc (i6 w)] (ofH []) (vc (i6 (findS g.1 w))) (ofH []), ((decide (0 ≤ findS g.1 w)) = false) → allP [(decide (0 ≤ findS g.1 w)) = false], ((decide (0 ≤ findS g.1 w)) = false) → allP [(decide (0 ≤ findS g.1 w)) = false, (decide (0 ≤ findS g.1 w)) = false, Spec Try.prog 54 [tc (slO g.2), tc (i6 w)] (ofH []) (vc (i6 (findS g.2 w))) (ofH [])], ((decide (0 ≤ findS g.1 w)) = false) → allP [(decide (0 ≤ findS g.1 w)) = false], (decide (0 ≤ findS g.1 w)) = false → allP [(decide (0 ≤ findS g.1 w)) = false]] 62 [(1, vc (i6 w)), (2, vc (u8 m)), (3, vp 3 0), (6, vp 6 0), (31, vc (bo ((decide (0 ≤ findS g.1 w)) || (decide (0 ≤ findS g.2 w)))))] [(3, AObj.row [.s (slO g.1), .s (slO g.2)]), (6, AObj.row [.s (SC.nilsl), .s (SC.nilsl)])] ⟨(RFind_c g.1 w), (fun hp => hp), (fun hp => by have hq := hp; (try simp only [xT, xF, xA, xO, xB, xP, xN, xM, Bool.not_eq_true, Bool.not_eq_false] at hq); exact ⟨hp, hp, (RFind_c g.2 w)⟩), (fun hp => hp), (fun hp2 => (by first | exact hp2 | exact ⟨hp, hp2⟩))⟩ ?_
  refine gB (((decide (0 ≤ findS g.1 w)) || (decide (0 ≤ findS g.2 w)))) (fun hc2 => ?_) fun hc2 => ?_
  ·
   try simp only [xT, xF, xO, xP] at hc2
   refine gS [] [] 62 [(6, vp 6 0), (7, vc (bo false)), (8, vc (i6 9))] [(6, AObj.row [.s (slO g.1), .s (slO g.2)])] trivial ?_
   exact gT (AV.tup [TV.agg [.s (slO g.1), .s (slO g.2)], tc (bo false), tc (i6 9)]) (by have hm := mode_ne hg (w := w); rw [ask_state (by omega) (by omega)])
  ·
   try simp only [xT, xF, xO, xP] at hc2
   refine AMx.skip ?_
   refine gQ ?_
   refine gS [(8, CE.call [] [] (vc (bo (openS g.1 m))) [])] [((decide ((List.length g.2 : Int) = 0)) = true) → allP [(decide ((List.length g.2 : Int) = 0)) = true], ((decide ((List.length g.2 : Int) = 0)) = true) → allP [(decide ((List.length g.2 : Int) = 0)) = true, (decide ((List.length g.2 : Int) = 0)) = true, Spec Try.prog 56 [tc (slO g.1), tc (u8 m)] (ofH []) (vc (bo (openS g.1 m))) (ofH [])], (decide ((List.length g.2 : Int) = 0)) = true → allP [(decide ((List.length g.2 : Int) = 0)) = true]] 62 [(1, vc (i6 w)), (2, vc (u8 m)), (3, vp 3 0), (6, vp 6 0), (42, vc (bo ((decide ((List.length g.2 : Int) = 0)) && (openS g.1 m))))] [(3, AObj.row [.s (slO g.1), .s (slO g.2)]), (6, AObj.row [.s (SC.nilsl), .s (SC.nilsl)])] ⟨(fun hp => hp), (fun hp => by have hq := hp; (try simp only [xT, xF, xA, xO, xB, xP, xN, xM, Bool.not_eq_true, Bool.not_eq_false] at hq); exact ⟨hp, hp, (RMay_c g.1 m)⟩), (fun hp2 => (by first | exact hp2 | exact ⟨hp, hp2⟩))⟩ ?_
   refine gB (((decide ((List.length g.2 : Int) = 0)) && (openS g.1 m))) (fun hc3 => ?_) fun hc3 => ?_
   ·
    try simp only [xT, xF, xA, xB] at hc3
    refine gS [(5, CE.call [] [] (vc (slO (intoS g.1 (w, m)))) [])] [Spec Try.prog 57 [tc (slO g.1), TV.agg [.s (i6 w), .s (u8 m)]] (ofH []) (vc (slO (intoS g.1 (w, m)))) (ofH [])] 62 [(6, vp 6 0), (7, vc (bo true)), (8, vc (i6 0))] [(6, AObj.row [.s (slO (intoS g.1 (w, m))), .s (SC.nilsl)])] (RInto_c g.1 (w, m) (by omega)) ?_
    refine AMx.ent (ent_row 6 (l := [.s (slO (intoS g.1 (w, m))), .s (SC.nilsl)]) (m := [.s (slO (intoS g.1 (w, m))), .s (slO [])]) (by kernel_rfl) ⟨AC.le_rfl, AC.le_nil, trivial⟩) ?_
    exact gT (AV.tup [TV.agg [.s (slO (intoS g.1 (w, m))), .s (slO [])], tc (bo true), tc (i6 0)]) (by have h0 : g.2 = [] := List.eq_nil_of_length_eq_zero (by omega); rw [ask_in (by omega) (by have hm := mode_ne hg (w := w); omega) h0 (by simp_all)]; try simp only [h0])
   ·
    try simp only [xT, xF, xA, xB] at hc3
    refine AMx.skip ?_
    refine gY [(2, CE.obj (AObj.grow 108 2 One (0, 0) rowO [])), (5, CE.obj (AObj.grow 108 2 One (0, 0) rowO ([] ++ g.2))), (9, CE.obj (AObj.grow 108 2 One (0, 0) rowO [(w, m)])), (10, CE.obj (AObj.grow 108 2 One (0, 0) rowO (([] ++ g.2) ++ [(w, m)])))] [(1, [3]), (4, [3]), (5, [52]), (10, [55, 59]), (12, [6])] [flat 2 rowO [] = [], List.length ([] : List One) = 0, AppC (flat 2 rowO g.2) (List.length g.2) 16 (AObj.grow 108 2 One (0, 0) rowO []) (AObj.grow 108 2 One (0, 0) rowO ([] ++ g.2)), flat 2 rowO [(w, m)] = [.s (i6 w), .s (u8 m)], List.length ([(w, m)] : List One) = 1, AppC (flat 2 rowO [(w, m)]) (List.length ([(w, m)] : List One)) 16 (AObj.grow 108 2 One (0, 0) rowO ([] ++ g.2)) (AObj.grow 108 2 One (0, 0) rowO (([] ++ g.2) ++ [(w, m)]))] 62 [(6, vp 6 0), (7, vc (bo false)), (8, vc (i6 0))] [(6, AObj.row [.s (slO g.1), .own 60]), (60, AObj.grow 108 2 One (0, 0) rowO (([] ++ g.2) ++ [(w, m)]))] mixed ⟨rfl, rfl, (⟨_, rfl, rfl, rfl, by simp only [List.length_append, List.length_take, List.length_drop, List.length_cons, List.length_nil]; omega, by simp only [maxLen, List.length_append, List.length_take, List.length_drop, List.length_cons, List.length_nil]; omega⟩), rfl, rfl, (⟨_, rfl, rfl, rfl, by simp only [List.length_append, List.length_take, List.length_drop, List.length_cons, List.length_nil]; omega, by simp only [maxLen, List.length_append, List.length_take, List.length_drop, List.length_cons, List.length_nil]; omega⟩)⟩ ?_
    refine AMx.ent (s' := AS.lst 62 [(6, vp 6 0), (7, vc (bo false)), (8, vc (i6 0))] [(6, AObj.row [.s (slO g.1), .s (slO (([] ++ g.2) ++ [(w, m)]))])]) (ent_freeze (id := 60) (T := 108) (by kernel_rfl)) ?_
    exact gT (AV.tup [TV.agg [.s (slO g.1), .s (slO (([] ++ g.2) ++ [(w, m)]))], tc (bo false), tc (i6 0)]) (by rw [ask_row (by omega) (by have hm := mode_ne hg (w := w); omega) (fun h => by rcases hc3 with q | q; exact q (by rw [h.1]; rfl); rw [q] at h; cases h.2)]; simp)

theorem f30_body : Try.f30.body = some (.seq (.region 0 (rg Try.f30 0) false) (.seq (.block 0 (.seq (.region 1 (rg Try.f30 1) false) (.cond (.tmp 9) (.seq (.region 2 (rg Try.f30 2) false) (.ret)) (.seq (.region 3 (rg Try.f30 3) false) (.cond (.tmp 13) (.seq (.region 4 (rg Try.f30 4) false) (.ret)) (.skip)))))) (.seq (.region 5 (rg Try.f30 5) true) (.seq (.region 6 (rg Try.f30 6) false) (.seq (.block 1 (.loop (.seq (.seq (.region 7 (rg Try.f30 7) true) (.cond (.tmp 47) (.skip) (.exit 1))) (.block 2 (.seq (.region 8 (rg Try.f30 8) false) (.seq (.region 9 (rg Try.f30 9) false) (.seq (.region 10 (rg Try.f30 10) false) (.region 11 (rg Try.f30 11) false)))))))) (.seq (.region 12 (rg Try.f30 12) false) (.ret))))))) := by kernel_rfl

set_option maxRecDepth 100000 in
set_option maxHeartbeats 8000000 in
theorem Leave_c (g : Gt) (w : Int) (hg : Wf g) (hb : g.1.length + g.2.length ≤ 90000) : Pure Try.prog 30 [TV.agg [.s (slO g.1), .s (slO g.2)], tc (i6 w)] (AV.tup [TV.agg [.s (slO (((leaveS g w).1).1)), .s (slO (((leaveS g w).1).2))], tc (slI ((leaveS g w).2.1)), tc (i6 ((leaveS g w).2.2))]) := by
 refine Pure.of_body Try.func30 f30_body (by kernel_rfl) Try.ntmps30 (by kernel_rfl) (by kernel_rfl) ?_
 refine gS [] [] 66 [(1, vc (i6 w)), (2, vp 2 0), (4, vp 4 0)] [(2, AObj.row [.s (slO g.1), .s (slO g.2)]), (4, AObj.row [.s (SC.nilsl), .s (SC.nilsl)])] trivial ?_
 refine gQ ?_
 refine AMx.block ?_
 refine gS [] [] 66 [(1, vc (i6 w)), (2, vp 2 0), (4, vp 4 0), (9, vc (bo (decide (w < 0))))] [(2, AObj.row [.s (slO g.1), .s (slO g.2)]), (4, AObj.row [.s (SC.nilsl), .s (SC.nilsl)])] trivial ?_
 refine gC (w < 0) (fun hc1 => ?_) fun hc1 => ?_
 ·
  refine gS [] [] 66 [(4, vp 4 0), (5, vc (SC.nilsl)), (6, vc (i6 2))] [(4, AObj.row [.s (slO g.1), .s (slO g.2)])] trivial ?_
  refine AMx.ent (ent_weak 5 (v' := vc (slI [])) (by kernel_rfl) (AV.le_t (TV.le_c AC.le_nil))) ?_
  exact gT (AV.tup [TV.agg [.s (slO g.1), .s (slO g.2)], tc (slI []), tc (i6 2)]) (by rw [leave_arg (by omega)])
 ·
  refine gS [(2, CE.call [] [] (vc (u8 (modeS g.1 w))) []), (7, CE.call [] [] (vc (bo (decide (0 ≤ findS g.2 w)))) [])] [Spec Try.prog 43 [TV.agg [.s (slO g.1), .s (slO g.2)], tc (i6 w)] (ofH []) (vc (u8 (modeS g.1 w))) (ofH []), ((decide (modeS g.1 w = 0)) = true) → allP [(decide (modeS g.1 w = 0)) = true, (decide (modeS g.1 w = 0)) = true, Spec Try.prog 42 [TV.agg [.s (slO g.1), .s (slO g.2)], tc (i6 w)] (ofH []) (vc (bo (decide (0 ≤ findS g.2 w)))) (ofH [])], ((decide (modeS g.1 w = 0)) = true) → allP [(decide (modeS g.1 w = 0)) = true], (decide (modeS g.1 w = 0)) = true → allP [(decide (modeS g.1 w = 0)) = true]] 66 [(1, vc (i6 w)), (2, vp 2 0), (4, vp 4 0), (13, vc (bo ((decide (modeS g.1 w = 0)) && (!(decide (0 ≤ findS g.2 w))))))] [(2, AObj.row [.s (slO g.1), .s (slO g.2)]), (4, AObj.row [.s (SC.nilsl), .s (SC.nilsl)])] ⟨(Holds_c g w), (fun hp => by have hq := hp; (try simp only [xT, xF, xA, xO, xB, xP, xN, xM, Bool.not_eq_true, Bool.not_eq_false] at hq); exact ⟨hp, hp, (Waits_c g w)⟩), (fun hp => hp), (fun hp2 => (by first | exact hp2 | exact ⟨hp, hp2⟩))⟩ ?_
  refine gB (((decide (modeS g.1 w = 0)) && (!(decide (0 ≤ findS g.2 w))))) (fun hc2 => ?_) fun hc2 => ?_
  ·
   try simp only [xT, xF, xA, xB, xN, xM] at hc2
   refine gS [] [] 66 [(4, vp 4 0), (5, vc (SC.nilsl)), (6, vc (i6 6))] [(4, AObj.row [.s (slO g.1), .s (slO g.2)])] trivial ?_
   refine AMx.ent (ent_weak 5 (v' := vc (slI [])) (by kernel_rfl) (AV.le_t (TV.le_c AC.le_nil))) ?_
   exact gT (AV.tup [TV.agg [.s (slO g.1), .s (slO g.2)], tc (slI []), tc (i6 6)]) (by have hm := mode_ne hg (w := w); rw [leave_none (by omega) (by omega)])
  ·
   try simp only [xT, xF, xA, xB, xN, xM] at hc2
   refine AMx.skip ?_
   refine AMx.blk ?_
   refine gY [(3, CE.call [] [] (vc (slO (dropS w g.1))) []), (7, CE.call [] [] (vc (slO (dropS w g.2))) [])] [(1, [2]), (5, [2]), (9, [2]), (11, [2])] [Spec Try.prog 51 [tc (slO g.1), tc (i6 w)] (ofH []) (vc (slO (dropS w g.1))) (ofH []), Spec Try.prog 51 [tc (slO g.2), tc (i6 w)] (ofH []) (vc (slO (dropS w g.2))) (ofH [])] 66 [(2, vp 2 0), (4, vp 4 0)] [(2, AObj.row [.s (slO (dropS w g.1)), .s (slO (dropS w g.2))]), (4, AObj.row [.s (SC.nilsl), .s (SC.nilsl)])] mixed ⟨(without_c g.1 w (by first | omega | (have hd1 := drop_le w g.1; have hd2 := drop_le w g.2; omega))), (without_c g.2 w (by first | omega | (have hd1 := drop_le w g.1; have hd2 := drop_le w g.2; omega)))⟩ ?_
   refine gS [] [] 66 [(2, vp 2 0), (4, vp 4 0), (7, vc (SC.nilsl))] [(2, AObj.row [.s (slO (dropS w g.1)), .s (slO (dropS w g.2))]), (4, AObj.row [.s (SC.nilsl), .s (SC.nilsl)])] trivial ?_
   refine gQ ?_
   refine AMx.block ?_
   refine AMx.ent (s' := AS.lst 66 [(2, vp 2 0), (4, vp 4 0), (7, vo 7)] [(7, AObj.grow 3 1 Int 0 rowI []), (2, AObj.row [.s (slO (dropS w g.1)), .s (slO (dropS w g.2))]), (4, AObj.row [.s (SC.nilsl), .s (SC.nilsl)])]) (ent_adopt (t := 7) (d := 7) 3 1 Int 0 rowI (by kernel_rfl) (by kernel_rfl) (by kernel_rfl) (by kernel_rfl)) ?_
   refine AMx.ent (s' := AS.lst 66 [(2, vp 2 0), (4, vp 4 0), (7, vo 7)] [(2, AObj.row [.s (slO (dropS w g.1)), .s (slO (dropS w g.2))]), (4, AObj.row [.s (SC.nilsl), .s (SC.nilsl)]), (7, AObj.grow 3 1 Int 0 rowI [])]) (ent_proj [2, 4, 7] [2, 4, 7]) ?_
   refine AMx.loop (fun mm ss => ∃ (h : List One) (r : List One) (o : List Int), (Wf (h, r) ∧ h.length + r.length ≤ 90000 ∧ o.length + r.length ≤ 90000 ∧ letS (dropS w g.1) (dropS w g.2) = ((letS h r).1, (letS h r).2.1, o ++ (letS h r).2.2)) ∧ mm = r.length ∧ ss = AS.lst 66 [(2, vp 2 0), (4, vp 4 0), (7, vo 7)] [(2, AObj.row [.s (slO h), .s (slO r)]), (4, AObj.row [.s (SC.nilsl), .s (SC.nilsl)]), (7, AObj.grow 3 1 Int 0 rowI o)]) ⟨dropS w g.1, dropS w g.2, [], ?_, rfl, ?_⟩ ?_
   · exact ⟨wf_sub (drop_sub w _) (drop_sub w _) hg, by have := drop_le w g.1; have := drop_le w g.2; omega, by have := drop_le w g.2; simp only [List.length_nil]; omega, rfl⟩
   · first | rfl | (rw [cut_find, cut_find] <;> rfl)
   rintro mm ss ⟨h, r, o, ⟨hw, hI, hO, hG⟩, rfl, rfl⟩
   refine gQ ?_
   refine gY [(11, CE.call [] [] (vc (bo (openS ((h, r) : Gt).1 (List.getD r 0 (0, 0)).2))) [])] [(1, [2]), (5, [2]), (7, [2])] [((decide (0 < (List.length r : Int))) = true) → allP [(decide (0 < (List.length r : Int))) = true], ((decide (0 < (List.length r : Int))) = true) → allP [(decide (0 < (List.length r : Int))) = true, (0 : Int) ≤ 0, (0 : Int) < List.length r], ((decide (0 < (List.length r : Int))) = true) → allP [(decide (0 < (List.length r : Int))) = true], ((decide (0 < (List.length r : Int))) = true) → allP [(decide (0 < (List.length r : Int))) = true], ((decide (0 < (List.length r : Int))) = true) → allP [(decide (0 < (List.length r : Int))) = true, (decide (0 < (List.length r : Int))) = true, Spec Try.prog 52 [TV.agg [.s (slO h), .s (slO r)], tc (u8 ((List.getD r 0 (0, 0)).2))] (ofH []) (vc (bo (openS ((h, r) : Gt).1 (List.getD r 0 (0, 0)).2))) (ofH [])], (decide (0 < (List.length r : Int))) = true → allP [(decide (0 < (List.length r : Int))) = true]] 66 [(2, vp 2 0), (4, vp 4 0), (7, vo 7), (47, vc (bo ((decide (0 < (List.length r : Int))) && (openS ((h, r) : Gt).1 (List.getD r 0 (0, 0)).2))))] [(2, AObj.row [.s (slO h), .s (slO r)]), (4, AObj.row [.s (SC.nilsl), .s (SC.nilsl)]), (7, AObj.grow 3 1 Int 0 rowI o)] mixed ⟨(fun hp => hp), (fun hp => by have hq := hp; (try simp only [xT, xF, xA, xO, xB, xP, xN, xM, Bool.not_eq_true, Bool.not_eq_false] at hq); exact ⟨hp, (by first | omega | (have hd1 := drop_le w g.1; have hd2 := drop_le w g.2; omega)), (show (0 : Int) < List.length r from (by first | omega | (have hd1 := drop_le w g.1; have hd2 := drop_le w g.2; omega)))⟩), (fun hp => hp), (fun hp => hp), (fun hp => by have hq := hp; (try simp only [xT, xF, xA, xO, xB, xP, xN, xM, Bool.not_eq_true, Bool.not_eq_false] at hq); exact ⟨hp, hp, (open_c ((h, r) : Gt) ((List.getD r 0 (0, 0)).2))⟩), (fun hp2 => (by first | exact hp2 | exact ⟨hp, hp2⟩))⟩ ?_
   refine gB (((decide (0 < (List.length r : Int))) && (openS ((h, r) : Gt).1 (List.getD r 0 (0, 0)).2))) (fun hc3 => ?_) fun hc3 => ?_
   ·
    try simp only [xT, xF, xA, xB] at hc3
    refine AMx.skip ?_
    refine AMx.block ?_
    refine gS [] [(0 : Int) ≤ 0, (0 : Int) < List.length r] 66 [(2, vp 2 0), (4, vp 4 0), (7, vo 7), (8, vp 8 0)] [(2, AObj.row [.s (slO h), .s (slO r)]), (4, AObj.row [.s (SC.nilsl), .s (SC.nilsl)]), (7, AObj.grow 3 1 Int 0 rowI o), (8, AObj.row [.s (i6 ((List.getD r 0 (0, 0)).1)), .s (u8 ((List.getD r 0 (0, 0)).2))])] ⟨(by first | omega | (have hd1 := drop_le w g.1; have hd2 := drop_le w g.2; omega)), (show (0 : Int) < List.length r from (by first | omega | (have hd1 := drop_le w g.1; have hd2 := drop_le w g.2; omega)))⟩ ?_
    refine gS [(3, CE.obj (AObj.grow 3 1 Int 0 rowI [(List.getD r 0 (0, 0)).1])), (4, CE.obj (AObj.grow 3 1 Int 0 rowI (o ++ [(List.getD r 0 (0, 0)).1])))] [flat 1 rowI [(List.getD r 0 (0, 0)).1] = [.s (i6 ((List.getD r 0 (0, 0)).1))], List.length ([(List.getD r 0 (0, 0)).1] : List Int) = 1, AppC (flat 1 rowI [(List.getD r 0 (0, 0)).1]) (List.length ([(List.getD r 0 (0, 0)).1] : List Int)) 8 (AObj.grow 3 1 Int 0 rowI o) (AObj.grow 3 1 Int 0 rowI (o ++ [(List.getD r 0 (0, 0)).1]))] 66 [(2, vp 2 0), (4, vp 4 0), (7, vo 56), (8, vp 8 0)] [(2, AObj.row [.s (slO h), .s (slO r)]), (4, AObj.row [.s (SC.nilsl), .s (SC.nilsl)]), (8, AObj.row [.s (i6 ((List.getD r 0 (0, 0)).1)), .s (u8 ((List.getD r 0 (0, 0)).2))]), (56, AObj.grow 3 1 Int 0 rowI (o ++ [(List.getD r 0 (0, 0)).1]))] ⟨rfl, rfl, (⟨_, rfl, rfl, rfl, by simp only [List.length_cons, List.length_nil]; omega, by simp only [maxLen, List.length_cons, List.length_nil]; omega⟩)⟩ ?_
    refine gS [] [0 ≤ (1 : Int), (1 : Int) ≤ List.length r] 66 [(2, vp 2 0), (4, vp 4 0), (7, vo 56), (8, vp 8 0)] [(2, AObj.row [.s (slO h), .s (slO (List.drop 1 r))]), (4, AObj.row [.s (SC.nilsl), .s (SC.nilsl)]), (8, AObj.row [.s (i6 ((List.getD r 0 (0, 0)).1)), .s (u8 ((List.getD r 0 (0, 0)).2))]), (56, AObj.grow 3 1 Int 0 rowI (o ++ [(List.getD r 0 (0, 0)).1]))] ⟨(by first | omega | (have hd1 := drop_le w g.1; have hd2 := drop_le w g.2; omega)), (show (1 : Int) ≤ List.length r from (by first | omega | (have hd1 := drop_le w g.1; have hd2 := drop_le w g.2; omega)))⟩ ?_
    refine gR [(2, CE.call [] [] (AV.t (TV.agg [.s (slO (((intoS ((h, List.drop 1 r) : Gt).1 (List.getD r 0 (0, 0)), ((h, List.drop 1 r) : Gt).2) : Gt).1)), .s (slO (((intoS ((h, List.drop 1 r) : Gt).1 (List.getD r 0 (0, 0)), ((h, List.drop 1 r) : Gt).2) : Gt).2))])) [])] [Spec Try.prog 53 [TV.agg [.s (slO h), .s (slO (List.drop 1 r))], TV.agg [.s (i6 ((List.getD r 0 (0, 0)).1)), .s (u8 ((List.getD r 0 (0, 0)).2))]] (ofH []) (AV.t (TV.agg [.s (slO (((intoS ((h, List.drop 1 r) : Gt).1 (List.getD r 0 (0, 0)), ((h, List.drop 1 r) : Gt).2) : Gt).1)), .s (slO (((intoS ((h, List.drop 1 r) : Gt).1 (List.getD r 0 (0, 0)), ((h, List.drop 1 r) : Gt).2) : Gt).2))])) (ofH [])] 66 [(2, vp 2 0), (4, vp 4 0), (7, vo 56)] [(2, AObj.row [.s (slO (((intoS ((h, List.drop 1 r) : Gt).1 (List.getD r 0 (0, 0)), ((h, List.drop 1 r) : Gt).2) : Gt).1)), .s (slO (((intoS ((h, List.drop 1 r) : Gt).1 (List.getD r 0 (0, 0)), ((h, List.drop 1 r) : Gt).2) : Gt).2))]), (4, AObj.row [.s (SC.nilsl), .s (SC.nilsl)]), (56, AObj.grow 3 1 Int 0 rowI (o ++ [(List.getD r 0 (0, 0)).1]))] (in_c ((h, List.drop 1 r) : Gt) (List.getD r 0 (0, 0)) (by first | assumption | exact hg.up | exact hw.up) (by first | assumption | exact Wf.pos hg | exact fun y hy => Wf.pos hw y hy) (by first | omega | exact wf_head hw (by omega)) (by first | omega | (show List.length _ ≤ _; omega) | (simp only []; omega))) ?_
    refine AMx.blk ?_
    refine AMx.ent_inv (s' := AS.lst 66 [(2, vp 2 0), (4, vp 4 0), (7, vo 7)] [(2, AObj.row [.s (slO (((intoS ((h, List.drop 1 r) : Gt).1 (List.getD r 0 (0, 0)), ((h, List.drop 1 r) : Gt).2) : Gt).1)), .s (slO (((intoS ((h, List.drop 1 r) : Gt).1 (List.getD r 0 (0, 0)), ((h, List.drop 1 r) : Gt).2) : Gt).2))]), (4, AObj.row [.s (SC.nilsl), .s (SC.nilsl)]), (7, AObj.grow 3 1 Int 0 rowI (o ++ [(List.getD r 0 (0, 0)).1]))]) (ent_swap 56 7 (by kernel_rfl) (by kernel_rfl)) ?_
    refine AMx.ent_inv (s' := AS.lst 66 [(2, vp 2 0), (4, vp 4 0), (7, vo 7)] [(2, AObj.row [.s (slO (((intoS ((h, List.drop 1 r) : Gt).1 (List.getD r 0 (0, 0)), ((h, List.drop 1 r) : Gt).2) : Gt).1)), .s (slO (((intoS ((h, List.drop 1 r) : Gt).1 (List.getD r 0 (0, 0)), ((h, List.drop 1 r) : Gt).2) : Gt).2))]), (4, AObj.row [.s (SC.nilsl), .s (SC.nilsl)]), (7, AObj.grow 3 1 Int 0 rowI (o ++ [(List.getD r 0 (0, 0)).1]))]) (ent_proj [2, 4, 7] [2, 4, 7]) ?_
    refine AMx.inv ⟨_, ?_, intoS h (List.getD r 0 (0, 0)), List.drop 1 r, o ++ [(List.getD r 0 (0, 0)).1], ?_, rfl, ?_⟩
    rotate_left
    · exact ⟨wf_go hw (by omega), by simp only [into_len, List.length_drop]; omega, by simp only [List.length_append, List.length_cons, List.length_nil, List.length_drop]; omega, glue_go hG (by omega) hc3.2⟩
    · first | rfl | (rw [cut_zero] <;> rfl)
    · simp only [List.length_drop]; omega
   ·
    try simp only [xT, xF, xA, xB] at hc3
    refine AMx.exit ?_
    refine AMx.code_exit ?_
    refine AMx.inv_exit ?_
    refine AMx.blk_exit ?_
    refine gS [] [] 66 [(4, vp 4 0), (5, vo 7), (6, vc (i6 0))] [(4, AObj.row [.s (slO h), .s (slO r)]), (7, AObj.grow 3 1 Int 0 rowI o)] trivial ?_
    refine AMx.ent (s' := AS.lst 66 [(4, vp 4 0), (5, vc (slI o)), (6, vc (i6 0))] [(4, AObj.row [.s (slO h), .s (slO r)])]) (ent_freeze (id := 7) (T := 3) (by kernel_rfl)) ?_
    exact gT (AV.tup [TV.agg [.s (slO h), .s (slO r)], tc (slI o), tc (i6 0)]) (by have hm := mode_ne hg (w := w); rw [leave_fin (by omega) (by omega) hG (fun q => by rcases hc3 with z | z; omega; rw [q.2] at z; cases z)])

theorem f32_body : Try.f32.body = some (.seq (.region 0 (rg Try.f32 0) false) (.seq (.seq (.region 1 (rg Try.f32 1) false) (.cond (.tmp 11) (.seq (.region 2 (rg Try.f32 2) false) (.ret)) (.skip))) (.seq (.seq (.region 3 (rg Try.f32 3) false) (.cond (.tmp 24) (.seq (.region 4 (rg Try.f32 4) false) (.ret)) (.skip))) (.seq (.region 5 (rg Try.f32 5) true) (.seq (.region 6 (rg Try.f32 6) false) (.seq (.block 0 (.loop (.seq (.seq (.region 7 (rg Try.f32 7) true) (.cond (.tmp 54) (.skip) (.exit 0))) (.block 1 (.seq (.region 8 (rg Try.f32 8) false) (.seq (.region 9 (rg Try.f32 9) false) (.region 10 (rg Try.f32 10) true))))))) (.seq (.region 11 (rg Try.f32 11) false) (.ret)))))))) := by kernel_rfl

set_option maxRecDepth 100000 in
set_option maxHeartbeats 8000000 in
theorem RLeave_c (g : Gt) (w : Int) (hg : Wf g) (hb : g.1.length + g.2.length ≤ 90000) : Pure Try.prog 32 [TV.agg [.s (slO g.1), .s (slO g.2)], tc (i6 w)] (AV.tup [TV.agg [.s (slO (((leaveS g w).1).1)), .s (slO (((leaveS g w).1).2))], tc (slI ((leaveS g w).2.1)), tc (i6 ((leaveS g w).2.2))]) := by
 refine Pure.of_body Try.func32 f32_body (by kernel_rfl) Try.ntmps32 (by kernel_rfl) (by kernel_rfl) ?_
 refine gS [] [] 74 [(1, vc (i6 w)), (2, vp 2 0), (4, vp 4 0)] [(2, AObj.row [.s (slO g.1), .s (slO g.2)]), (4, AObj.row [.s (SC.nilsl), .s (SC.nilsl)])] trivial ?_
 refine gQ ?_
 refine gS [] [] 74 [(1, vc (i6 w)), (2, vp 2 0), (4, vp 4 0), (11, vc (bo (decide (w < 0))))] [(2, AObj.row [.s (slO g.1), .s (slO g.2)]), (4, AObj.row [.s (SC.nilsl), .s (SC.nilsl)])] trivial ?_
 refine gC (w < 0) (fun hc1 => ?_) fun hc1 => ?_
 ·
  refine gS [] [] 74 [(4, vp 4 0), (5, vc (SC.nilsl)), (6, vc (i6 2))] [(4, AObj.row [.s (slO g.1), .s (slO g.2)])] trivial ?_
  refine AMx.ent (ent_weak 5 (v' := vc (slI [])) (by kernel_rfl) (AV.le_t (TV.le_c AC.le_nil))) ?_
  exact gT (AV.tup [TV.agg [.s (slO g.1), .s (slO g.2)], tc (slI []), tc (i6 2)]) (by rw [leave_arg (by omega)])
 ·
  refine AMx.skip ?_
  refine gQ ?_
  refine gS [(3, CE.call [] [] (vc (i6 (findS g.1 w))) []), (9, CE.call [] [] (vc (i6 (findS g.2 w))) [])] [Spec Try.prog 54 [tc (slO g.1), tc (i6 w)] (ofH []) (vc (i6 (findS g.1 w))) (ofH []), ((decide (findS g.1 w < 0)) = true) → allP [(decide (findS g.1 w < 0)) = true], ((decide (findS g.1 w < 0)) = true) → allP [(decide (findS g.1 w < 0)) = true, (decide (findS g.1 w < 0)) = true, Spec Try.prog 54 [tc (slO g.2), tc (i6 w)] (ofH []) (vc (i6 (findS g.2 w))) (ofH [])], ((decide (findS g.1 w < 0)) = true) → allP [(decide (findS g.1 w < 0)) = true], (decide (findS g.1 w < 0)) = true → allP [(decide (findS g.1 w < 0)) = true]] 74 [(1, vc (i6 w)), (2, vp 2 0), (4, vp 4 0), (24, vc (bo ((decide (findS g.1 w < 0)) && (decide (findS g.2 w < 0)))))] [(2, AObj.row [.s (slO g.1), .s (slO g.2)]), (4, AObj.row [.s (SC.nilsl), .s (SC.nilsl)])] ⟨(RFind_c g.1 w), (fun hp => hp), (fun hp => by have hq := hp; (try simp only [xT, xF, xA, xO, xB, xP, xN, xM, Bool.not_eq_true, Bool.not_eq_false] at hq); exact ⟨hp, hp, (RFind_c g.2 w)⟩), (fun hp => hp), (fun hp2 => (by first | exact hp2 | exact ⟨hp, hp2⟩))⟩ ?_
  refine gB (((decide (findS g.1 w < 0)) && (decide (findS g.2 w < 0)))) (fun hc2 => ?_) fun hc2 => ?_
  ·
   try simp only [xT, xF, xA, xB] at hc2
   refine gS [] [] 74 [(4, vp 4 0), (5, vc (SC.nilsl)), (6, vc (i6 6))] [(4, AObj.row [.s (slO g.1), .s (slO g.2)])] trivial ?_
   refine AMx.ent (ent_weak 5 (v' := vc (slI [])) (by kernel_rfl) (AV.le_t (TV.le_c AC.le_nil))) ?_
   exact gT (AV.tup [TV.agg [.s (slO g.1), .s (slO g.2)], tc (slI []), tc (i6 6)]) (by have hm := mode_ne hg (w := w); rw [leave_none (by omega) (by omega)])
  ·
   try simp only [xT, xF, xA, xB] at hc2
   refine AMx.skip ?_
   refine gY [(5, CE.call [] [] (vc (i6 (findS g.1 w))) []), (6, CE.call [] [] (vc (slO (cutS g.1 (findS g.1 w)))) []), (12, CE.call [] [] (vc (i6 (findS g.2 w))) []), (13, CE.call [] [] (vc (slO (cutS g.2 (findS g.2 w)))) [])] [(1, [2]), (3, [2]), (8, [2]), (10, [2]), (16, [7])] [Spec Try.prog 54 [tc (slO g.1), tc (i6 w)] (ofH []) (vc (i6 (findS g.1 w))) (ofH []), Spec Try.prog 55 [tc (slO g.1), tc (i6 (findS g.1 w))] (ofH []) (vc (slO (cutS g.1 (findS g.1 w)))) (ofH []), Spec Try.prog 54 [tc (slO g.2), tc (i6 w)] (ofH []) (vc (i6 (findS g.2 w))) (ofH []), Spec Try.prog 55 [tc (slO g.2), tc (i6 (findS g.2 w))] (ofH []) (vc (slO (cutS g.2 (findS g.2 w)))) (ofH [])] 74 [(4, vp 4 0), (7, vp 7 0)] [(4, AObj.row [.s (SC.nilsl), .s (SC.nilsl)]), (7, AObj.row [.s (slO (cutS g.1 (findS g.1 w))), .s (slO (cutS g.2 (findS g.2 w)))])] mixed ⟨(RFind_c g.1 w), (RWithout_c g.1 (findS g.1 w) (by first | exact find_lt _ _ | omega) (by first | omega | (have hd1 := drop_le w g.1; have hd2 := drop_le w g.2; first | omega | (simp only [List.length_nil]; omega)))), (RFind_c g.2 w), (RWithout_c g.2 (findS g.2 w) (by first | exact find_lt _ _ | omega) (by first | omega | (have hd1 := drop_le w g.1; have hd2 := drop_le w g.2; first | omega | (simp only [List.length_nil]; omega))))⟩ ?_
   refine gS [] [] 74 [(4, vp 4 0), (7, vp 7 0), (8, vc (SC.nilsl))] [(4, AObj.row [.s (SC.nilsl), .s (SC.nilsl)]), (7, AObj.row [.s (slO (cutS g.1 (findS g.1 w))), .s (slO (cutS g.2 (findS g.2 w)))])] trivial ?_
   refine gQ ?_
   refine AMx.block ?_
   refine AMx.ent (s' := AS.lst 74 [(4, vp 4 0), (7, vp 7 0), (8, vo 8)] [(8, AObj.grow 3 1 Int 0 rowI []), (4, AObj.row [.s (SC.nilsl), .s (SC.nilsl)]), (7, AObj.row [.s (slO (cutS g.1 (findS g.1 w))), .s (slO (cutS g.2 (findS g.2 w)))])]) (ent_adopt (t := 8) (d := 8) 3 1 Int 0 rowI (by kernel_rfl) (by kernel_rfl) (by kernel_rfl) (by kernel_rfl)) ?_
   refine AMx.ent (s' := AS.lst 74 [(4, vp 4 0), (7, vp 7 0), (8, vo 8)] [(4, AObj.row [.s (SC.nilsl), .s (SC.nilsl)]), (7, AObj.row [.s (slO (cutS g.1 (findS g.1 w))), .s (slO (cutS g.2 (findS g.2 w)))]), (8, AObj.grow 3 1 Int 0 rowI [])]) (ent_proj [4, 7, 8] [4, 7, 8]) ?_
   refine AMx.loop (fun mm ss => ∃ (h : List One) (r : List One) (o : List Int), (Wf (h, r) ∧ h.length + r.length ≤ 90000 ∧ o.length + r.length ≤ 90000 ∧ letS (dropS w g.1) (dropS w g.2) = ((letS h r).1, (letS h r).2.1, o ++ (letS h r).2.2)) ∧ mm = r.length ∧ ss = AS.lst 74 [(4, vp 4 0), (7, vp 7 0), (8, vo 8)] [(4, AObj.row [.s (SC.nilsl), .s (SC.nilsl)]), (7, AObj.row [.s (slO h), .s (slO r)]), (8, AObj.grow 3 1 Int 0 rowI o)]) ⟨dropS w g.1, dropS w g.2, [], ?_, rfl, ?_⟩ ?_
   · exact ⟨wf_sub (drop_sub w _) (drop_sub w _) hg, by have := drop_le w g.1; have := drop_le w g.2; omega, by have := drop_le w g.2; simp only [List.length_nil]; omega, rfl⟩
   · first | rfl | (rw [cut_find, cut_find] <;> rfl)
   rintro mm ss ⟨h, r, o, ⟨hw, hI, hO, hG⟩, rfl, rfl⟩
   refine gQ ?_
   refine gY [(12, CE.call [] [] (vc (bo (openS h ((List.getD r 0 (0, 0)).2)))) [])] [(1, [7]), (6, [7]), (8, [7])] [((decide (0 < (List.length r : Int))) = true) → allP [(decide (0 < (List.length r : Int))) = true], ((decide (0 < (List.length r : Int))) = true) → allP [(decide (0 < (List.length r : Int))) = true], ((decide (0 < (List.length r : Int))) = true) → allP [(decide (0 < (List.length r : Int))) = true, (0 : Int) ≤ 0, (0 : Int) < List.length r], ((decide (0 < (List.length r : Int))) = true) → allP [(decide (0 < (List.length r : Int))) = true], ((decide (0 < (List.length r : Int))) = true) → allP [(decide (0 < (List.length r : Int))) = true], ((decide (0 < (List.length r : Int))) = true) → allP [(decide (0 < (List.length r : Int))) = true, (decide (0 < (List.length r : Int))) = true, Spec Try.prog 56 [tc (slO h), tc (u8 ((List.getD r 0 (0, 0)).2))] (ofH []) (vc (bo (openS h ((List.getD r 0 (0, 0)).2)))) (ofH [])], (decide (0 < (List.length r : Int))) = true → allP [(decide (0 < (List.length r : Int))) = true]] 74 [(4, vp 4 0), (7, vp 7 0), (8, vo 8), (54, vc (bo ((decide (0 < (List.length r : Int))) && (openS h ((List.getD r 0 (0, 0)).2)))))] [(4, AObj.row [.s (SC.nilsl), .s (SC.nilsl)]), (7, AObj.row [.s (slO h), .s (slO r)]), (8, AObj.grow 3 1 Int 0 rowI o)] mixed ⟨(fun hp => hp), (fun hp => hp), (fun hp => by have hq := hp; (try simp only [xT, xF, xA, xO, xB, xP, xN, xM, Bool.not_eq_true, Bool.not_eq_false] at hq); exact ⟨hp, (by first | omega | (have hd1 := drop_le w g.1; have hd2 := drop_le w g.2; first | omega | (simp only [List.length_nil]; omega))), (show (0 : Int) < List.length r from (by first | omega | (have hd1 := drop_le w g.1; have hd2 := drop_le w g.2; first | omega | (simp only [List.length_nil]; omega))))⟩), (fun hp => hp), (fun hp => hp), (fun hp => by have hq := hp; (try simp only [xT, xF, xA, xO, xB, xP, xN, xM, Bool.not_eq_true, Bool.not_eq_false] at hq); exact ⟨hp, hp, (RMay_c h ((List.getD r 0 (0, 0)).2))⟩), (fun hp2 => (by first | exact hp2 | exact ⟨hp, hp2⟩))⟩ ?_
   refine gB (((decide (0 < (List.length r : Int))) && (openS h ((List.getD r 0 (0, 0)).2)))) (fun hc3 => ?_) fun hc3 => ?_
   ·
    try simp only [xT, xF, xA, xB] at hc3
    refine AMx.skip ?_
    refine AMx.block ?_
    refine gS [] [(0 : Int) ≤ 0, (0 : Int) < List.length r] 74 [(4, vp 4 0), (7, vp 7 0), (8, vo 8), (9, vp 9 0)] [(4, AObj.row [.s (SC.nilsl), .s (SC.nilsl)]), (7, AObj.row [.s (slO h), .s (slO r)]), (8, AObj.grow 3 1 Int 0 rowI o), (9, AObj.row [.s (i6 ((List.getD r 0 (0, 0)).1)), .s (u8 ((List.getD r 0 (0, 0)).2))])] ⟨(by first | omega | (have hd1 := drop_le w g.1; have hd2 := drop_le w g.2; first | omega | (simp only [List.length_nil]; omega))), (show (0 : Int) < List.length r from (by first | omega | (have hd1 := drop_le w g.1; have hd2 := drop_le w g.2; first | omega | (simp only [List.length_nil]; omega))))⟩ ?_
    refine gS [(3, CE.obj (AObj.grow 3 1 Int 0 rowI [(List.getD r 0 (0, 0)).1])), (4, CE.obj (AObj.grow 3 1 Int 0 rowI (o ++ [(List.getD r 0 (0, 0)).1])))] [flat 1 rowI [(List.getD r 0 (0, 0)).1] = [.s (i6 ((List.getD r 0 (0, 0)).1))], List.length ([(List.getD r 0 (0, 0)).1] : List Int) = 1, AppC (flat 1 rowI [(List.getD r 0 (0, 0)).1]) (List.length ([(List.getD r 0 (0, 0)).1] : List Int)) 8 (AObj.grow 3 1 Int 0 rowI o) (AObj.grow 3 1 Int 0 rowI (o ++ [(List.getD r 0 (0, 0)).1]))] 74 [(4, vp 4 0), (7, vp 7 0), (8, vo 63), (9, vp 9 0)] [(4, AObj.row [.s (SC.nilsl), .s (SC.nilsl)]), (7, AObj.row [.s (slO h), .s (slO r)]), (9, AObj.row [.s (i6 ((List.getD r 0 (0, 0)).1)), .s (u8 ((List.getD r 0 (0, 0)).2))]), (63, AObj.grow 3 1 Int 0 rowI (o ++ [(List.getD r 0 (0, 0)).1]))] ⟨rfl, rfl, (⟨_, rfl, rfl, rfl, by simp only [List.length_cons, List.length_nil]; omega, by simp only [maxLen, List.length_cons, List.length_nil]; omega⟩)⟩ ?_
    refine gX [(3, CE.call [] [] (vc (slO (intoS h (List.getD r 0 (0, 0))))) []), (6, CE.call [] [] (vc (slO (cutS r 0))) [])] [(1, [7]), (2, [9]), (5, [7]), (8, [7])] [Spec Try.prog 57 [tc (slO h), TV.agg [.s (i6 ((List.getD r 0 (0, 0)).1)), .s (u8 ((List.getD r 0 (0, 0)).2))]] (ofH []) (vc (slO (intoS h (List.getD r 0 (0, 0))))) (ofH []), Spec Try.prog 55 [tc (slO r), tc (i6 0)] (ofH []) (vc (slO (cutS r 0))) (ofH [])] 74 [(4, vp 4 0), (7, vp 7 0), (8, vo 63)] [(4, AObj.row [.s (SC.nilsl), .s (SC.nilsl)]), (7, AObj.row [.s (slO (intoS h (List.getD r 0 (0, 0)))), .s (slO (cutS r 0))]), (63, AObj.grow 3 1 Int 0 rowI (o ++ [(List.getD r 0 (0, 0)).1]))] mixed ⟨(RInto_c h (List.getD r 0 (0, 0)) (by first | omega | (have hd1 := drop_le w g.1; have hd2 := drop_le w g.2; first | omega | (simp only [List.length_nil]; omega)))), (RWithout_c r 0 (by first | exact find_lt _ _ | omega) (by first | omega | (have hd1 := drop_le w g.1; have hd2 := drop_le w g.2; first | omega | (simp only [List.length_nil]; omega))))⟩ ?_
    refine AMx.blk ?_
    refine AMx.ent_inv (s' := AS.lst 74 [(4, vp 4 0), (7, vp 7 0), (8, vo 8)] [(4, AObj.row [.s (SC.nilsl), .s (SC.nilsl)]), (7, AObj.row [.s (slO (intoS h (List.getD r 0 (0, 0)))), .s (slO (cutS r 0))]), (8, AObj.grow 3 1 Int 0 rowI (o ++ [(List.getD r 0 (0, 0)).1]))]) (ent_swap 63 8 (by kernel_rfl) (by kernel_rfl)) ?_
    refine AMx.ent_inv (s' := AS.lst 74 [(4, vp 4 0), (7, vp 7 0), (8, vo 8)] [(4, AObj.row [.s (SC.nilsl), .s (SC.nilsl)]), (7, AObj.row [.s (slO (intoS h (List.getD r 0 (0, 0)))), .s (slO (cutS r 0))]), (8, AObj.grow 3 1 Int 0 rowI (o ++ [(List.getD r 0 (0, 0)).1]))]) (ent_proj [4, 7, 8] [4, 7, 8]) ?_
    refine AMx.inv ⟨_, ?_, intoS h (List.getD r 0 (0, 0)), List.drop 1 r, o ++ [(List.getD r 0 (0, 0)).1], ?_, rfl, ?_⟩
    rotate_left
    · exact ⟨wf_go hw (by omega), by simp only [into_len, List.length_drop]; omega, by simp only [List.length_append, List.length_cons, List.length_nil, List.length_drop]; omega, glue_go hG (by omega) hc3.2⟩
    · first | rfl | (rw [cut_zero] <;> rfl)
    · simp only [List.length_drop]; omega
   ·
    try simp only [xT, xF, xA, xB] at hc3
    refine AMx.exit ?_
    refine AMx.code_exit ?_
    refine AMx.inv_exit ?_
    refine AMx.blk_exit ?_
    refine gS [] [] 74 [(4, vp 4 0), (5, vo 8), (6, vc (i6 0))] [(4, AObj.row [.s (slO h), .s (slO r)]), (8, AObj.grow 3 1 Int 0 rowI o)] trivial ?_
    refine AMx.ent (s' := AS.lst 74 [(4, vp 4 0), (5, vc (slI o)), (6, vc (i6 0))] [(4, AObj.row [.s (slO h), .s (slO r)])]) (ent_freeze (id := 8) (T := 3) (by kernel_rfl)) ?_
    exact gT (AV.tup [TV.agg [.s (slO h), .s (slO r)], tc (slI o), tc (i6 0)]) (by have hm := mode_ne hg (w := w); rw [leave_fin (by omega) (by omega) hG (fun q => by rcases hc3 with z | z; omega; rw [q.2] at z; cases z)])

end AL.Gate
