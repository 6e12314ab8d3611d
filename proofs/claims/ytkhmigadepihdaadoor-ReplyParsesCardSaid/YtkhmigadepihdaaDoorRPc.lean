/- The proof library and the contracts that the law reaches: joined by a program. No condition. -/
import Derived.Test.YtkhmigadepihdaaDoorRPb
namespace AL.Reply
open Go Go.Proofs AL
set_option linter.unusedVariables false
set_option linter.unusedSimpArgs false
theorem f32_body : Tryd.f32.body = some (.seq (.region 0 (rg Tryd.f32 0) false) (.seq (.region 1 (rg Tryd.f32 1) false) (.ret))) := by kernel_rfl
set_option maxRecDepth 100000 in
set_option maxHeartbeats 8000000 in
theorem name_c (s : Bytes) : Pure Tryd.prog 32 [tc (st s)] (vc (bo (nameS s))) := by
 refine Pure.of_body Tryd.func32 f32_body (by kernel_rfl) Tryd.ntmps32 (by kernel_rfl) (by kernel_rfl) ?_
 refine gS [] [] 24 [(0, vc (st s))] [] trivial ?_
 refine gS [(13, CE.call [] [] (vc (bo (decide (0 ≤ Go.Lib.indexByte s 32)))) []), (18, CE.call [] [] (vc (bo (decide (0 ≤ Go.Lib.indexByte s 44)))) [])] [((!decide (s = [])) = true) → allP [], ((!decide (s = [])) = true) → allP [(!decide (s = [])) = true], (!decide (s = [])) = true → allP [(!decide (s = [])) = true], (((!decide (s = [])) && (!decide (s = [45]))) = true) → allP [], (((!decide (s = [])) && (!decide (s = [45]))) = true) → allP [((!decide (s = [])) && (!decide (s = [45]))) = true], (((!decide (s = [])) && (!decide (s = [45]))) = true) → allP [((!decide (s = [])) && (!decide (s = [45]))) = true], ((!decide (s = [])) && (!decide (s = [45]))) = true → allP [((!decide (s = [])) && (!decide (s = [45]))) = true], ((((!decide (s = [])) && (!decide (s = [45]))) && (decide ((List.length s : Int) ≤ 64))) = true) → allP [], ((((!decide (s = [])) && (!decide (s = [45]))) && (decide ((List.length s : Int) ≤ 64))) = true) → allP [(((!decide (s = [])) && (!decide (s = [45]))) && (decide ((List.length s : Int) ≤ 64))) = true, Spec Tryd.prog 61 [tc (st s), tc (st [32])] (ofH []) (vc (bo (decide (0 ≤ Go.Lib.indexByte s 32)))) (ofH [])], ((((!decide (s = [])) && (!decide (s = [45]))) && (decide ((List.length s : Int) ≤ 64))) = true) → allP [(((!decide (s = [])) && (!decide (s = [45]))) && (decide ((List.length s : Int) ≤ 64))) = true], (((!decide (s = [])) && (!decide (s = [45]))) && (decide ((List.length s : Int) ≤ 64))) = true → allP [(((!decide (s = [])) && (!decide (s = [45]))) && (decide ((List.length s : Int) ≤ 64))) = true], (((((!decide (s = [])) && (!decide (s = [45]))) && (decide ((List.length s : Int) ≤ 64))) && (!(decide (0 ≤ Go.Lib.indexByte s 32)))) = true) → allP [], (((((!decide (s = [])) && (!decide (s = [45]))) && (decide ((List.length s : Int) ≤ 64))) && (!(decide (0 ≤ Go.Lib.indexByte s 32)))) = true) → allP [((((!decide (s = [])) && (!decide (s = [45]))) && (decide ((List.length s : Int) ≤ 64))) && (!(decide (0 ≤ Go.Lib.indexByte s 32)))) = true, Spec Tryd.prog 61 [tc (st s), tc (st [44])] (ofH []) (vc (bo (decide (0 ≤ Go.Lib.indexByte s 44)))) (ofH [])], (((((!decide (s = [])) && (!decide (s = [45]))) && (decide ((List.length s : Int) ≤ 64))) && (!(decide (0 ≤ Go.Lib.indexByte s 32)))) = true) → allP [((((!decide (s = [])) && (!decide (s = [45]))) && (decide ((List.length s : Int) ≤ 64))) && (!(decide (0 ≤ Go.Lib.indexByte s 32)))) = true], ((((!decide (s = [])) && (!decide (s = [45]))) && (decide ((List.length s : Int) ≤ 64))) && (!(decide (0 ≤ Go.Lib.indexByte s 32)))) = true → allP [((((!decide (s = [])) && (!decide (s = [45]))) && (decide ((List.length s : Int) ≤ 64))) && (!(decide (0 ≤ Go.Lib.indexByte s 32)))) = true]] 24 [(2, vc (bo (((((!decide (s = [])) && (!decide (s = [45]))) && (decide ((List.length s : Int) ≤ 64))) && (!(decide (0 ≤ Go.Lib.indexByte s 32)))) && (!(decide (0 ≤ Go.Lib.indexByte s 44))))))] [] ⟨(fun _ => trivial), (fun hp => hp), (fun hp2 => (by first | exact hp2 | exact ⟨hp, hp2⟩)), (fun _ => trivial), (fun hp => hp), (fun hp => hp), (fun hp2 => (by first | exact hp2 | exact ⟨hp, hp2⟩)), (fun _ => trivial), (fun hp => by have hq := hp; (try simp only [decide_eq_true_eq, decide_eq_false_iff_not, Bool.and_eq_true, Bool.or_eq_true, Bool.and_eq_false_iff, Bool.or_eq_false_iff, Bool.not_eq_true', Bool.not_eq_false', Bool.not_eq_true, Bool.not_eq_false] at hq); exact ⟨hp, (Contains_c 32 s)⟩), (fun hp => hp), (fun hp2 => (by first | exact hp2 | exact ⟨hp, hp2⟩)), (fun _ => trivial), (fun hp => by have hq := hp; (try simp only [decide_eq_true_eq, decide_eq_false_iff_not, Bool.and_eq_true, Bool.or_eq_true, Bool.and_eq_false_iff, Bool.or_eq_false_iff, Bool.not_eq_true', Bool.not_eq_false', Bool.not_eq_true, Bool.not_eq_false] at hq); exact ⟨hp, (Contains_c 44 s)⟩), (fun hp => hp), (fun hp2 => (by first | exact hp2 | exact ⟨hp, hp2⟩))⟩ ?_
 exact gT (vc (bo (((((!decide (s = [])) && (!decide (s = [45]))) && (decide ((List.length s : Int) ≤ 64))) && (!(decide (0 ≤ Go.Lib.indexByte s 32)))) && (!(decide (0 ≤ Go.Lib.indexByte s 44)))))) rfl
theorem f31_body : Tryd.f31.body = some (.seq (.region 0 (rg Tryd.f31 0) false) (.seq (.region 1 (rg Tryd.f31 1) false) (.ret))) := by kernel_rfl
set_option maxRecDepth 100000 in
set_option maxHeartbeats 8000000 in
theorem nameC_c (s : Bytes) : Pure Tryd.prog 31 [tc (st s)] (vc (bo (!(nameS s)))) := by
 refine Pure.of_body Tryd.func31 f31_body (by kernel_rfl) Tryd.ntmps31 (by kernel_rfl) (by kernel_rfl) ?_
 refine gS [] [] 6 [(0, vc (st s))] [] trivial ?_
 refine gS [(1, CE.call [] [] (vc (bo (nameS s))) [])] [Spec Tryd.prog 32 [tc (st s)] (ofH []) (vc (bo (nameS s))) (ofH [])] 6 [(2, vc (bo (!(nameS s))))] [] (name_c s) ?_
 exact gT (vc (bo (!(nameS s)))) rfl
theorem f37_body : Tryd.f37.body = some (.seq (.region 0 (rg Tryd.f37 0) false) (.seq (.seq (.region 1 (rg Tryd.f37 1) false) (.cond (.tmp 10) (.seq (.region 2 (rg Tryd.f37 2) false) (.ret)) (.skip))) (.seq (.seq (.region 3 (rg Tryd.f37 3) false) (.block 0 (.loop (.seq (.region 4 (rg Tryd.f37 4) false) (.seq (.cond (.tmp 14) (.skip) (.exit 0)) (.seq (.block 1 (.seq (.region 5 (rg Tryd.f37 5) false) (.seq (.region 6 (rg Tryd.f37 6) true) (.cond (.tmp 24) (.seq (.region 7 (rg Tryd.f37 7) false) (.ret)) (.skip))))) (.region 8 (rg Tryd.f37 8) false))))))) (.seq (.region 9 (rg Tryd.f37 9) false) (.ret))))) := by kernel_rfl
set_option maxRecDepth 100000 in
set_option maxHeartbeats 8000000 in
theorem EqualT_c (a b : List Bytes) : Pure Tryd.prog 37 [tc (AL.Fnv.slS a), tc (AL.Fnv.slS b)] (vc (bo (decide (a = b)))) := by
 refine Pure.of_body Tryd.func37 f37_body (by kernel_rfl) Tryd.ntmps37 (by kernel_rfl) (by kernel_rfl) ?_
 refine AMx.sl 0 (l := a) rfl (fun hl => ?_)
 simp only [maxLen] at hl
 refine gS [] [] 26 [(0, vc (AL.Fnv.slS a)), (1, vc (AL.Fnv.slS b))] [] trivial ?_
 refine gQ ?_
 refine gS [] [] 26 [(0, vc (AL.Fnv.slS a)), (1, vc (AL.Fnv.slS b)), (10, vc (bo (!decide ((List.length a : Int) = (List.length b : Int)))))] [] trivial ?_
 refine gN ((List.length a : Int) = (List.length b : Int)) (fun hc1 => ?_) fun hc1 => ?_
 ·
  refine gS [] [] 26 [(4, vc (bo false))] [] trivial ?_
  exact gT (vc (bo false)) (by rw [decide_eq_false (fun h => by subst h; simp_all)])
 ·
  refine AMx.skip ?_
  refine gQ ?_
  refine gS [] [] 26 [(0, vc (AL.Fnv.slS a)), (1, vc (AL.Fnv.slS b)), (12, vc (i6 (List.length a : Int))), (13, vc (i6 0))] [] trivial ?_
  refine AMx.block ?_
  refine AMx.ent (s' := AS.lst 26 [(0, vc (AL.Fnv.slS a)), (1, vc (AL.Fnv.slS b)), (12, vc (i6 (List.length a : Int))), (13, vc (i6 0))] []) (ent_proj [0, 1, 12, 13] []) ?_
  refine AMx.loop (fun mm ss => ∃ (i : Nat), (i ≤ a.length ∧ List.take i a = List.take i b) ∧ mm = a.length - i ∧ ss = AS.lst 26 [(0, vc (AL.Fnv.slS a)), (1, vc (AL.Fnv.slS b)), (12, vc (i6 (List.length a : Int))), (13, vc (i6 (i : Int)))] []) ⟨0, ?_, rfl, ?_⟩ ?_
  · exact ⟨by omega, rfl⟩
  · rfl
  rintro mm ss ⟨i, ⟨hI, hE⟩, rfl, rfl⟩
  refine gS [] [] 26 [(0, vc (AL.Fnv.slS a)), (1, vc (AL.Fnv.slS b)), (12, vc (i6 (List.length a : Int))), (13, vc (i6 (i : Int))), (14, vc (bo (decide ((i : Int) < (List.length a : Int)))))] [] trivial ?_
  refine gQ ?_
  refine gC ((i : Int) < (List.length a : Int)) (fun hc2 => ?_) fun hc2 => ?_
  ·
   refine AMx.skip ?_
   refine gQ ?_
   refine AMx.block ?_
   refine gS [] [] 26 [(0, vc (AL.Fnv.slS a)), (1, vc (AL.Fnv.slS b)), (5, vc (i6 (i : Int))), (12, vc (i6 (List.length a : Int))), (13, vc (i6 (i : Int)))] [] trivial ?_
   refine gY [] [] [(0 : Int) ≤ (i : Int), (i : Int) < List.length a, (0 : Int) ≤ (i : Int), (i : Int) < List.length b] 26 [(0, vc (AL.Fnv.slS a)), (1, vc (AL.Fnv.slS b)), (12, vc (i6 (List.length a : Int))), (13, vc (i6 (i : Int))), (24, vc (bo (!decide ((List.getD a i []) = (List.getD b i [])))))] [] mixed ⟨(show (0 : Int) ≤ (i : Int) from (by omega)), (show (i : Int) < List.length a from (by omega)), (show (0 : Int) ≤ (i : Int) from (by omega)), (show (i : Int) < List.length b from (by omega))⟩ ?_
   refine gN ((List.getD a i []) = (List.getD b i [])) (fun hc3 => ?_) fun hc3 => ?_
   ·
    refine gS [] [] 26 [(4, vc (bo false))] [] trivial ?_
    exact gT (vc (bo false)) (by rw [decide_eq_false (fun h => by subst h; simp_all)])
   ·
    refine AMx.skip ?_
    refine AMx.blk ?_
    refine gR [] [InR .i64 ((i : Int) + 1)] 26 [(0, vc (AL.Fnv.slS a)), (1, vc (AL.Fnv.slS b)), (12, vc (i6 (List.length a : Int))), (13, vc (i6 ((i : Int) + 1)))] [] (show InR .i64 ((i : Int) + 1) from (inR64 (by omega) (by omega))) ?_
    refine AMx.ent_inv (s' := AS.lst 26 [(0, vc (AL.Fnv.slS a)), (1, vc (AL.Fnv.slS b)), (12, vc (i6 (List.length a : Int))), (13, vc (i6 ((i : Int) + 1)))] []) (ent_proj [0, 1, 12, 13] []) ?_
    refine AMx.inv ⟨_, ?_, i + 1, ?_, rfl, ?_⟩
    rotate_left
    · exact ⟨by omega, Lib.same_step [] a b i (by omega) (by omega) hE (by assumption)⟩
    · rfl
    · omega
  ·
   refine AMx.exit ?_
   refine AMx.code_exit ?_
   refine AMx.inv_exit ?_
   refine AMx.blk_exit ?_
   refine gS [] [] 26 [(4, vc (bo true))] [] trivial ?_
   exact gT (vc (bo true)) (by rw [decide_eq_true (Lib.same_end a b i (by omega) (by omega) hE)])
theorem f60_body : Tryd.f60.body = some (.seq (.region 0 (rg Tryd.f60 0) false) (.seq (.seq (.region 1 (rg Tryd.f60 1) false) (.block 0 (.loop (.seq (.region 2 (rg Tryd.f60 2) false) (.seq (.cond (.tmp 9) (.skip) (.exit 0)) (.seq (.block 1 (.seq (.region 3 (rg Tryd.f60 3) false) (.seq (.region 4 (rg Tryd.f60 4) false) (.cond (.tmp 16) (.seq (.region 5 (rg Tryd.f60 5) false) (.ret)) (.skip))))) (.region 6 (rg Tryd.f60 6) false))))))) (.seq (.region 7 (rg Tryd.f60 7) false) (.ret)))) := by kernel_rfl
set_option maxRecDepth 100000 in
set_option maxHeartbeats 8000000 in
theorem IndexT_c (f : FuncId) (caps : List Cap) (p : Bytes → Bool) (hf : ∀ x : Bytes, Pure Tryd.prog f ([tc (st x)] ++ List.map capT caps) (vc (bo (p x)))) (l : List Bytes) : Pure Tryd.prog 60 [tc (AL.Fnv.slS l), TV.c (.fn f caps)] (vc (i6 (Lib.idxS p l))) := by
 refine Pure.of_body Tryd.func60 f60_body (by kernel_rfl) Tryd.ntmps60 (by kernel_rfl) (by kernel_rfl) ?_
 refine AMx.sl 0 (l := l) rfl (fun hl => ?_)
 simp only [maxLen] at hl
 refine gS [] [] 19 [(0, vc (AL.Fnv.slS l)), (1, AV.t (TV.c (.fn f caps)))] [] trivial ?_
 refine gQ ?_
 refine gS [] [] 19 [(0, vc (AL.Fnv.slS l)), (1, AV.t (TV.c (.fn f caps))), (7, vc (i6 (List.length l : Int))), (8, vc (i6 0))] [] trivial ?_
 refine AMx.block ?_
 refine AMx.ent (s' := AS.lst 19 [(0, vc (AL.Fnv.slS l)), (1, AV.t (TV.c (.fn f caps))), (7, vc (i6 (List.length l : Int))), (8, vc (i6 0))] []) (ent_proj [0, 1, 7, 8] []) ?_
 refine AMx.loop (fun mm ss => ∃ (k : Nat), (k ≤ l.length ∧ ∀ x ∈ List.take k l, p x = false) ∧ mm = l.length - k ∧ ss = AS.lst 19 [(0, vc (AL.Fnv.slS l)), (1, AV.t (TV.c (.fn f caps))), (7, vc (i6 (List.length l : Int))), (8, vc (i6 (k : Int)))] []) ⟨0, ?_, rfl, ?_⟩ ?_
 · exact ⟨by omega, fun x hx => by simp at hx⟩
 · rfl
 rintro mm ss ⟨k, ⟨hI, hN⟩, rfl, rfl⟩
 refine gS [] [] 19 [(0, vc (AL.Fnv.slS l)), (1, AV.t (TV.c (.fn f caps))), (7, vc (i6 (List.length l : Int))), (8, vc (i6 (k : Int))), (9, vc (bo (decide ((k : Int) < (List.length l : Int)))))] [] trivial ?_
 refine gQ ?_
 refine gC ((k : Int) < (List.length l : Int)) (fun hc1 => ?_) fun hc1 => ?_
 ·
  refine AMx.skip ?_
  refine gQ ?_
  refine AMx.block ?_
  refine gS [] [] 19 [(0, vc (AL.Fnv.slS l)), (1, AV.t (TV.c (.fn f caps))), (5, vc (i6 (k : Int))), (7, vc (i6 (List.length l : Int))), (8, vc (i6 (k : Int)))] [] trivial ?_
  refine gS [(5, CE.call [] [] (vc (bo (p (List.getD l k [])))) [])] [(0 : Int) ≤ (k : Int), (k : Int) < List.length l, Spec Tryd.prog f ([tc (st (List.getD l k []))] ++ List.map capT caps) (ofH []) (vc (bo (p (List.getD l k [])))) (ofH [])] 19 [(0, vc (AL.Fnv.slS l)), (1, AV.t (TV.c (.fn f caps))), (5, vc (i6 (k : Int))), (7, vc (i6 (List.length l : Int))), (8, vc (i6 (k : Int))), (16, vc (bo (p (List.getD l k []))))] [] ⟨(show (0 : Int) ≤ (k : Int) from (by omega)), (show (k : Int) < List.length l from (by omega)), (hf (List.getD l k []))⟩ ?_
  refine gB (p (List.getD l k [])) (fun hc2 => ?_) fun hc2 => ?_
  ·
   try simp only [xT, xF] at hc2
   refine gS [] [] 19 [(4, vc (i6 (k : Int)))] [] trivial ?_
   exact gT (vc (i6 (k : Int))) (by rw [Lib.idx_hit [] l k (by omega) hN (by assumption)])
  ·
   try simp only [xT, xF] at hc2
   refine AMx.skip ?_
   refine AMx.blk ?_
   refine gR [] [InR .i64 ((k : Int) + 1)] 19 [(0, vc (AL.Fnv.slS l)), (1, AV.t (TV.c (.fn f caps))), (7, vc (i6 (List.length l : Int))), (8, vc (i6 ((k : Int) + 1)))] [] (show InR .i64 ((k : Int) + 1) from (inR64 (by omega) (by omega))) ?_
   refine AMx.ent_inv (s' := AS.lst 19 [(0, vc (AL.Fnv.slS l)), (1, AV.t (TV.c (.fn f caps))), (7, vc (i6 (List.length l : Int))), (8, vc (i6 ((k : Int) + 1)))] []) (ent_proj [0, 1, 7, 8] []) ?_
   refine AMx.inv ⟨_, ?_, k + 1, ?_, rfl, ?_⟩
   rotate_left
   · exact ⟨by omega, Lib.all_step [] l k (by omega) hN (by assumption)⟩
   · rfl
   · omega
 ·
  refine AMx.exit ?_
  refine AMx.code_exit ?_
  refine AMx.inv_exit ?_
  refine AMx.blk_exit ?_
  refine gS [] [] 19 [(4, vc (i6 (-1)))] [] trivial ?_
  exact gT (vc (i6 (-1))) (by rw [Lib.idx_none (fun x hx => hN x (by rwa [List.take_of_length_le (by omega)]))])
theorem f30_body : Tryd.f30.body = some (.seq (.region 0 (rg Tryd.f30 0) false) (.seq (.region 1 (rg Tryd.f30 1) false) (.ret))) := by kernel_rfl
set_option maxRecDepth 100000 in
set_option maxHeartbeats 8000000 in
theorem ContainsT_c (f : FuncId) (caps : List Cap) (p : Bytes → Bool) (hf : ∀ x : Bytes, Pure Tryd.prog f ([tc (st x)] ++ List.map capT caps) (vc (bo (p x)))) (l : List Bytes) : Pure Tryd.prog 30 [tc (AL.Fnv.slS l), TV.c (.fn f caps)] (vc (bo (decide (0 ≤ Lib.idxS p l)))) := by
 refine Pure.of_body Tryd.func30 f30_body (by kernel_rfl) Tryd.ntmps30 (by kernel_rfl) (by kernel_rfl) ?_
 refine gS [] [] 9 [(0, vc (AL.Fnv.slS l)), (1, AV.t (TV.c (.fn f caps)))] [] trivial ?_
 refine gS [(2, CE.call [] [] (vc (i6 (Lib.idxS p l))) [])] [Spec Tryd.prog 60 [tc (AL.Fnv.slS l), TV.c (.fn f caps)] (ofH []) (vc (i6 (Lib.idxS p l))) (ofH [])] 9 [(4, vc (bo (decide (0 ≤ Lib.idxS p l))))] [] (IndexT_c f caps p hf l) ?_
 exact gT (vc (bo (decide (0 ≤ Lib.idxS p l)))) rfl
theorem f28_body : Tryd.f28.body = some (.seq (.region 0 (rg Tryd.f28 0) false) (.seq (.seq (.region 1 (rg Tryd.f28 1) false) (.block 0 (.seq (.region 2 (rg Tryd.f28 2) false) (.cond (.tmp 5) (.seq (.region 3 (rg Tryd.f28 3) false) (.ret)) (.seq (.region 4 (rg Tryd.f28 4) false) (.cond (.tmp 12) (.seq (.region 5 (rg Tryd.f28 5) false) (.ret)) (.seq (.region 6 (rg Tryd.f28 6) false) (.cond (.tmp 19) (.seq (.region 7 (rg Tryd.f28 7) false) (.ret)) (.seq (.region 8 (rg Tryd.f28 8) false) (.cond (.tmp 28) (.seq (.region 9 (rg Tryd.f28 9) false) (.ret)) (.seq (.region 10 (rg Tryd.f28 10) false) (.cond (.tmp 35) (.seq (.region 11 (rg Tryd.f28 11) false) (.ret)) (.seq (.region 12 (rg Tryd.f28 12) false) (.cond (.tmp 42) (.seq (.region 13 (rg Tryd.f28 13) false) (.ret)) (.skip))))))))))))))) (.seq (.region 14 (rg Tryd.f28 14) false) (.ret)))) := by kernel_rfl
set_option maxRecDepth 100000 in
set_option maxHeartbeats 8000000 in
theorem parts_c (r : RepV) : Pure Tryd.prog 28 [TV.agg [.s (u8 r.kind), .s (i6 r.err), .s (i6 r.n), .s (st r.data), .s (AL.Fnv.slS r.names), .s (i6 r.sec.1), .s (bo r.sec.2.1), .s (i6 r.sec.2.2.1), .s (Secret.slR r.sec.2.2.2), .s (bo r.flag)]] (AV.t (TV.agg [.s (u8 ((partsS r).kind)), .s (i6 ((partsS r).err)), .s (i6 ((partsS r).n)), .s (st ((partsS r).data)), .s (AL.Fnv.slS ((partsS r).names)), .s (i6 (((partsS r).sec).1)), .s (bo (((partsS r).sec).2.1)), .s (i6 (((partsS r).sec).2.2.1)), .s (Secret.slR (((partsS r).sec).2.2.2)), .s (bo ((partsS r).flag))])) := by
 refine Pure.of_body Tryd.func28 f28_body (by kernel_rfl) Tryd.ntmps28 (by kernel_rfl) (by kernel_rfl) ?_
 refine gS [] [] 52 [(1, vp 1 0), (2, vp 2 0)] [(1, AObj.row [.s (u8 r.kind), .s (i6 r.err), .s (i6 r.n), .s (st r.data), .s (AL.Fnv.slS r.names), .s (i6 r.sec.1), .s (bo r.sec.2.1), .s (i6 r.sec.2.2.1), .s (Secret.slR r.sec.2.2.2), .s (bo r.flag)]), (2, AObj.row [.s (u8 0), .s (i6 0), .s (i6 0), .s (st []), .s (SC.nilsl), .s (i6 0), .s (bo false), .s (i6 0), .s (SC.nilsl), .s (bo false)])] trivial ?_
 refine gQ ?_
 refine gS [] [] 52 [(1, vp 1 0), (2, vp 2 0), (4, vc (u8 r.kind))] [(1, AObj.row [.s (u8 r.kind), .s (i6 r.err), .s (i6 r.n), .s (st r.data), .s (AL.Fnv.slS r.names), .s (i6 r.sec.1), .s (bo r.sec.2.1), .s (i6 r.sec.2.2.1), .s (Secret.slR r.sec.2.2.2), .s (bo r.flag)]), (2, AObj.row [.s (u8 0), .s (i6 0), .s (i6 0), .s (st []), .s (SC.nilsl), .s (i6 0), .s (bo false), .s (i6 0), .s (SC.nilsl), .s (bo false)])] trivial ?_
 refine AMx.block ?_
 refine gS [] [] 52 [(1, vp 1 0), (2, vp 2 0), (4, vc (u8 r.kind)), (5, vc (bo (decide (r.kind = 0))))] [(1, AObj.row [.s (u8 r.kind), .s (i6 r.err), .s (i6 r.n), .s (st r.data), .s (AL.Fnv.slS r.names), .s (i6 r.sec.1), .s (bo r.sec.2.1), .s (i6 r.sec.2.2.1), .s (Secret.slR r.sec.2.2.2), .s (bo r.flag)]), (2, AObj.row [.s (u8 0), .s (i6 0), .s (i6 0), .s (st []), .s (SC.nilsl), .s (i6 0), .s (bo false), .s (i6 0), .s (SC.nilsl), .s (bo false)])] trivial ?_
 refine gC (r.kind = 0) (fun hc1 => ?_) fun hc1 => ?_
 ·
  refine gS [] [] 52 [(2, vp 2 0)] [(2, AObj.row [.s (u8 r.kind), .s (i6 r.err), .s (i6 0), .s (st []), .s (SC.nilsl), .s (i6 0), .s (bo false), .s (i6 0), .s (SC.nilsl), .s (bo false)])] trivial ?_
  refine AMx.ent (ent_row 2 (l := [.s (u8 r.kind), .s (i6 r.err), .s (i6 0), .s (st []), .s (SC.nilsl), .s (i6 0), .s (bo false), .s (i6 0), .s (SC.nilsl), .s (bo false)]) (m := [.s (u8 r.kind), .s (i6 r.err), .s (i6 0), .s (st []), .s (AL.Fnv.slS []), .s (i6 0), .s (bo false), .s (i6 0), .s (Secret.slR []), .s (bo false)]) (by kernel_rfl) ⟨AC.le_rfl, AC.le_rfl, AC.le_rfl, AC.le_rfl, AC.le_nil, AC.le_rfl, AC.le_rfl, AC.le_rfl, AC.le_nil, AC.le_rfl, trivial⟩) ?_
  exact gT (AV.t (TV.agg [.s (u8 r.kind), .s (i6 r.err), .s (i6 0), .s (st []), .s (AL.Fnv.slS []), .s (i6 0), .s (bo false), .s (i6 0), .s (Secret.slR []), .s (bo false)])) (by rw [show partsS r = (⟨r.kind, r.err, 0, [], [], ((0, false, 0, []) : Secret.Sec), false⟩ : RepV) from by unfold partsS; grind])
 ·
  refine gS [] [] 52 [(1, vp 1 0), (2, vp 2 0), (4, vc (u8 r.kind)), (12, vc (bo (decide (r.kind = 2))))] [(1, AObj.row [.s (u8 r.kind), .s (i6 r.err), .s (i6 r.n), .s (st r.data), .s (AL.Fnv.slS r.names), .s (i6 r.sec.1), .s (bo r.sec.2.1), .s (i6 r.sec.2.2.1), .s (Secret.slR r.sec.2.2.2), .s (bo r.flag)]), (2, AObj.row [.s (u8 0), .s (i6 0), .s (i6 0), .s (st []), .s (SC.nilsl), .s (i6 0), .s (bo false), .s (i6 0), .s (SC.nilsl), .s (bo false)])] trivial ?_
  refine gC (r.kind = 2) (fun hc2 => ?_) fun hc2 => ?_
  ·
   refine gS [] [] 52 [(2, vp 2 0)] [(2, AObj.row [.s (u8 r.kind), .s (i6 0), .s (i6 r.n), .s (st []), .s (SC.nilsl), .s (i6 0), .s (bo false), .s (i6 0), .s (SC.nilsl), .s (bo false)])] trivial ?_
   refine AMx.ent (ent_row 2 (l := [.s (u8 r.kind), .s (i6 0), .s (i6 r.n), .s (st []), .s (SC.nilsl), .s (i6 0), .s (bo false), .s (i6 0), .s (SC.nilsl), .s (bo false)]) (m := [.s (u8 r.kind), .s (i6 0), .s (i6 r.n), .s (st []), .s (AL.Fnv.slS []), .s (i6 0), .s (bo false), .s (i6 0), .s (Secret.slR []), .s (bo false)]) (by kernel_rfl) ⟨AC.le_rfl, AC.le_rfl, AC.le_rfl, AC.le_rfl, AC.le_nil, AC.le_rfl, AC.le_rfl, AC.le_rfl, AC.le_nil, AC.le_rfl, trivial⟩) ?_
   exact gT (AV.t (TV.agg [.s (u8 r.kind), .s (i6 0), .s (i6 r.n), .s (st []), .s (AL.Fnv.slS []), .s (i6 0), .s (bo false), .s (i6 0), .s (Secret.slR []), .s (bo false)])) (by rw [show partsS r = (⟨r.kind, 0, r.n, [], [], ((0, false, 0, []) : Secret.Sec), false⟩ : RepV) from by unfold partsS; grind])
  ·
   refine gS [] [] 52 [(1, vp 1 0), (2, vp 2 0), (4, vc (u8 r.kind)), (19, vc (bo (decide (r.kind = 3))))] [(1, AObj.row [.s (u8 r.kind), .s (i6 r.err), .s (i6 r.n), .s (st r.data), .s (AL.Fnv.slS r.names), .s (i6 r.sec.1), .s (bo r.sec.2.1), .s (i6 r.sec.2.2.1), .s (Secret.slR r.sec.2.2.2), .s (bo r.flag)]), (2, AObj.row [.s (u8 0), .s (i6 0), .s (i6 0), .s (st []), .s (SC.nilsl), .s (i6 0), .s (bo false), .s (i6 0), .s (SC.nilsl), .s (bo false)])] trivial ?_
   refine gC (r.kind = 3) (fun hc3 => ?_) fun hc3 => ?_
   ·
    refine gS [] [] 52 [(2, vp 2 0)] [(2, AObj.row [.s (u8 r.kind), .s (i6 0), .s (i6 r.n), .s (st r.data), .s (SC.nilsl), .s (i6 0), .s (bo false), .s (i6 0), .s (SC.nilsl), .s (bo false)])] trivial ?_
    refine AMx.ent (ent_row 2 (l := [.s (u8 r.kind), .s (i6 0), .s (i6 r.n), .s (st r.data), .s (SC.nilsl), .s (i6 0), .s (bo false), .s (i6 0), .s (SC.nilsl), .s (bo false)]) (m := [.s (u8 r.kind), .s (i6 0), .s (i6 r.n), .s (st r.data), .s (AL.Fnv.slS []), .s (i6 0), .s (bo false), .s (i6 0), .s (Secret.slR []), .s (bo false)]) (by kernel_rfl) ⟨AC.le_rfl, AC.le_rfl, AC.le_rfl, AC.le_rfl, AC.le_nil, AC.le_rfl, AC.le_rfl, AC.le_rfl, AC.le_nil, AC.le_rfl, trivial⟩) ?_
    exact gT (AV.t (TV.agg [.s (u8 r.kind), .s (i6 0), .s (i6 r.n), .s (st r.data), .s (AL.Fnv.slS []), .s (i6 0), .s (bo false), .s (i6 0), .s (Secret.slR []), .s (bo false)])) (by rw [show partsS r = (⟨r.kind, 0, r.n, r.data, [], ((0, false, 0, []) : Secret.Sec), false⟩ : RepV) from by unfold partsS; grind])
   ·
    refine gS [] [] 52 [(1, vp 1 0), (2, vp 2 0), (4, vc (u8 r.kind)), (28, vc (bo (decide (r.kind = 4))))] [(1, AObj.row [.s (u8 r.kind), .s (i6 r.err), .s (i6 r.n), .s (st r.data), .s (AL.Fnv.slS r.names), .s (i6 r.sec.1), .s (bo r.sec.2.1), .s (i6 r.sec.2.2.1), .s (Secret.slR r.sec.2.2.2), .s (bo r.flag)]), (2, AObj.row [.s (u8 0), .s (i6 0), .s (i6 0), .s (st []), .s (SC.nilsl), .s (i6 0), .s (bo false), .s (i6 0), .s (SC.nilsl), .s (bo false)])] trivial ?_
    refine gC (r.kind = 4) (fun hc4 => ?_) fun hc4 => ?_
    ·
     refine gS [] [] 52 [(2, vp 2 0)] [(2, AObj.row [.s (u8 r.kind), .s (i6 0), .s (i6 0), .s (st []), .s (SC.nilsl), .s (i6 r.sec.1), .s (bo r.sec.2.1), .s (i6 r.sec.2.2.1), .s (Secret.slR r.sec.2.2.2), .s (bo false)])] trivial ?_
     refine AMx.ent (ent_row 2 (l := [.s (u8 r.kind), .s (i6 0), .s (i6 0), .s (st []), .s (SC.nilsl), .s (i6 r.sec.1), .s (bo r.sec.2.1), .s (i6 r.sec.2.2.1), .s (Secret.slR r.sec.2.2.2), .s (bo false)]) (m := [.s (u8 r.kind), .s (i6 0), .s (i6 0), .s (st []), .s (AL.Fnv.slS []), .s (i6 r.sec.1), .s (bo r.sec.2.1), .s (i6 r.sec.2.2.1), .s (Secret.slR r.sec.2.2.2), .s (bo false)]) (by kernel_rfl) ⟨AC.le_rfl, AC.le_rfl, AC.le_rfl, AC.le_rfl, AC.le_nil, AC.le_rfl, AC.le_rfl, AC.le_rfl, AC.le_rfl, AC.le_rfl, trivial⟩) ?_
     exact gT (AV.t (TV.agg [.s (u8 r.kind), .s (i6 0), .s (i6 0), .s (st []), .s (AL.Fnv.slS []), .s (i6 r.sec.1), .s (bo r.sec.2.1), .s (i6 r.sec.2.2.1), .s (Secret.slR r.sec.2.2.2), .s (bo false)])) (by rw [show partsS r = (⟨r.kind, 0, 0, [], [], r.sec, false⟩ : RepV) from by unfold partsS; grind])
    ·
     refine gS [] [] 52 [(1, vp 1 0), (2, vp 2 0), (4, vc (u8 r.kind)), (35, vc (bo (decide (r.kind = 5))))] [(1, AObj.row [.s (u8 r.kind), .s (i6 r.err), .s (i6 r.n), .s (st r.data), .s (AL.Fnv.slS r.names), .s (i6 r.sec.1), .s (bo r.sec.2.1), .s (i6 r.sec.2.2.1), .s (Secret.slR r.sec.2.2.2), .s (bo r.flag)]), (2, AObj.row [.s (u8 0), .s (i6 0), .s (i6 0), .s (st []), .s (SC.nilsl), .s (i6 0), .s (bo false), .s (i6 0), .s (SC.nilsl), .s (bo false)])] trivial ?_
     refine gC (r.kind = 5) (fun hc5 => ?_) fun hc5 => ?_
     ·
      refine gS [] [] 52 [(2, vp 2 0)] [(2, AObj.row [.s (u8 r.kind), .s (i6 0), .s (i6 0), .s (st []), .s (AL.Fnv.slS r.names), .s (i6 0), .s (bo false), .s (i6 0), .s (SC.nilsl), .s (bo false)])] trivial ?_
      refine AMx.ent (ent_row 2 (l := [.s (u8 r.kind), .s (i6 0), .s (i6 0), .s (st []), .s (AL.Fnv.slS r.names), .s (i6 0), .s (bo false), .s (i6 0), .s (SC.nilsl), .s (bo false)]) (m := [.s (u8 r.kind), .s (i6 0), .s (i6 0), .s (st []), .s (AL.Fnv.slS r.names), .s (i6 0), .s (bo false), .s (i6 0), .s (Secret.slR []), .s (bo false)]) (by kernel_rfl) ⟨AC.le_rfl, AC.le_rfl, AC.le_rfl, AC.le_rfl, AC.le_rfl, AC.le_rfl, AC.le_rfl, AC.le_rfl, AC.le_nil, AC.le_rfl, trivial⟩) ?_
      exact gT (AV.t (TV.agg [.s (u8 r.kind), .s (i6 0), .s (i6 0), .s (st []), .s (AL.Fnv.slS r.names), .s (i6 0), .s (bo false), .s (i6 0), .s (Secret.slR []), .s (bo false)])) (by rw [show partsS r = (⟨r.kind, 0, 0, [], r.names, ((0, false, 0, []) : Secret.Sec), false⟩ : RepV) from by unfold partsS; grind])
     ·
      refine gS [] [] 52 [(1, vp 1 0), (2, vp 2 0), (42, vc (bo (decide (r.kind = 6))))] [(1, AObj.row [.s (u8 r.kind), .s (i6 r.err), .s (i6 r.n), .s (st r.data), .s (AL.Fnv.slS r.names), .s (i6 r.sec.1), .s (bo r.sec.2.1), .s (i6 r.sec.2.2.1), .s (Secret.slR r.sec.2.2.2), .s (bo r.flag)]), (2, AObj.row [.s (u8 0), .s (i6 0), .s (i6 0), .s (st []), .s (SC.nilsl), .s (i6 0), .s (bo false), .s (i6 0), .s (SC.nilsl), .s (bo false)])] trivial ?_
      refine gC (r.kind = 6) (fun hc6 => ?_) fun hc6 => ?_
      ·
       refine gS [] [] 52 [(2, vp 2 0)] [(2, AObj.row [.s (u8 r.kind), .s (i6 0), .s (i6 0), .s (st []), .s (SC.nilsl), .s (i6 0), .s (bo false), .s (i6 0), .s (SC.nilsl), .s (bo r.flag)])] trivial ?_
       refine AMx.ent (ent_row 2 (l := [.s (u8 r.kind), .s (i6 0), .s (i6 0), .s (st []), .s (SC.nilsl), .s (i6 0), .s (bo false), .s (i6 0), .s (SC.nilsl), .s (bo r.flag)]) (m := [.s (u8 r.kind), .s (i6 0), .s (i6 0), .s (st []), .s (AL.Fnv.slS []), .s (i6 0), .s (bo false), .s (i6 0), .s (Secret.slR []), .s (bo r.flag)]) (by kernel_rfl) ⟨AC.le_rfl, AC.le_rfl, AC.le_rfl, AC.le_rfl, AC.le_nil, AC.le_rfl, AC.le_rfl, AC.le_rfl, AC.le_nil, AC.le_rfl, trivial⟩) ?_
       exact gT (AV.t (TV.agg [.s (u8 r.kind), .s (i6 0), .s (i6 0), .s (st []), .s (AL.Fnv.slS []), .s (i6 0), .s (bo false), .s (i6 0), .s (Secret.slR []), .s (bo r.flag)])) (by rw [show partsS r = (⟨r.kind, 0, 0, [], [], ((0, false, 0, []) : Secret.Sec), r.flag⟩ : RepV) from by unfold partsS; grind])
      ·
       refine AMx.skip ?_
       refine AMx.blk ?_
       refine gS [] [] 52 [(2, vp 2 0)] [(2, AObj.row [.s (u8 r.kind), .s (i6 0), .s (i6 0), .s (st []), .s (SC.nilsl), .s (i6 0), .s (bo false), .s (i6 0), .s (SC.nilsl), .s (bo false)])] trivial ?_
       refine AMx.ent (ent_row 2 (l := [.s (u8 r.kind), .s (i6 0), .s (i6 0), .s (st []), .s (SC.nilsl), .s (i6 0), .s (bo false), .s (i6 0), .s (SC.nilsl), .s (bo false)]) (m := [.s (u8 r.kind), .s (i6 0), .s (i6 0), .s (st []), .s (AL.Fnv.slS []), .s (i6 0), .s (bo false), .s (i6 0), .s (Secret.slR []), .s (bo false)]) (by kernel_rfl) ⟨AC.le_rfl, AC.le_rfl, AC.le_rfl, AC.le_rfl, AC.le_nil, AC.le_rfl, AC.le_rfl, AC.le_rfl, AC.le_nil, AC.le_rfl, trivial⟩) ?_
       exact gT (AV.t (TV.agg [.s (u8 r.kind), .s (i6 0), .s (i6 0), .s (st []), .s (AL.Fnv.slS []), .s (i6 0), .s (bo false), .s (i6 0), .s (Secret.slR []), .s (bo false)])) (by rw [show partsS r = (⟨r.kind, 0, 0, [], [], ((0, false, 0, []) : Secret.Sec), false⟩ : RepV) from by unfold partsS; grind])
theorem f13_body : Tryd.f13.body = some (.seq (.region 0 (rg Tryd.f13 0) false) (.seq (.seq (.region 1 (rg Tryd.f13 1) false) (.cond (.tmp 18) (.seq (.region 2 (rg Tryd.f13 2) false) (.ret)) (.skip))) (.seq (.region 3 (rg Tryd.f13 3) false) (.ret)))) := by kernel_rfl
set_option maxRecDepth 100000 in
set_option maxHeartbeats 8000000 in
theorem Same_c (a b : RepV) : Pure Tryd.prog 13 [TV.agg [.s (u8 a.kind), .s (i6 a.err), .s (i6 a.n), .s (st a.data), .s (AL.Fnv.slS a.names), .s (i6 a.sec.1), .s (bo a.sec.2.1), .s (i6 a.sec.2.2.1), .s (Secret.slR a.sec.2.2.2), .s (bo a.flag)], TV.agg [.s (u8 b.kind), .s (i6 b.err), .s (i6 b.n), .s (st b.data), .s (AL.Fnv.slS b.names), .s (i6 b.sec.1), .s (bo b.sec.2.1), .s (i6 b.sec.2.2.1), .s (Secret.slR b.sec.2.2.2), .s (bo b.flag)]] (vc (bo (decide (a = b)))) := by
 refine Pure.of_body Tryd.func13 f13_body (by kernel_rfl) Tryd.ntmps13 (by kernel_rfl) (by kernel_rfl) ?_
 refine gS [] [] 52 [(2, vp 2 0), (3, vp 3 0)] [(2, AObj.row [.s (u8 a.kind), .s (i6 a.err), .s (i6 a.n), .s (st a.data), .s (AL.Fnv.slS a.names), .s (i6 a.sec.1), .s (bo a.sec.2.1), .s (i6 a.sec.2.2.1), .s (Secret.slR a.sec.2.2.2), .s (bo a.flag)]), (3, AObj.row [.s (u8 b.kind), .s (i6 b.err), .s (i6 b.n), .s (st b.data), .s (AL.Fnv.slS b.names), .s (i6 b.sec.1), .s (bo b.sec.2.1), .s (i6 b.sec.2.2.1), .s (Secret.slR b.sec.2.2.2), .s (bo b.flag)])] trivial ?_
 refine gQ ?_
 refine gS [(4, CE.call [] [] (vc (bo (decide (a.names = b.names)))) []), (11, CE.call [] [] (vc (bo (decide (a.sec = b.sec)))) [])] [Spec Tryd.prog 37 [tc (AL.Fnv.slS a.names), tc (AL.Fnv.slS b.names)] (ofH []) (vc (bo (decide (a.names = b.names)))) (ofH []), ((!(decide (a.names = b.names))) = false) → allP [], ((!(decide (a.names = b.names))) = false) → allP [(!(decide (a.names = b.names))) = false], ((!(decide (a.names = b.names))) = false) → allP [], ((!(decide (a.names = b.names))) = false) → allP [(!(decide (a.names = b.names))) = false], ((!(decide (a.names = b.names))) = false) → allP [(!(decide (a.names = b.names))) = false, (!(decide (a.names = b.names))) = false, Spec Tryd.prog 38 [TV.agg [.s (i6 a.sec.1), .s (bo a.sec.2.1), .s (i6 a.sec.2.2.1), .s (Secret.slR a.sec.2.2.2)], TV.agg [.s (i6 b.sec.1), .s (bo b.sec.2.1), .s (i6 b.sec.2.2.1), .s (Secret.slR b.sec.2.2.2)]] (ofH []) (vc (bo (decide (a.sec = b.sec)))) (ofH [])], ((!(decide (a.names = b.names))) = false) → allP [(!(decide (a.names = b.names))) = false], (!(decide (a.names = b.names))) = false → allP [(!(decide (a.names = b.names))) = false]] 52 [(2, vp 2 0), (3, vp 3 0), (18, vc (bo ((!(decide (a.names = b.names))) || (!(decide (a.sec = b.sec))))))] [(2, AObj.row [.s (u8 a.kind), .s (i6 a.err), .s (i6 a.n), .s (st a.data), .s (AL.Fnv.slS a.names), .s (i6 a.sec.1), .s (bo a.sec.2.1), .s (i6 a.sec.2.2.1), .s (Secret.slR a.sec.2.2.2), .s (bo a.flag)]), (3, AObj.row [.s (u8 b.kind), .s (i6 b.err), .s (i6 b.n), .s (st b.data), .s (AL.Fnv.slS b.names), .s (i6 b.sec.1), .s (bo b.sec.2.1), .s (i6 b.sec.2.2.1), .s (Secret.slR b.sec.2.2.2), .s (bo b.flag)])] ⟨(EqualT_c a.names b.names), (fun _ => trivial), (fun hp => hp), (fun _ => trivial), (fun hp => hp), (fun hp => by have hq := hp; (try simp only [decide_eq_true_eq, decide_eq_false_iff_not, Bool.and_eq_true, Bool.or_eq_true, Bool.and_eq_false_iff, Bool.or_eq_false_iff, Bool.not_eq_true', Bool.not_eq_false', Bool.not_eq_true, Bool.not_eq_false] at hq); exact ⟨hp, hp, (Secret.Same_c a.sec b.sec)⟩), (fun hp => hp), (fun hp2 => (by first | exact hp2 | exact ⟨hp, hp2⟩))⟩ ?_
 refine gB (((!(decide (a.names = b.names))) || (!(decide (a.sec = b.sec))))) (fun hc1 => ?_) fun hc1 => ?_
 ·
  try simp only [xT, xF, xO, xP, xN, xM] at hc1
  refine gS [] [] 52 [(4, vc (bo false))] [] trivial ?_
  exact gT (vc (bo false)) (by rw [same_no hc1])
 ·
  try simp only [xT, xF, xO, xP, xN, xM] at hc1
  refine AMx.skip ?_
  refine gS [] [((decide (a.kind = b.kind)) = true) → allP [], ((decide (a.kind = b.kind)) = true) → allP [(decide (a.kind = b.kind)) = true], ((decide (a.kind = b.kind)) = true) → allP [], ((decide (a.kind = b.kind)) = true) → allP [(decide (a.kind = b.kind)) = true], ((decide (a.kind = b.kind)) = true) → allP [(decide (a.kind = b.kind)) = true, (decide (a.kind = b.kind)) = true], (decide (a.kind = b.kind)) = true → allP [(decide (a.kind = b.kind)) = true], (((decide (a.kind = b.kind)) && (decide (a.err = b.err))) = true) → allP [], (((decide (a.kind = b.kind)) && (decide (a.err = b.err))) = true) → allP [((decide (a.kind = b.kind)) && (decide (a.err = b.err))) = true], (((decide (a.kind = b.kind)) && (decide (a.err = b.err))) = true) → allP [], (((decide (a.kind = b.kind)) && (decide (a.err = b.err))) = true) → allP [((decide (a.kind = b.kind)) && (decide (a.err = b.err))) = true], (((decide (a.kind = b.kind)) && (decide (a.err = b.err))) = true) → allP [((decide (a.kind = b.kind)) && (decide (a.err = b.err))) = true, ((decide (a.kind = b.kind)) && (decide (a.err = b.err))) = true], ((decide (a.kind = b.kind)) && (decide (a.err = b.err))) = true → allP [((decide (a.kind = b.kind)) && (decide (a.err = b.err))) = true], ((((decide (a.kind = b.kind)) && (decide (a.err = b.err))) && (decide (a.n = b.n))) = true) → allP [], ((((decide (a.kind = b.kind)) && (decide (a.err = b.err))) && (decide (a.n = b.n))) = true) → allP [(((decide (a.kind = b.kind)) && (decide (a.err = b.err))) && (decide (a.n = b.n))) = true], ((((decide (a.kind = b.kind)) && (decide (a.err = b.err))) && (decide (a.n = b.n))) = true) → allP [], ((((decide (a.kind = b.kind)) && (decide (a.err = b.err))) && (decide (a.n = b.n))) = true) → allP [(((decide (a.kind = b.kind)) && (decide (a.err = b.err))) && (decide (a.n = b.n))) = true], ((((decide (a.kind = b.kind)) && (decide (a.err = b.err))) && (decide (a.n = b.n))) = true) → allP [(((decide (a.kind = b.kind)) && (decide (a.err = b.err))) && (decide (a.n = b.n))) = true, (((decide (a.kind = b.kind)) && (decide (a.err = b.err))) && (decide (a.n = b.n))) = true], (((decide (a.kind = b.kind)) && (decide (a.err = b.err))) && (decide (a.n = b.n))) = true → allP [(((decide (a.kind = b.kind)) && (decide (a.err = b.err))) && (decide (a.n = b.n))) = true], (((((decide (a.kind = b.kind)) && (decide (a.err = b.err))) && (decide (a.n = b.n))) && (decide (a.data = b.data))) = true) → allP [], (((((decide (a.kind = b.kind)) && (decide (a.err = b.err))) && (decide (a.n = b.n))) && (decide (a.data = b.data))) = true) → allP [((((decide (a.kind = b.kind)) && (decide (a.err = b.err))) && (decide (a.n = b.n))) && (decide (a.data = b.data))) = true], (((((decide (a.kind = b.kind)) && (decide (a.err = b.err))) && (decide (a.n = b.n))) && (decide (a.data = b.data))) = true) → allP [], (((((decide (a.kind = b.kind)) && (decide (a.err = b.err))) && (decide (a.n = b.n))) && (decide (a.data = b.data))) = true) → allP [((((decide (a.kind = b.kind)) && (decide (a.err = b.err))) && (decide (a.n = b.n))) && (decide (a.data = b.data))) = true], (((((decide (a.kind = b.kind)) && (decide (a.err = b.err))) && (decide (a.n = b.n))) && (decide (a.data = b.data))) = true) → allP [((((decide (a.kind = b.kind)) && (decide (a.err = b.err))) && (decide (a.n = b.n))) && (decide (a.data = b.data))) = true, ((((decide (a.kind = b.kind)) && (decide (a.err = b.err))) && (decide (a.n = b.n))) && (decide (a.data = b.data))) = true], ((((decide (a.kind = b.kind)) && (decide (a.err = b.err))) && (decide (a.n = b.n))) && (decide (a.data = b.data))) = true → allP [((((decide (a.kind = b.kind)) && (decide (a.err = b.err))) && (decide (a.n = b.n))) && (decide (a.data = b.data))) = true]] 52 [(4, vc (bo (((((decide (a.kind = b.kind)) && (decide (a.err = b.err))) && (decide (a.n = b.n))) && (decide (a.data = b.data))) && (a.flag == b.flag))))] [] ⟨(fun _ => trivial), (fun hp => hp), (fun _ => trivial), (fun hp => hp), (fun hp => ⟨hp, hp⟩), (fun hp2 => (by first | exact hp2 | exact ⟨hp, hp2⟩)), (fun _ => trivial), (fun hp => hp), (fun _ => trivial), (fun hp => hp), (fun hp => ⟨hp, hp⟩), (fun hp2 => (by first | exact hp2 | exact ⟨hp, hp2⟩)), (fun _ => trivial), (fun hp => hp), (fun _ => trivial), (fun hp => hp), (fun hp => ⟨hp, hp⟩), (fun hp2 => (by first | exact hp2 | exact ⟨hp, hp2⟩)), (fun _ => trivial), (fun hp => hp), (fun _ => trivial), (fun hp => hp), (fun hp => ⟨hp, hp⟩), (fun hp2 => (by first | exact hp2 | exact ⟨hp, hp2⟩))⟩ ?_
  exact gT (vc (bo (((((decide (a.kind = b.kind)) && (decide (a.err = b.err))) && (decide (a.n = b.n))) && (decide (a.data = b.data))) && (a.flag == b.flag)))) (by rw [same_eq hc1])
theorem f11_body : Tryd.f11.body = some (.seq (.region 0 (rg Tryd.f11 0) false) (.seq (.seq (.region 1 (rg Tryd.f11 1) false) (.cond (.tmp 6) (.seq (.region 2 (rg Tryd.f11 2) false) (.ret)) (.skip))) (.seq (.region 3 (rg Tryd.f11 3) true) (.seq (.seq (.region 4 (rg Tryd.f11 4) false) (.block 0 (.seq (.region 5 (rg Tryd.f11 5) false) (.cond (.tmp 13) (.region 6 (rg Tryd.f11 6) false) (.seq (.seq (.region 7 (rg Tryd.f11 7) false) (.cond (.tmp 26) (.skip) (.region 8 (rg Tryd.f11 8) false))) (.cond (.tmp 26) (.region 9 (rg Tryd.f11 9) false) (.seq (.region 10 (rg Tryd.f11 10) false) (.cond (.tmp 46) (.region 11 (rg Tryd.f11 11) false) (.seq (.region 12 (rg Tryd.f11 12) false) (.cond (.tmp 56) (.region 13 (rg Tryd.f11 13) false) (.skip))))))))))) (.seq (.seq (.region 14 (rg Tryd.f11 14) false) (.cond (.tmp 72) (.seq (.region 15 (rg Tryd.f11 15) false) (.ret)) (.skip))) (.seq (.region 16 (rg Tryd.f11 16) false) (.ret))))))) := by kernel_rfl
set_option maxRecDepth 100000 in
set_option maxHeartbeats 8000000 in
theorem Check_c (r : RepV) : Pure Tryd.prog 11 [TV.agg [.s (u8 r.kind), .s (i6 r.err), .s (i6 r.n), .s (st r.data), .s (AL.Fnv.slS r.names), .s (i6 r.sec.1), .s (bo r.sec.2.1), .s (i6 r.sec.2.2.1), .s (Secret.slR r.sec.2.2.2), .s (bo r.flag)]] (vc (i6 (checkR r))) := by
 refine Pure.of_body Tryd.func11 f11_body (by kernel_rfl) Tryd.ntmps11 (by kernel_rfl) (by kernel_rfl) ?_
 skip
 refine gS [] [] 73 [(1, vp 1 0)] [(1, AObj.row [.s (u8 r.kind), .s (i6 r.err), .s (i6 r.n), .s (st r.data), .s (AL.Fnv.slS r.names), .s (i6 r.sec.1), .s (bo r.sec.2.1), .s (i6 r.sec.2.2.1), .s (Secret.slR r.sec.2.2.2), .s (bo r.flag)])] trivial ?_
 refine gQ ?_
 refine gS [] [] 73 [(1, vp 1 0), (6, vc (bo (decide (6 < r.kind))))] [(1, AObj.row [.s (u8 r.kind), .s (i6 r.err), .s (i6 r.n), .s (st r.data), .s (AL.Fnv.slS r.names), .s (i6 r.sec.1), .s (bo r.sec.2.1), .s (i6 r.sec.2.2.1), .s (Secret.slR r.sec.2.2.2), .s (bo r.flag)])] trivial ?_
 refine gC (6 < r.kind) (fun hc1 => ?_) fun hc1 => ?_
 ·
  refine gS [] [] 73 [(2, vc (i6 22))] [] trivial ?_
  exact gT (vc (i6 22)) (by rw [show checkR r = 22 from check_22 hc1])
 ·
  refine AMx.skip ?_
  refine gY [(2, CE.call [] [] (AV.t (TV.agg [.s (u8 ((partsS r).kind)), .s (i6 ((partsS r).err)), .s (i6 ((partsS r).n)), .s (st ((partsS r).data)), .s (AL.Fnv.slS ((partsS r).names)), .s (i6 (((partsS r).sec).1)), .s (bo (((partsS r).sec).2.1)), .s (i6 (((partsS r).sec).2.2.1)), .s (Secret.slR (((partsS r).sec).2.2.2)), .s (bo ((partsS r).flag))])) []), (3, CE.call [] [] (vc (bo (decide (r = (partsS r))))) [])] [(0, [1]), (1, [1])] [Spec Tryd.prog 28 [TV.agg [.s (u8 r.kind), .s (i6 r.err), .s (i6 r.n), .s (st r.data), .s (AL.Fnv.slS r.names), .s (i6 r.sec.1), .s (bo r.sec.2.1), .s (i6 r.sec.2.2.1), .s (Secret.slR r.sec.2.2.2), .s (bo r.flag)]] (ofH []) (AV.t (TV.agg [.s (u8 ((partsS r).kind)), .s (i6 ((partsS r).err)), .s (i6 ((partsS r).n)), .s (st ((partsS r).data)), .s (AL.Fnv.slS ((partsS r).names)), .s (i6 (((partsS r).sec).1)), .s (bo (((partsS r).sec).2.1)), .s (i6 (((partsS r).sec).2.2.1)), .s (Secret.slR (((partsS r).sec).2.2.2)), .s (bo ((partsS r).flag))])) (ofH []), Spec Tryd.prog 13 [TV.agg [.s (u8 r.kind), .s (i6 r.err), .s (i6 r.n), .s (st r.data), .s (AL.Fnv.slS r.names), .s (i6 r.sec.1), .s (bo r.sec.2.1), .s (i6 r.sec.2.2.1), .s (Secret.slR r.sec.2.2.2), .s (bo r.flag)], TV.agg [.s (u8 ((partsS r).kind)), .s (i6 ((partsS r).err)), .s (i6 ((partsS r).n)), .s (st ((partsS r).data)), .s (AL.Fnv.slS ((partsS r).names)), .s (i6 (((partsS r).sec).1)), .s (bo (((partsS r).sec).2.1)), .s (i6 (((partsS r).sec).2.2.1)), .s (Secret.slR (((partsS r).sec).2.2.2)), .s (bo ((partsS r).flag))]] (ofH []) (vc (bo (decide (r = (partsS r))))) (ofH [])] 73 [(1, vp 1 0), (3, vc (bo (decide (r = (partsS r)))))] [(1, AObj.row [.s (u8 r.kind), .s (i6 r.err), .s (i6 r.n), .s (st r.data), .s (AL.Fnv.slS r.names), .s (i6 r.sec.1), .s (bo r.sec.2.1), .s (i6 r.sec.2.2.1), .s (Secret.slR r.sec.2.2.2), .s (bo r.flag)])] mixed ⟨(parts_c r), (Same_c r (partsS r))⟩ ?_
  refine gQ ?_
  refine gS [] [] 73 [(1, vp 1 0), (3, vc (bo (decide (r = (partsS r))))), (12, vc (u8 r.kind))] [(1, AObj.row [.s (u8 r.kind), .s (i6 r.err), .s (i6 r.n), .s (st r.data), .s (AL.Fnv.slS r.names), .s (i6 r.sec.1), .s (bo r.sec.2.1), .s (i6 r.sec.2.2.1), .s (Secret.slR r.sec.2.2.2), .s (bo r.flag)])] trivial ?_
  refine AMx.block ?_
  refine gS [] [] 73 [(1, vp 1 0), (3, vc (bo (decide (r = (partsS r))))), (12, vc (u8 r.kind)), (13, vc (bo (decide (r.kind = 0))))] [(1, AObj.row [.s (u8 r.kind), .s (i6 r.err), .s (i6 r.n), .s (st r.data), .s (AL.Fnv.slS r.names), .s (i6 r.sec.1), .s (bo r.sec.2.1), .s (i6 r.sec.2.2.1), .s (Secret.slR r.sec.2.2.2), .s (bo r.flag)])] trivial ?_
  refine gC (r.kind = 0) (fun hc2 => ?_) fun hc2 => ?_
  ·
   refine gR [] [((decide (r = (partsS r))) = true) → allP [], ((decide (r = (partsS r))) = true) → allP [(decide (r = (partsS r))) = true], ((decide (r = (partsS r))) = true) → allP [(decide (r = (partsS r))) = true], (decide (r = (partsS r))) = true → allP [(decide (r = (partsS r))) = true], (((decide (r = (partsS r))) && (decide (1 ≤ r.err))) = true) → allP [], (((decide (r = (partsS r))) && (decide (1 ≤ r.err))) = true) → allP [((decide (r = (partsS r))) && (decide (1 ≤ r.err))) = true], (((decide (r = (partsS r))) && (decide (1 ≤ r.err))) = true) → allP [((decide (r = (partsS r))) && (decide (1 ≤ r.err))) = true], ((decide (r = (partsS r))) && (decide (1 ≤ r.err))) = true → allP [((decide (r = (partsS r))) && (decide (1 ≤ r.err))) = true]] 73 [(3, vc (bo (((decide (r = (partsS r))) && (decide (1 ≤ r.err))) && (decide (r.err ≤ 99)))))] [] ⟨(fun _ => trivial), (fun hp => hp), (fun hp => hp), (fun hp2 => (by first | exact hp2 | exact ⟨hp, hp2⟩)), (fun _ => trivial), (fun hp => hp), (fun hp => hp), (fun hp2 => (by first | exact hp2 | exact ⟨hp, hp2⟩))⟩ ?_
   refine AMx.blk ?_
   refine gQ ?_
   refine gS [] [] 73 [(72, vc (bo (!(((decide (r = (partsS r))) && (decide (1 ≤ r.err))) && (decide (r.err ≤ 99))))))] [] trivial ?_
   refine gB (!(((decide (r = (partsS r))) && (decide (1 ≤ r.err))) && (decide (r.err ≤ 99)))) (fun hc3 => ?_) fun hc3 => ?_
   ·
    try simp only [xT, xF, xA, xB, xN, xM] at hc3
    refine gS [] [] 73 [(2, vc (i6 2))] [] trivial ?_
    exact gT (vc (i6 2)) (by rw [show checkR r = 2 from check_2 hc1 (by unfold FitR; grind)])
   ·
    try simp only [xT, xF, xA, xB, xN, xM] at hc3
    refine AMx.skip ?_
    refine gS [] [] 73 [(2, vc (i6 0))] [] trivial ?_
    exact gT (vc (i6 0)) (by rw [show checkR r = 0 from check_0 hc1 (by grind) (by unfold FitR; grind)])
  ·
   refine gQ ?_
   refine gS [] [] 73 [(1, vp 1 0), (3, vc (bo (decide (r = (partsS r))))), (12, vc (u8 r.kind)), (26, vc (bo (decide (r.kind = 2))))] [(1, AObj.row [.s (u8 r.kind), .s (i6 r.err), .s (i6 r.n), .s (st r.data), .s (AL.Fnv.slS r.names), .s (i6 r.sec.1), .s (bo r.sec.2.1), .s (i6 r.sec.2.2.1), .s (Secret.slR r.sec.2.2.2), .s (bo r.flag)])] trivial ?_
   refine gC (r.kind = 2) (fun hc4 => ?_) fun hc4 => ?_
   ·
    refine AMx.skip ?_
    refine gC (r.kind = 2) (fun hc5 => ?_) fun hc5 => ?_
    ·
     refine gR [] [((decide (r = (partsS r))) = true) → allP [], ((decide (r = (partsS r))) = true) → allP [(decide (r = (partsS r))) = true], ((decide (r = (partsS r))) = true) → allP [(decide (r = (partsS r))) = true], (decide (r = (partsS r))) = true → allP [(decide (r = (partsS r))) = true], (((decide (r = (partsS r))) && (decide (0 ≤ r.n))) = true) → allP [], (((decide (r = (partsS r))) && (decide (0 ≤ r.n))) = true) → allP [((decide (r = (partsS r))) && (decide (0 ≤ r.n))) = true], (((decide (r = (partsS r))) && (decide (0 ≤ r.n))) = true) → allP [((decide (r = (partsS r))) && (decide (0 ≤ r.n))) = true], ((decide (r = (partsS r))) && (decide (0 ≤ r.n))) = true → allP [((decide (r = (partsS r))) && (decide (0 ≤ r.n))) = true], ((((decide (r = (partsS r))) && (decide (0 ≤ r.n))) && (decide (r.n ≤ 999))) = true) → allP [], ((((decide (r = (partsS r))) && (decide (0 ≤ r.n))) && (decide (r.n ≤ 999))) = true) → allP [(((decide (r = (partsS r))) && (decide (0 ≤ r.n))) && (decide (r.n ≤ 999))) = true], ((((decide (r = (partsS r))) && (decide (0 ≤ r.n))) && (decide (r.n ≤ 999))) = true) → allP [(((decide (r = (partsS r))) && (decide (0 ≤ r.n))) && (decide (r.n ≤ 999))) = true], ((((decide (r = (partsS r))) && (decide (0 ≤ r.n))) && (decide (r.n ≤ 999))) = true) → allP [(((decide (r = (partsS r))) && (decide (0 ≤ r.n))) && (decide (r.n ≤ 999))) = true], (((decide (r = (partsS r))) && (decide (0 ≤ r.n))) && (decide (r.n ≤ 999))) = true → allP [(((decide (r = (partsS r))) && (decide (0 ≤ r.n))) && (decide (r.n ≤ 999))) = true]] 73 [(3, vc (bo ((((decide (r = (partsS r))) && (decide (0 ≤ r.n))) && (decide (r.n ≤ 999))) && (decide ((List.length r.data : Int) ≤ 400)))))] [] ⟨(fun _ => trivial), (fun hp => hp), (fun hp => hp), (fun hp2 => (by first | exact hp2 | exact ⟨hp, hp2⟩)), (fun _ => trivial), (fun hp => hp), (fun hp => hp), (fun hp2 => (by first | exact hp2 | exact ⟨hp, hp2⟩)), (fun _ => trivial), (fun hp => hp), (fun hp => hp), (fun hp => hp), (fun hp2 => (by first | exact hp2 | exact ⟨hp, hp2⟩))⟩ ?_
     refine AMx.blk ?_
     refine gQ ?_
     refine gS [] [] 73 [(72, vc (bo (!((((decide (r = (partsS r))) && (decide (0 ≤ r.n))) && (decide (r.n ≤ 999))) && (decide ((List.length r.data : Int) ≤ 400))))))] [] trivial ?_
     refine gB (!((((decide (r = (partsS r))) && (decide (0 ≤ r.n))) && (decide (r.n ≤ 999))) && (decide ((List.length r.data : Int) ≤ 400)))) (fun hc6 => ?_) fun hc6 => ?_
     ·
      try simp only [xT, xF, xA, xB, xN, xM] at hc6
      refine gS [] [] 73 [(2, vc (i6 2))] [] trivial ?_
      exact gT (vc (i6 2)) (by rw [show checkR r = 2 from check_2 hc1 (by unfold FitR; grind)])
     ·
      try simp only [xT, xF, xA, xB, xN, xM] at hc6
      refine AMx.skip ?_
      refine gS [] [] 73 [(2, vc (i6 0))] [] trivial ?_
      exact gT (vc (i6 0)) (by rw [show checkR r = 0 from check_0 hc1 (by grind) (by unfold FitR; grind)])
    ·
     refine gS [] [] 73 [(1, vp 1 0), (3, vc (bo (decide (r = (partsS r))))), (12, vc (u8 r.kind)), (46, vc (bo (decide (r.kind = 4))))] [(1, AObj.row [.s (u8 r.kind), .s (i6 r.err), .s (i6 r.n), .s (st r.data), .s (AL.Fnv.slS r.names), .s (i6 r.sec.1), .s (bo r.sec.2.1), .s (i6 r.sec.2.2.1), .s (Secret.slR r.sec.2.2.2), .s (bo r.flag)])] trivial ?_
     refine gC (r.kind = 4) (fun hc7 => ?_) fun hc7 => ?_
     ·
      refine gR [(5, CE.call [] [] (vc (i6 (Secret.checkS r.sec ((6, false) : Secret.Rul)))) [])] [((decide (r = (partsS r))) = true) → allP [], ((decide (r = (partsS r))) = true) → allP [(decide (r = (partsS r))) = true], ((decide (r = (partsS r))) = true) → allP [], ((decide (r = (partsS r))) = true) → allP [(decide (r = (partsS r))) = true, (decide (r = (partsS r))) = true, Spec Tryd.prog 29 [TV.agg [.s (i6 r.sec.1), .s (bo r.sec.2.1), .s (i6 r.sec.2.2.1), .s (Secret.slR r.sec.2.2.2)], TV.agg [.s (i6 6), .s (bo false)]] (ofH []) (vc (i6 (Secret.checkS r.sec ((6, false) : Secret.Rul)))) (ofH [])], ((decide (r = (partsS r))) = true) → allP [(decide (r = (partsS r))) = true], (decide (r = (partsS r))) = true → allP [(decide (r = (partsS r))) = true]] 73 [(3, vc (bo ((decide (r = (partsS r))) && (decide (Secret.checkS r.sec ((6, false) : Secret.Rul) = 0)))))] [] ⟨(fun _ => trivial), (fun hp => hp), (fun _ => trivial), (fun hp => by have hq := hp; (try simp only [decide_eq_true_eq, decide_eq_false_iff_not, Bool.and_eq_true, Bool.or_eq_true, Bool.and_eq_false_iff, Bool.or_eq_false_iff, Bool.not_eq_true', Bool.not_eq_false', Bool.not_eq_true, Bool.not_eq_false] at hq); exact ⟨hp, hp, (Secret.Check_c r.sec ((6, false) : Secret.Rul))⟩), (fun hp => hp), (fun hp2 => (by first | exact hp2 | exact ⟨hp, hp2⟩))⟩ ?_
      refine AMx.blk ?_
      refine gQ ?_
      refine gS [] [] 73 [(72, vc (bo (!((decide (r = (partsS r))) && (decide (Secret.checkS r.sec ((6, false) : Secret.Rul) = 0))))))] [] trivial ?_
      refine gB (!((decide (r = (partsS r))) && (decide (Secret.checkS r.sec ((6, false) : Secret.Rul) = 0)))) (fun hc8 => ?_) fun hc8 => ?_
      ·
       try simp only [xT, xF, xA, xB, xN, xM] at hc8
       refine gS [] [] 73 [(2, vc (i6 2))] [] trivial ?_
       exact gT (vc (i6 2)) (by rw [show checkR r = 2 from check_2 hc1 (by unfold FitR; grind)])
      ·
       try simp only [xT, xF, xA, xB, xN, xM] at hc8
       refine AMx.skip ?_
       refine gS [] [] 73 [(2, vc (i6 0))] [] trivial ?_
       exact gT (vc (i6 0)) (by rw [show checkR r = 0 from check_0 hc1 (by grind) (by unfold FitR; grind)])
     ·
      refine gS [] [] 73 [(1, vp 1 0), (3, vc (bo (decide (r = (partsS r))))), (56, vc (bo (decide (r.kind = 5))))] [(1, AObj.row [.s (u8 r.kind), .s (i6 r.err), .s (i6 r.n), .s (st r.data), .s (AL.Fnv.slS r.names), .s (i6 r.sec.1), .s (bo r.sec.2.1), .s (i6 r.sec.2.2.1), .s (Secret.slR r.sec.2.2.2), .s (bo r.flag)])] trivial ?_
      refine gC (r.kind = 5) (fun hc9 => ?_) fun hc9 => ?_
      ·
       refine gR [(10, CE.call [] [] (vc (bo (decide (0 ≤ Lib.idxS (fun x : Bytes => !(nameS x)) r.names)))) [])] [((decide (r = (partsS r))) = true) → allP [], ((decide (r = (partsS r))) = true) → allP [(decide (r = (partsS r))) = true], ((decide (r = (partsS r))) = true) → allP [(decide (r = (partsS r))) = true], ((decide (r = (partsS r))) = true) → allP [(decide (r = (partsS r))) = true], (decide (r = (partsS r))) = true → allP [(decide (r = (partsS r))) = true], (((decide (r = (partsS r))) && (decide ((List.length r.names : Int) ≤ 64))) = true) → allP [], (((decide (r = (partsS r))) && (decide ((List.length r.names : Int) ≤ 64))) = true) → allP [((decide (r = (partsS r))) && (decide ((List.length r.names : Int) ≤ 64))) = true], (((decide (r = (partsS r))) && (decide ((List.length r.names : Int) ≤ 64))) = true) → allP [((decide (r = (partsS r))) && (decide ((List.length r.names : Int) ≤ 64))) = true, Spec Tryd.prog 30 [tc (AL.Fnv.slS r.names), TV.c (.fn 31 [])] (ofH []) (vc (bo (decide (0 ≤ Lib.idxS (fun x : Bytes => !(nameS x)) r.names)))) (ofH [])], (((decide (r = (partsS r))) && (decide ((List.length r.names : Int) ≤ 64))) = true) → allP [((decide (r = (partsS r))) && (decide ((List.length r.names : Int) ≤ 64))) = true], ((decide (r = (partsS r))) && (decide ((List.length r.names : Int) ≤ 64))) = true → allP [((decide (r = (partsS r))) && (decide ((List.length r.names : Int) ≤ 64))) = true]] 73 [(3, vc (bo (((decide (r = (partsS r))) && (decide ((List.length r.names : Int) ≤ 64))) && (!(decide (0 ≤ Lib.idxS (fun x : Bytes => !(nameS x)) r.names))))))] [] ⟨(fun _ => trivial), (fun hp => hp), (fun hp => hp), (fun hp => hp), (fun hp2 => (by first | exact hp2 | exact ⟨hp, hp2⟩)), (fun _ => trivial), (fun hp => hp), (fun hp => by have hq := hp; (try simp only [decide_eq_true_eq, decide_eq_false_iff_not, Bool.and_eq_true, Bool.or_eq_true, Bool.and_eq_false_iff, Bool.or_eq_false_iff, Bool.not_eq_true', Bool.not_eq_false', Bool.not_eq_true, Bool.not_eq_false] at hq); exact ⟨hp, (ContainsT_c 31 [] (fun x : Bytes => !(nameS x)) (fun x => nameC_c x) r.names)⟩), (fun hp => hp), (fun hp2 => (by first | exact hp2 | exact ⟨hp, hp2⟩))⟩ ?_
       refine AMx.blk ?_
       refine gQ ?_
       refine gS [] [] 73 [(72, vc (bo (!(((decide (r = (partsS r))) && (decide ((List.length r.names : Int) ≤ 64))) && (!(decide (0 ≤ Lib.idxS (fun x : Bytes => !(nameS x)) r.names)))))))] [] trivial ?_
       refine gB (!(((decide (r = (partsS r))) && (decide ((List.length r.names : Int) ≤ 64))) && (!(decide (0 ≤ Lib.idxS (fun x : Bytes => !(nameS x)) r.names))))) (fun hc10 => ?_) fun hc10 => ?_
       ·
        try simp only [xT, xF, xA, xB, xN, xM] at hc10
        refine gS [] [] 73 [(2, vc (i6 2))] [] trivial ?_
        exact gT (vc (i6 2)) (by rw [show checkR r = 2 from check_2 hc1 (by unfold FitR; grind)])
       ·
        try simp only [xT, xF, xA, xB, xN, xM] at hc10
        refine AMx.skip ?_
        refine gS [] [] 73 [(2, vc (i6 0))] [] trivial ?_
        exact gT (vc (i6 0)) (by rw [show checkR r = 0 from check_0 hc1 (by grind) (by unfold FitR; grind)])
      ·
       refine AMx.skip ?_
       refine AMx.blk ?_
       refine gQ ?_
       refine gS [] [] 73 [(72, vc (bo (!(decide (r = (partsS r))))))] [] trivial ?_
       refine gB (!(decide (r = (partsS r)))) (fun hc11 => ?_) fun hc11 => ?_
       ·
        try simp only [xT, xF, xN, xM] at hc11
        refine gS [] [] 73 [(2, vc (i6 2))] [] trivial ?_
        exact gT (vc (i6 2)) (by rw [show checkR r = 2 from check_2 hc1 (by unfold FitR; grind)])
       ·
        try simp only [xT, xF, xN, xM] at hc11
        refine AMx.skip ?_
        refine gS [] [] 73 [(2, vc (i6 0))] [] trivial ?_
        exact gT (vc (i6 0)) (by rw [show checkR r = 0 from check_0 hc1 (by grind) (by unfold FitR; grind)])
   ·
    refine gR [] [] 73 [(1, vp 1 0), (3, vc (bo (decide (r = (partsS r))))), (12, vc (u8 r.kind)), (26, vc (bo (decide (r.kind = 3))))] [(1, AObj.row [.s (u8 r.kind), .s (i6 r.err), .s (i6 r.n), .s (st r.data), .s (AL.Fnv.slS r.names), .s (i6 r.sec.1), .s (bo r.sec.2.1), .s (i6 r.sec.2.2.1), .s (Secret.slR r.sec.2.2.2), .s (bo r.flag)])] trivial ?_
    refine gC (r.kind = 3) (fun hc12 => ?_) fun hc12 => ?_
    ·
     refine gR [] [((decide (r = (partsS r))) = true) → allP [], ((decide (r = (partsS r))) = true) → allP [(decide (r = (partsS r))) = true], ((decide (r = (partsS r))) = true) → allP [(decide (r = (partsS r))) = true], (decide (r = (partsS r))) = true → allP [(decide (r = (partsS r))) = true], (((decide (r = (partsS r))) && (decide (0 ≤ r.n))) = true) → allP [], (((decide (r = (partsS r))) && (decide (0 ≤ r.n))) = true) → allP [((decide (r = (partsS r))) && (decide (0 ≤ r.n))) = true], (((decide (r = (partsS r))) && (decide (0 ≤ r.n))) = true) → allP [((decide (r = (partsS r))) && (decide (0 ≤ r.n))) = true], ((decide (r = (partsS r))) && (decide (0 ≤ r.n))) = true → allP [((decide (r = (partsS r))) && (decide (0 ≤ r.n))) = true], ((((decide (r = (partsS r))) && (decide (0 ≤ r.n))) && (decide (r.n ≤ 999))) = true) → allP [], ((((decide (r = (partsS r))) && (decide (0 ≤ r.n))) && (decide (r.n ≤ 999))) = true) → allP [(((decide (r = (partsS r))) && (decide (0 ≤ r.n))) && (decide (r.n ≤ 999))) = true], ((((decide (r = (partsS r))) && (decide (0 ≤ r.n))) && (decide (r.n ≤ 999))) = true) → allP [(((decide (r = (partsS r))) && (decide (0 ≤ r.n))) && (decide (r.n ≤ 999))) = true], ((((decide (r = (partsS r))) && (decide (0 ≤ r.n))) && (decide (r.n ≤ 999))) = true) → allP [(((decide (r = (partsS r))) && (decide (0 ≤ r.n))) && (decide (r.n ≤ 999))) = true], (((decide (r = (partsS r))) && (decide (0 ≤ r.n))) && (decide (r.n ≤ 999))) = true → allP [(((decide (r = (partsS r))) && (decide (0 ≤ r.n))) && (decide (r.n ≤ 999))) = true]] 73 [(3, vc (bo ((((decide (r = (partsS r))) && (decide (0 ≤ r.n))) && (decide (r.n ≤ 999))) && (decide ((List.length r.data : Int) ≤ 400)))))] [] ⟨(fun _ => trivial), (fun hp => hp), (fun hp => hp), (fun hp2 => (by first | exact hp2 | exact ⟨hp, hp2⟩)), (fun _ => trivial), (fun hp => hp), (fun hp => hp), (fun hp2 => (by first | exact hp2 | exact ⟨hp, hp2⟩)), (fun _ => trivial), (fun hp => hp), (fun hp => hp), (fun hp => hp), (fun hp2 => (by first | exact hp2 | exact ⟨hp, hp2⟩))⟩ ?_
     refine AMx.blk ?_
     refine gQ ?_
     refine gS [] [] 73 [(72, vc (bo (!((((decide (r = (partsS r))) && (decide (0 ≤ r.n))) && (decide (r.n ≤ 999))) && (decide ((List.length r.data : Int) ≤ 400))))))] [] trivial ?_
     refine gB (!((((decide (r = (partsS r))) && (decide (0 ≤ r.n))) && (decide (r.n ≤ 999))) && (decide ((List.length r.data : Int) ≤ 400)))) (fun hc13 => ?_) fun hc13 => ?_
     ·
      try simp only [xT, xF, xA, xB, xN, xM] at hc13
      refine gS [] [] 73 [(2, vc (i6 2))] [] trivial ?_
      exact gT (vc (i6 2)) (by rw [show checkR r = 2 from check_2 hc1 (by unfold FitR; grind)])
     ·
      try simp only [xT, xF, xA, xB, xN, xM] at hc13
      refine AMx.skip ?_
      refine gS [] [] 73 [(2, vc (i6 0))] [] trivial ?_
      exact gT (vc (i6 0)) (by rw [show checkR r = 0 from check_0 hc1 (by grind) (by unfold FitR; grind)])
    ·
     refine gS [] [] 73 [(1, vp 1 0), (3, vc (bo (decide (r = (partsS r))))), (12, vc (u8 r.kind)), (46, vc (bo (decide (r.kind = 4))))] [(1, AObj.row [.s (u8 r.kind), .s (i6 r.err), .s (i6 r.n), .s (st r.data), .s (AL.Fnv.slS r.names), .s (i6 r.sec.1), .s (bo r.sec.2.1), .s (i6 r.sec.2.2.1), .s (Secret.slR r.sec.2.2.2), .s (bo r.flag)])] trivial ?_
     refine gC (r.kind = 4) (fun hc14 => ?_) fun hc14 => ?_
     ·
      refine gR [(5, CE.call [] [] (vc (i6 (Secret.checkS r.sec ((6, false) : Secret.Rul)))) [])] [((decide (r = (partsS r))) = true) → allP [], ((decide (r = (partsS r))) = true) → allP [(decide (r = (partsS r))) = true], ((decide (r = (partsS r))) = true) → allP [], ((decide (r = (partsS r))) = true) → allP [(decide (r = (partsS r))) = true, (decide (r = (partsS r))) = true, Spec Tryd.prog 29 [TV.agg [.s (i6 r.sec.1), .s (bo r.sec.2.1), .s (i6 r.sec.2.2.1), .s (Secret.slR r.sec.2.2.2)], TV.agg [.s (i6 6), .s (bo false)]] (ofH []) (vc (i6 (Secret.checkS r.sec ((6, false) : Secret.Rul)))) (ofH [])], ((decide (r = (partsS r))) = true) → allP [(decide (r = (partsS r))) = true], (decide (r = (partsS r))) = true → allP [(decide (r = (partsS r))) = true]] 73 [(3, vc (bo ((decide (r = (partsS r))) && (decide (Secret.checkS r.sec ((6, false) : Secret.Rul) = 0)))))] [] ⟨(fun _ => trivial), (fun hp => hp), (fun _ => trivial), (fun hp => by have hq := hp; (try simp only [decide_eq_true_eq, decide_eq_false_iff_not, Bool.and_eq_true, Bool.or_eq_true, Bool.and_eq_false_iff, Bool.or_eq_false_iff, Bool.not_eq_true', Bool.not_eq_false', Bool.not_eq_true, Bool.not_eq_false] at hq); exact ⟨hp, hp, (Secret.Check_c r.sec ((6, false) : Secret.Rul))⟩), (fun hp => hp), (fun hp2 => (by first | exact hp2 | exact ⟨hp, hp2⟩))⟩ ?_
      refine AMx.blk ?_
      refine gQ ?_
      refine gS [] [] 73 [(72, vc (bo (!((decide (r = (partsS r))) && (decide (Secret.checkS r.sec ((6, false) : Secret.Rul) = 0))))))] [] trivial ?_
      refine gB (!((decide (r = (partsS r))) && (decide (Secret.checkS r.sec ((6, false) : Secret.Rul) = 0)))) (fun hc15 => ?_) fun hc15 => ?_
      ·
       try simp only [xT, xF, xA, xB, xN, xM] at hc15
       refine gS [] [] 73 [(2, vc (i6 2))] [] trivial ?_
       exact gT (vc (i6 2)) (by rw [show checkR r = 2 from check_2 hc1 (by unfold FitR; grind)])
      ·
       try simp only [xT, xF, xA, xB, xN, xM] at hc15
       refine AMx.skip ?_
       refine gS [] [] 73 [(2, vc (i6 0))] [] trivial ?_
       exact gT (vc (i6 0)) (by rw [show checkR r = 0 from check_0 hc1 (by grind) (by unfold FitR; grind)])
     ·
      refine gS [] [] 73 [(1, vp 1 0), (3, vc (bo (decide (r = (partsS r))))), (56, vc (bo (decide (r.kind = 5))))] [(1, AObj.row [.s (u8 r.kind), .s (i6 r.err), .s (i6 r.n), .s (st r.data), .s (AL.Fnv.slS r.names), .s (i6 r.sec.1), .s (bo r.sec.2.1), .s (i6 r.sec.2.2.1), .s (Secret.slR r.sec.2.2.2), .s (bo r.flag)])] trivial ?_
      refine gC (r.kind = 5) (fun hc16 => ?_) fun hc16 => ?_
      ·
       refine gR [(10, CE.call [] [] (vc (bo (decide (0 ≤ Lib.idxS (fun x : Bytes => !(nameS x)) r.names)))) [])] [((decide (r = (partsS r))) = true) → allP [], ((decide (r = (partsS r))) = true) → allP [(decide (r = (partsS r))) = true], ((decide (r = (partsS r))) = true) → allP [(decide (r = (partsS r))) = true], ((decide (r = (partsS r))) = true) → allP [(decide (r = (partsS r))) = true], (decide (r = (partsS r))) = true → allP [(decide (r = (partsS r))) = true], (((decide (r = (partsS r))) && (decide ((List.length r.names : Int) ≤ 64))) = true) → allP [], (((decide (r = (partsS r))) && (decide ((List.length r.names : Int) ≤ 64))) = true) → allP [((decide (r = (partsS r))) && (decide ((List.length r.names : Int) ≤ 64))) = true], (((decide (r = (partsS r))) && (decide ((List.length r.names : Int) ≤ 64))) = true) → allP [((decide (r = (partsS r))) && (decide ((List.length r.names : Int) ≤ 64))) = true, Spec Tryd.prog 30 [tc (AL.Fnv.slS r.names), TV.c (.fn 31 [])] (ofH []) (vc (bo (decide (0 ≤ Lib.idxS (fun x : Bytes => !(nameS x)) r.names)))) (ofH [])], (((decide (r = (partsS r))) && (decide ((List.length r.names : Int) ≤ 64))) = true) → allP [((decide (r = (partsS r))) && (decide ((List.length r.names : Int) ≤ 64))) = true], ((decide (r = (partsS r))) && (decide ((List.length r.names : Int) ≤ 64))) = true → allP [((decide (r = (partsS r))) && (decide ((List.length r.names : Int) ≤ 64))) = true]] 73 [(3, vc (bo (((decide (r = (partsS r))) && (decide ((List.length r.names : Int) ≤ 64))) && (!(decide (0 ≤ Lib.idxS (fun x : Bytes => !(nameS x)) r.names))))))] [] ⟨(fun _ => trivial), (fun hp => hp), (fun hp => hp), (fun hp => hp), (fun hp2 => (by first | exact hp2 | exact ⟨hp, hp2⟩)), (fun _ => trivial), (fun hp => hp), (fun hp => by have hq := hp; (try simp only [decide_eq_true_eq, decide_eq_false_iff_not, Bool.and_eq_true, Bool.or_eq_true, Bool.and_eq_false_iff, Bool.or_eq_false_iff, Bool.not_eq_true', Bool.not_eq_false', Bool.not_eq_true, Bool.not_eq_false] at hq); exact ⟨hp, (ContainsT_c 31 [] (fun x : Bytes => !(nameS x)) (fun x => nameC_c x) r.names)⟩), (fun hp => hp), (fun hp2 => (by first | exact hp2 | exact ⟨hp, hp2⟩))⟩ ?_
       refine AMx.blk ?_
       refine gQ ?_
       refine gS [] [] 73 [(72, vc (bo (!(((decide (r = (partsS r))) && (decide ((List.length r.names : Int) ≤ 64))) && (!(decide (0 ≤ Lib.idxS (fun x : Bytes => !(nameS x)) r.names)))))))] [] trivial ?_
       refine gB (!(((decide (r = (partsS r))) && (decide ((List.length r.names : Int) ≤ 64))) && (!(decide (0 ≤ Lib.idxS (fun x : Bytes => !(nameS x)) r.names))))) (fun hc17 => ?_) fun hc17 => ?_
       ·
        try simp only [xT, xF, xA, xB, xN, xM] at hc17
        refine gS [] [] 73 [(2, vc (i6 2))] [] trivial ?_
        exact gT (vc (i6 2)) (by rw [show checkR r = 2 from check_2 hc1 (by unfold FitR; grind)])
       ·
        try simp only [xT, xF, xA, xB, xN, xM] at hc17
        refine AMx.skip ?_
        refine gS [] [] 73 [(2, vc (i6 0))] [] trivial ?_
        exact gT (vc (i6 0)) (by rw [show checkR r = 0 from check_0 hc1 (by grind) (by unfold FitR; grind)])
      ·
       refine AMx.skip ?_
       refine AMx.blk ?_
       refine gQ ?_
       refine gS [] [] 73 [(72, vc (bo (!(decide (r = (partsS r))))))] [] trivial ?_
       refine gB (!(decide (r = (partsS r)))) (fun hc18 => ?_) fun hc18 => ?_
       ·
        try simp only [xT, xF, xN, xM] at hc18
        refine gS [] [] 73 [(2, vc (i6 2))] [] trivial ?_
        exact gT (vc (i6 2)) (by rw [show checkR r = 2 from check_2 hc1 (by unfold FitR; grind)])
       ·
        try simp only [xT, xF, xN, xM] at hc18
        refine AMx.skip ?_
        refine gS [] [] 73 [(2, vc (i6 0))] [] trivial ?_
        exact gT (vc (i6 0)) (by rw [show checkR r = 0 from check_0 hc1 (by grind) (by unfold FitR; grind)])
end AL.Reply
namespace AL.Reply
open Go Go.Proofs AL
set_option linter.unusedVariables false
set_option linter.unusedSimpArgs false
open AL.Ask (scanN valS sizeB digB numS hexS unhexS)
theorem f17_body : Tryd.f17.body = some (.seq (.region 0 (rg Tryd.f17 0) false) (.seq (.region 1 (rg Tryd.f17 1) false) (.seq (.region 2 (rg Tryd.f17 2) false) (.seq (.seq (.region 3 (rg Tryd.f17 3) false) (.cond (.tmp 11) (.seq (.region 4 (rg Tryd.f17 4) false) (.region 5 (rg Tryd.f17 5) false)) (.seq (.region 6 (rg Tryd.f17 6) false) (.region 7 (rg Tryd.f17 7) false)))) (.seq (.region 8 (rg Tryd.f17 8) false) (.seq (.region 9 (rg Tryd.f17 9) false) (.ret))))))) := by kernel_rfl
set_option maxRecDepth 100000 in
set_option maxHeartbeats 8000000 in
theorem parse_rest (s : Bytes) (hs : s.length ≤ 100000) : AMx Tryd.prog (RetB 34 (parseOk s) [.s (u8 ((valP s).kind)), .s (i6 ((valP s).err)), .s (i6 ((valP s).n)), .s (st ((valP s).data)), .s (AL.Fnv.slS ((valP s).names)), .s (i6 (((valP s).sec).1)), .s (bo (((valP s).sec).2.1)), .s (i6 (((valP s).sec).2.2.1)), .s (Secret.slR (((valP s).sec).2.2.2)), .s (bo ((valP s).flag))] [.s (i6 0)]) [.code (.seq (.region 2 (rg Tryd.f17 2) false) (.seq (.seq (.region 3 (rg Tryd.f17 3) false) (.cond (.tmp 11) (.seq (.region 4 (rg Tryd.f17 4) false) (.region 5 (rg Tryd.f17 5) false)) (.seq (.region 6 (rg Tryd.f17 6) false) (.region 7 (rg Tryd.f17 7) false)))) (.seq (.region 8 (rg Tryd.f17 8) false) (.seq (.region 9 (rg Tryd.f17 9) false) (.ret)))))] .normal (AS.lst 34 [(0, vc (st s)), (2, vp 34 0), (3, vp 35 0)] [(34, AObj.row [.s (u8 0), .s (i6 0), .s (i6 0), .s (st []), .s (SC.nilsl), .s (i6 0), .s (bo false), .s (i6 0), .s (SC.nilsl), .s (bo false)]), (35, AObj.row [.s (i6 0)])]) := by
 have hsp := split_pos s
 have hsl := Policy.split_le 32 s
 refine gS [(1, CE.call [] [] (vc (AL.Fnv.slS (AL.Sep.splitC 32 s))) [])] [Spec Tryd.prog 41 [tc (st s), tc (st [32])] (ofH []) (vc (AL.Fnv.slS (AL.Sep.splitC 32 s))) (ofH [])] 34 [(2, vp 34 0), (3, vp 35 0), (4, vc (AL.Fnv.slS (AL.Sep.splitC 32 s)))] [(34, AObj.row [.s (u8 0), .s (i6 0), .s (i6 0), .s (st []), .s (SC.nilsl), .s (i6 0), .s (bo false), .s (i6 0), .s (SC.nilsl), .s (bo false)]), (35, AObj.row [.s (i6 0)])] (AL.Sep.Split_c 32 s (by omega)) ?_
 refine gQ ?_
 refine gS [] [(0 : Int) ≤ 0, (0 : Int) < List.length (AL.Sep.splitC 32 s : List Bytes)] 34 [(2, vp 34 0), (3, vp 35 0), (4, vc (AL.Fnv.slS (AL.Sep.splitC 32 s))), (11, vc (bo (decide ((List.getD (AL.Sep.splitC 32 s) 0 []) = [101, 114, 114, 111, 114]))))] [(34, AObj.row [.s (u8 0), .s (i6 0), .s (i6 0), .s (st []), .s (SC.nilsl), .s (i6 0), .s (bo false), .s (i6 0), .s (SC.nilsl), .s (bo false)]), (35, AObj.row [.s (i6 0)])] ⟨(show (0 : Int) ≤ 0 from (by omega)), (show (0 : Int) < List.length (AL.Sep.splitC 32 s : List Bytes) from (by omega))⟩ ?_
 refine gC ((List.getD (AL.Sep.splitC 32 s) 0 []) = [101, 114, 114, 111, 114]) (fun hc1 => ?_) fun hc1 => ?_
 ·
  refine gSc [(3, CE.call [] [] (AV.tup []) [])] [(3, (decide ((List.length (AL.Sep.splitC 32 s : List Bytes) : Int) = 2)) = true)] [PureX Tryd.prog 42 [tc (bo (decide ((List.length (AL.Sep.splitC 32 s : List Bytes) : Int) = 2)))] (AV.tup []) ((decide ((List.length (AL.Sep.splitC 32 s : List Bytes) : Int) = 2)) = true)] 34 [(2, vp 34 0), (3, vp 35 0), (4, vc (AL.Fnv.slS (AL.Sep.splitC 32 s)))] [(34, AObj.row [.s (u8 0), .s (i6 0), .s (i6 0), .s (st []), .s (SC.nilsl), .s (i6 0), .s (bo false), .s (i6 0), .s (SC.nilsl), .s (bo false)]), (35, AObj.row [.s (i6 0)])] (must_c (decide ((List.length (AL.Sep.splitC 32 s : List Bytes) : Int) = 2))) (fun hok => (show ((decide ((List.length (AL.Sep.splitC 32 s : List Bytes) : Int) = 2)) = true) by rw [parseOk, if_pos hc1] at hok; exact decide_eq_true hok.1.1)) (fun hx1 => ?_)
  replace hx1 : ((decide ((List.length (AL.Sep.splitC 32 s : List Bytes) : Int) = 2)) = true) := hx1
  try simp only [decide_eq_true_eq] at hx1
  refine gRc [(3, CE.call [] [] (vc (i6 (scanN (List.getD (AL.Sep.splitC 32 s) 1 [])))) [])] [(3, 0 ≤ scanN (List.getD (AL.Sep.splitC 32 s) 1 []))] [(0 : Int) ≤ 1, (1 : Int) < List.length (AL.Sep.splitC 32 s : List Bytes), PureX Tryd.prog 43 [tc (st (List.getD (AL.Sep.splitC 32 s) 1 []))] (vc (i6 (scanN (List.getD (AL.Sep.splitC 32 s) 1 [])))) (0 ≤ scanN (List.getD (AL.Sep.splitC 32 s) 1 []))] 34 [(2, vp 34 0), (3, vp 35 0)] [(34, AObj.row [.s (u8 0), .s (i6 (scanN (List.getD (AL.Sep.splitC 32 s) 1 []))), .s (i6 0), .s (st []), .s (SC.nilsl), .s (i6 0), .s (bo false), .s (i6 0), .s (SC.nilsl), .s (bo false)]), (35, AObj.row [.s (i6 0)])] ⟨(show (0 : Int) ≤ 1 from (by omega)), (show (1 : Int) < List.length (AL.Sep.splitC 32 s : List Bytes) from (by omega)), (num_c (List.getD (AL.Sep.splitC 32 s) 1 []))⟩ (fun hok => (show (0 ≤ scanN (List.getD (AL.Sep.splitC 32 s) 1 [])) by rw [parseOk, if_pos hc1] at hok; exact hok.1.2)) (fun hx2 => ?_)
  replace hx2 : (0 ≤ scanN (List.getD (AL.Sep.splitC 32 s) 1 [])) := hx2
  try simp only [decide_eq_true_eq] at hx2
  refine gSc [(1, CE.call [] [] (vc (i6 (checkR (⟨0, scanN (List.getD (AL.Sep.splitC 32 s) 1 []), 0, [], [], ((0, false, 0, []) : Secret.Sec), false⟩ : RepV)))) []), (3, CE.call [] [] (AV.tup []) [])] [(3, (decide (checkR (⟨0, scanN (List.getD (AL.Sep.splitC 32 s) 1 []), 0, [], [], ((0, false, 0, []) : Secret.Sec), false⟩ : RepV) = 0)) = true)] [Spec Tryd.prog 11 [TV.agg [.s (u8 0), .s (i6 (scanN (List.getD (AL.Sep.splitC 32 s) 1 []))), .s (i6 0), .s (st []), .s (SC.nilsl), .s (i6 0), .s (bo false), .s (i6 0), .s (SC.nilsl), .s (bo false)]] (ofH []) (vc (i6 (checkR (⟨0, scanN (List.getD (AL.Sep.splitC 32 s) 1 []), 0, [], [], ((0, false, 0, []) : Secret.Sec), false⟩ : RepV)))) (ofH []), PureX Tryd.prog 42 [tc (bo (decide (checkR (⟨0, scanN (List.getD (AL.Sep.splitC 32 s) 1 []), 0, [], [], ((0, false, 0, []) : Secret.Sec), false⟩ : RepV) = 0)))] (AV.tup []) ((decide (checkR (⟨0, scanN (List.getD (AL.Sep.splitC 32 s) 1 []), 0, [], [], ((0, false, 0, []) : Secret.Sec), false⟩ : RepV) = 0)) = true)] 34 [(2, vp 34 0), (3, vp 35 0)] [(34, AObj.row [.s (u8 0), .s (i6 (scanN (List.getD (AL.Sep.splitC 32 s) 1 []))), .s (i6 0), .s (st []), .s (SC.nilsl), .s (i6 0), .s (bo false), .s (i6 0), .s (SC.nilsl), .s (bo false)]), (35, AObj.row [.s (i6 0)])] ⟨(Spec.weak (args' := [TV.agg [.s (u8 0), .s (i6 (scanN (List.getD (AL.Sep.splitC 32 s) 1 []))), .s (i6 0), .s (st []), .s (AL.Fnv.slS []), .s (i6 0), .s (bo false), .s (i6 0), .s (Secret.slR []), .s (bo false)]]) ⟨(TV.le_agg (l := [.s (u8 0), .s (i6 (scanN (List.getD (AL.Sep.splitC 32 s) 1 []))), .s (i6 0), .s (st []), .s (SC.nilsl), .s (i6 0), .s (bo false), .s (i6 0), .s (SC.nilsl), .s (bo false)]) (m := [.s (u8 ((⟨0, scanN (List.getD (AL.Sep.splitC 32 s) 1 []), 0, [], [], ((0, false, 0, []) : Secret.Sec), false⟩ : RepV).kind)), .s (i6 ((⟨0, scanN (List.getD (AL.Sep.splitC 32 s) 1 []), 0, [], [], ((0, false, 0, []) : Secret.Sec), false⟩ : RepV).err)), .s (i6 ((⟨0, scanN (List.getD (AL.Sep.splitC 32 s) 1 []), 0, [], [], ((0, false, 0, []) : Secret.Sec), false⟩ : RepV).n)), .s (st ((⟨0, scanN (List.getD (AL.Sep.splitC 32 s) 1 []), 0, [], [], ((0, false, 0, []) : Secret.Sec), false⟩ : RepV).data)), .s (AL.Fnv.slS ((⟨0, scanN (List.getD (AL.Sep.splitC 32 s) 1 []), 0, [], [], ((0, false, 0, []) : Secret.Sec), false⟩ : RepV).names)), .s (i6 (((⟨0, scanN (List.getD (AL.Sep.splitC 32 s) 1 []), 0, [], [], ((0, false, 0, []) : Secret.Sec), false⟩ : RepV).sec).1)), .s (bo (((⟨0, scanN (List.getD (AL.Sep.splitC 32 s) 1 []), 0, [], [], ((0, false, 0, []) : Secret.Sec), false⟩ : RepV).sec).2.1)), .s (i6 (((⟨0, scanN (List.getD (AL.Sep.splitC 32 s) 1 []), 0, [], [], ((0, false, 0, []) : Secret.Sec), false⟩ : RepV).sec).2.2.1)), .s (Secret.slR (((⟨0, scanN (List.getD (AL.Sep.splitC 32 s) 1 []), 0, [], [], ((0, false, 0, []) : Secret.Sec), false⟩ : RepV).sec).2.2.2)), .s (bo ((⟨0, scanN (List.getD (AL.Sep.splitC 32 s) 1 []), 0, [], [], ((0, false, 0, []) : Secret.Sec), false⟩ : RepV).flag))]) ⟨AC.le_rfl, AC.le_rfl, AC.le_rfl, AC.le_rfl, AC.le_nil, AC.le_rfl, AC.le_rfl, AC.le_rfl, AC.le_nil, AC.le_rfl, trivial⟩), trivial⟩ (Check_c (⟨0, scanN (List.getD (AL.Sep.splitC 32 s) 1 []), 0, [], [], ((0, false, 0, []) : Secret.Sec), false⟩ : RepV))), (must_c (decide (checkR (⟨0, scanN (List.getD (AL.Sep.splitC 32 s) 1 []), 0, [], [], ((0, false, 0, []) : Secret.Sec), false⟩ : RepV) = 0)))⟩ (fun hok => (show ((decide (checkR (⟨0, scanN (List.getD (AL.Sep.splitC 32 s) 1 []), 0, [], [], ((0, false, 0, []) : Secret.Sec), false⟩ : RepV) = 0)) = true) by first | (rw [parseOk, if_pos hc1] at hok; exact decide_eq_true hok.2) | (rw [parseOk, if_neg hc1] at hok; exact decide_eq_true hok.2))) (fun hx3 => ?_)
  replace hx3 : ((decide (checkR (⟨0, scanN (List.getD (AL.Sep.splitC 32 s) 1 []), 0, [], [], ((0, false, 0, []) : Secret.Sec), false⟩ : RepV) = 0)) = true) := hx3
  try simp only [decide_eq_true_eq] at hx3
  refine gS [] [] 34 [(2, vp 34 0), (3, vp 35 0)] [(34, AObj.row [.s (u8 0), .s (i6 (scanN (List.getD (AL.Sep.splitC 32 s) 1 []))), .s (i6 0), .s (st []), .s (SC.nilsl), .s (i6 0), .s (bo false), .s (i6 0), .s (SC.nilsl), .s (bo false)]), (35, AObj.row [.s (i6 0)])] trivial ?_
  refine AMx.ent (ent_row 34 (l := [.s (u8 0), .s (i6 (scanN (List.getD (AL.Sep.splitC 32 s) 1 []))), .s (i6 0), .s (st []), .s (SC.nilsl), .s (i6 0), .s (bo false), .s (i6 0), .s (SC.nilsl), .s (bo false)]) (m := [.s (u8 0), .s (i6 (scanN (List.getD (AL.Sep.splitC 32 s) 1 []))), .s (i6 0), .s (st []), .s (AL.Fnv.slS []), .s (i6 0), .s (bo false), .s (i6 0), .s (Secret.slR []), .s (bo false)]) (by kernel_rfl) ⟨AC.le_rfl, AC.le_rfl, AC.le_rfl, AC.le_rfl, AC.le_nil, AC.le_rfl, AC.le_rfl, AC.le_rfl, AC.le_nil, AC.le_rfl, trivial⟩) ?_
  exact gTc (by first | (rw [parseOk, if_pos hc1]; exact ⟨⟨hx1, hx2⟩, hx3⟩) | (rw [parseOk, if_neg hc1]; exact ⟨⟨hx4, hx5⟩, hx6⟩)) (l' := [.s (u8 0), .s (i6 (scanN (List.getD (AL.Sep.splitC 32 s) 1 []))), .s (i6 0), .s (st []), .s (AL.Fnv.slS []), .s (i6 0), .s (bo false), .s (i6 0), .s (Secret.slR []), .s (bo false)]) (m' := [.s (i6 0)]) (by kernel_rfl) (by kernel_rfl) rfl rfl rfl (by unfold valP; first | (rw [if_pos hc1]; rfl) | (rw [if_neg hc1])) rfl
 ·
  refine gSc [(4, CE.call [] [] (AV.tup []) [])] [(4, (decide ((List.getD (AL.Sep.splitC 32 s) 0 []) = [111, 107])) = true)] [(0 : Int) ≤ 0, (0 : Int) < List.length (AL.Sep.splitC 32 s : List Bytes), PureX Tryd.prog 42 [tc (bo (decide ((List.getD (AL.Sep.splitC 32 s) 0 []) = [111, 107])))] (AV.tup []) ((decide ((List.getD (AL.Sep.splitC 32 s) 0 []) = [111, 107])) = true)] 34 [(2, vp 34 0), (3, vp 35 0), (4, vc (AL.Fnv.slS (AL.Sep.splitC 32 s)))] [(34, AObj.row [.s (u8 0), .s (i6 0), .s (i6 0), .s (st []), .s (SC.nilsl), .s (i6 0), .s (bo false), .s (i6 0), .s (SC.nilsl), .s (bo false)]), (35, AObj.row [.s (i6 0)])] ⟨(show (0 : Int) ≤ 0 from (by omega)), (show (0 : Int) < List.length (AL.Sep.splitC 32 s : List Bytes) from (by omega)), (must_c (decide ((List.getD (AL.Sep.splitC 32 s) 0 []) = [111, 107])))⟩ (fun hok => (show ((decide ((List.getD (AL.Sep.splitC 32 s) 0 []) = [111, 107])) = true) by rw [parseOk, if_neg hc1] at hok; exact decide_eq_true hok.1.1)) (fun hx4 => ?_)
  replace hx4 : ((decide ((List.getD (AL.Sep.splitC 32 s) 0 []) = [111, 107])) = true) := hx4
  try simp only [decide_eq_true_eq] at hx4
  refine gRc [(2, CE.call [] [] (AV.t (TV.agg [.s (u8 ((readS (List.drop 1 (AL.Sep.splitC 32 s))).kind)), .s (i6 ((readS (List.drop 1 (AL.Sep.splitC 32 s))).err)), .s (i6 ((readS (List.drop 1 (AL.Sep.splitC 32 s))).n)), .s (st ((readS (List.drop 1 (AL.Sep.splitC 32 s))).data)), .s (AL.Fnv.slS ((readS (List.drop 1 (AL.Sep.splitC 32 s))).names)), .s (i6 (((readS (List.drop 1 (AL.Sep.splitC 32 s))).sec).1)), .s (bo (((readS (List.drop 1 (AL.Sep.splitC 32 s))).sec).2.1)), .s (i6 (((readS (List.drop 1 (AL.Sep.splitC 32 s))).sec).2.2.1)), .s (Secret.slR (((readS (List.drop 1 (AL.Sep.splitC 32 s))).sec).2.2.2)), .s (bo ((readS (List.drop 1 (AL.Sep.splitC 32 s))).flag))])) [])] [(2, readOk (List.drop 1 (AL.Sep.splitC 32 s)))] [0 ≤ (1 : Int), (1 : Int) ≤ List.length (AL.Sep.splitC 32 s : List Bytes), PureX Tryd.prog 44 [tc (AL.Fnv.slS (List.drop 1 (AL.Sep.splitC 32 s)))] (AV.t (TV.agg [.s (u8 ((readS (List.drop 1 (AL.Sep.splitC 32 s))).kind)), .s (i6 ((readS (List.drop 1 (AL.Sep.splitC 32 s))).err)), .s (i6 ((readS (List.drop 1 (AL.Sep.splitC 32 s))).n)), .s (st ((readS (List.drop 1 (AL.Sep.splitC 32 s))).data)), .s (AL.Fnv.slS ((readS (List.drop 1 (AL.Sep.splitC 32 s))).names)), .s (i6 (((readS (List.drop 1 (AL.Sep.splitC 32 s))).sec).1)), .s (bo (((readS (List.drop 1 (AL.Sep.splitC 32 s))).sec).2.1)), .s (i6 (((readS (List.drop 1 (AL.Sep.splitC 32 s))).sec).2.2.1)), .s (Secret.slR (((readS (List.drop 1 (AL.Sep.splitC 32 s))).sec).2.2.2)), .s (bo ((readS (List.drop 1 (AL.Sep.splitC 32 s))).flag))])) (readOk (List.drop 1 (AL.Sep.splitC 32 s)))] 34 [(2, vp 34 0), (3, vp 35 0)] [(34, AObj.row [.s (u8 ((readS (List.drop 1 (AL.Sep.splitC 32 s))).kind)), .s (i6 ((readS (List.drop 1 (AL.Sep.splitC 32 s))).err)), .s (i6 ((readS (List.drop 1 (AL.Sep.splitC 32 s))).n)), .s (st ((readS (List.drop 1 (AL.Sep.splitC 32 s))).data)), .s (AL.Fnv.slS ((readS (List.drop 1 (AL.Sep.splitC 32 s))).names)), .s (i6 (((readS (List.drop 1 (AL.Sep.splitC 32 s))).sec).1)), .s (bo (((readS (List.drop 1 (AL.Sep.splitC 32 s))).sec).2.1)), .s (i6 (((readS (List.drop 1 (AL.Sep.splitC 32 s))).sec).2.2.1)), .s (Secret.slR (((readS (List.drop 1 (AL.Sep.splitC 32 s))).sec).2.2.2)), .s (bo ((readS (List.drop 1 (AL.Sep.splitC 32 s))).flag))]), (35, AObj.row [.s (i6 0)])] ⟨(show 0 ≤ (1 : Int) from (by omega)), (show (1 : Int) ≤ List.length (AL.Sep.splitC 32 s : List Bytes) from (by omega)), (read_c (List.drop 1 (AL.Sep.splitC 32 s)) (words_le hs))⟩ (fun hok => (show (readOk (List.drop 1 (AL.Sep.splitC 32 s))) by rw [parseOk, if_neg hc1] at hok; exact hok.1.2)) (fun hx5 => ?_)
  replace hx5 : (readOk (List.drop 1 (AL.Sep.splitC 32 s))) := hx5
  try simp only [decide_eq_true_eq] at hx5
  refine gSc [(1, CE.call [] [] (vc (i6 (checkR (readS (List.drop 1 (AL.Sep.splitC 32 s)))))) []), (3, CE.call [] [] (AV.tup []) [])] [(3, (decide (checkR (readS (List.drop 1 (AL.Sep.splitC 32 s))) = 0)) = true)] [Spec Tryd.prog 11 [TV.agg [.s (u8 ((readS (List.drop 1 (AL.Sep.splitC 32 s))).kind)), .s (i6 ((readS (List.drop 1 (AL.Sep.splitC 32 s))).err)), .s (i6 ((readS (List.drop 1 (AL.Sep.splitC 32 s))).n)), .s (st ((readS (List.drop 1 (AL.Sep.splitC 32 s))).data)), .s (AL.Fnv.slS ((readS (List.drop 1 (AL.Sep.splitC 32 s))).names)), .s (i6 (((readS (List.drop 1 (AL.Sep.splitC 32 s))).sec).1)), .s (bo (((readS (List.drop 1 (AL.Sep.splitC 32 s))).sec).2.1)), .s (i6 (((readS (List.drop 1 (AL.Sep.splitC 32 s))).sec).2.2.1)), .s (Secret.slR (((readS (List.drop 1 (AL.Sep.splitC 32 s))).sec).2.2.2)), .s (bo ((readS (List.drop 1 (AL.Sep.splitC 32 s))).flag))]] (ofH []) (vc (i6 (checkR (readS (List.drop 1 (AL.Sep.splitC 32 s)))))) (ofH []), PureX Tryd.prog 42 [tc (bo (decide (checkR (readS (List.drop 1 (AL.Sep.splitC 32 s))) = 0)))] (AV.tup []) ((decide (checkR (readS (List.drop 1 (AL.Sep.splitC 32 s))) = 0)) = true)] 34 [(2, vp 34 0), (3, vp 35 0)] [(34, AObj.row [.s (u8 ((readS (List.drop 1 (AL.Sep.splitC 32 s))).kind)), .s (i6 ((readS (List.drop 1 (AL.Sep.splitC 32 s))).err)), .s (i6 ((readS (List.drop 1 (AL.Sep.splitC 32 s))).n)), .s (st ((readS (List.drop 1 (AL.Sep.splitC 32 s))).data)), .s (AL.Fnv.slS ((readS (List.drop 1 (AL.Sep.splitC 32 s))).names)), .s (i6 (((readS (List.drop 1 (AL.Sep.splitC 32 s))).sec).1)), .s (bo (((readS (List.drop 1 (AL.Sep.splitC 32 s))).sec).2.1)), .s (i6 (((readS (List.drop 1 (AL.Sep.splitC 32 s))).sec).2.2.1)), .s (Secret.slR (((readS (List.drop 1 (AL.Sep.splitC 32 s))).sec).2.2.2)), .s (bo ((readS (List.drop 1 (AL.Sep.splitC 32 s))).flag))]), (35, AObj.row [.s (i6 0)])] ⟨(Check_c (readS (List.drop 1 (AL.Sep.splitC 32 s)))), (must_c (decide (checkR (readS (List.drop 1 (AL.Sep.splitC 32 s))) = 0)))⟩ (fun hok => (show ((decide (checkR (readS (List.drop 1 (AL.Sep.splitC 32 s))) = 0)) = true) by first | (rw [parseOk, if_pos hc1] at hok; exact decide_eq_true hok.2) | (rw [parseOk, if_neg hc1] at hok; exact decide_eq_true hok.2))) (fun hx6 => ?_)
  replace hx6 : ((decide (checkR (readS (List.drop 1 (AL.Sep.splitC 32 s))) = 0)) = true) := hx6
  try simp only [decide_eq_true_eq] at hx6
  refine gS [] [] 34 [(2, vp 34 0), (3, vp 35 0)] [(34, AObj.row [.s (u8 ((readS (List.drop 1 (AL.Sep.splitC 32 s))).kind)), .s (i6 ((readS (List.drop 1 (AL.Sep.splitC 32 s))).err)), .s (i6 ((readS (List.drop 1 (AL.Sep.splitC 32 s))).n)), .s (st ((readS (List.drop 1 (AL.Sep.splitC 32 s))).data)), .s (AL.Fnv.slS ((readS (List.drop 1 (AL.Sep.splitC 32 s))).names)), .s (i6 (((readS (List.drop 1 (AL.Sep.splitC 32 s))).sec).1)), .s (bo (((readS (List.drop 1 (AL.Sep.splitC 32 s))).sec).2.1)), .s (i6 (((readS (List.drop 1 (AL.Sep.splitC 32 s))).sec).2.2.1)), .s (Secret.slR (((readS (List.drop 1 (AL.Sep.splitC 32 s))).sec).2.2.2)), .s (bo ((readS (List.drop 1 (AL.Sep.splitC 32 s))).flag))]), (35, AObj.row [.s (i6 0)])] trivial ?_
  exact gTc (by first | (rw [parseOk, if_pos hc1]; exact ⟨⟨hx1, hx2⟩, hx3⟩) | (rw [parseOk, if_neg hc1]; exact ⟨⟨hx4, hx5⟩, hx6⟩)) (l' := [.s (u8 ((readS (List.drop 1 (AL.Sep.splitC 32 s))).kind)), .s (i6 ((readS (List.drop 1 (AL.Sep.splitC 32 s))).err)), .s (i6 ((readS (List.drop 1 (AL.Sep.splitC 32 s))).n)), .s (st ((readS (List.drop 1 (AL.Sep.splitC 32 s))).data)), .s (AL.Fnv.slS ((readS (List.drop 1 (AL.Sep.splitC 32 s))).names)), .s (i6 (((readS (List.drop 1 (AL.Sep.splitC 32 s))).sec).1)), .s (bo (((readS (List.drop 1 (AL.Sep.splitC 32 s))).sec).2.1)), .s (i6 (((readS (List.drop 1 (AL.Sep.splitC 32 s))).sec).2.2.1)), .s (Secret.slR (((readS (List.drop 1 (AL.Sep.splitC 32 s))).sec).2.2.2)), .s (bo ((readS (List.drop 1 (AL.Sep.splitC 32 s))).flag))]) (m' := [.s (i6 0)]) (by kernel_rfl) (by kernel_rfl) rfl rfl rfl (by unfold valP; first | (rw [if_pos hc1]; rfl) | (rw [if_neg hc1])) rfl
theorem Parse_c (s : Bytes) (hs : s.length ≤ 100000) : Pure Tryd.prog 17 [tc (st s)] (AV.tup [TV.agg [.s (u8 (((parseR s).1).kind)), .s (i6 (((parseR s).1).err)), .s (i6 (((parseR s).1).n)), .s (st (((parseR s).1).data)), .s (AL.Fnv.slS (((parseR s).1).names)), .s (i6 ((((parseR s).1).sec).1)), .s (bo ((((parseR s).1).sec).2.1)), .s (i6 ((((parseR s).1).sec).2.2.1)), .s (Secret.slR ((((parseR s).1).sec).2.2.2)), .s (bo (((parseR s).1).flag))], tc (i6 ((parseR s).2))]) :=
  parse_of f17_body (parse_rest s hs) (fun h => by rw [show parseR s = (valP s, 0) from if_pos h]) (fun h => by rw [show parseR s = (repd, 4) from if_neg h]; exact AV.le_tup ⟨TV.le_agg ⟨AC.le_rfl, AC.le_rfl, AC.le_rfl, AC.le_rfl, AC.le_nil, AC.le_rfl, AC.le_rfl, AC.le_rfl, AC.le_nil, AC.le_rfl, trivial⟩, TV.le_rfl, trivial⟩)
end AL.Reply
namespace AL.Reply
open Go AL
open AL.Sep (splitC joinC)
open AL.Ask (numS scanN valS sizeB digB hexS unhexS dg tmod_10 tdiv_10 num_le3 hex_len)
open AL.Secret (RowV Sec Rul slR rowR checkS)
set_option linter.unusedVariables false
set_option linter.unusedSimpArgs false
def bitS (b : Bool) : Bytes := if b = true then [49] else [48]
def listT (l : List Bytes) : Bytes := if (List.length l : Int) = 0 then [45] else joinC 44 l
def rowT (x : RowV) : Bytes := (numS x.1 ++ (if x.2.1 = true then [33] else [])) ++ (if x.2.2 = true then [35] else [])
def wordsS (r : RepV) : List Bytes :=
  if r.kind = 0 then [[101, 114, 114, 111, 114], numS r.err]
  else if r.kind = 2 then [[111, 107], [110, 117, 109, 98, 101, 114], numS r.n]
  else if r.kind = 3 then [[111, 107], [102, 111, 117, 110, 100], numS r.n, if r.data = [] then [45] else hexS r.data]
  else if r.kind = 4 then [[111, 107], [97, 98, 111, 117, 116], numS r.sec.1, bitS r.sec.2.1, numS r.sec.2.2.1, listT (r.sec.2.2.2.map rowT)]
  else if r.kind = 5 then [[111, 107], [110, 97, 109, 101, 115], listT r.names]
  else if r.kind = 6 then (if r.flag = true then [[111, 107], [115, 101, 97, 108, 101, 100]] else [[111, 107], [111, 112, 101, 110]])
  else [[111, 107]]
noncomputable def textS (r : RepV) : Bytes × Int := if checkR r = 0 then (joinC 32 (wordsS r), 0) else ([], checkR r)
noncomputable def ofS (e : Int) : Bytes := if e = 0 then (textS ⟨1, e, 0, [], [], (0, false, 0, []), false⟩).1 else (textS ⟨0, e, 0, [], [], (0, false, 0, []), false⟩).1
theorem num_split {m : Int} (h0 : 0 ≤ m) (h1 : m ≤ 999) : numS m = (if m / 10 = 0 then [] else numS (m / 10)) ++ [dg (m % 10)] := by
  obtain ⟨k, rfl⟩ := Int.eq_ofNat_of_zero_le h0
  exact AL.Ask.numat_first k (by omega)
theorem num_last {n m : Int} {t : Bytes} (h : numS n = numS m ++ t) (h0 : 0 ≤ m) (h1 : m ≤ 999) (hz : m / 10 = 0) : numS n = [dg (m % 10)] ++ t := by
  rw [h, num_split h0 h1, if_pos hz]; rfl
theorem num_next {n m : Int} {t : Bytes} (h : numS n = numS m ++ t) (h0 : 0 ≤ m) (h1 : m ≤ 999) (hz : ¬ m / 10 = 0) : numS n = numS (m / 10) ++ ([dg (m % 10)] ++ t) := by
  rw [h, num_split h0 h1, if_neg hz, List.append_assoc]
theorem rowsT_step (W : List RowV) (k : Nat) (h : k < W.length) : (List.take k W).map rowT ++ [rowT (List.getD W k (0, false, false))] = (List.take (k + 1) W).map rowT := by
  rw [Lib.take_succ (0, false, false) W k h, List.map_append]; rfl
theorem words_rng {r : RepV} (h : checkR r = 0) : (r.kind = 0 → 1 ≤ r.err ∧ r.err ≤ 99) ∧ (r.kind = 2 → 0 ≤ r.n ∧ r.n ≤ 999) ∧ (r.kind = 3 → 0 ≤ r.n ∧ r.n ≤ 999 ∧ (List.length r.data : Int) ≤ 400) ∧ (r.kind = 4 → 0 ≤ r.sec.1 ∧ r.sec.1 ≤ 6 ∧ 0 ≤ r.sec.2.2.1 ∧ r.sec.2.2.1 ≤ 30 ∧ (List.length r.sec.2.2.2 : Int) ≤ 6) := by
  obtain ⟨h1, h2, h3⟩ := (check_iff r).1 h
  unfold FitR at h3
  refine ⟨fun k => ?_, fun k => ?_, fun k => ?_, fun k => ?_⟩
  · rw [if_pos k] at h3; exact h3
  · rw [if_neg (by omega), if_pos k] at h3; exact ⟨h3.1, h3.2.1⟩
  · rw [if_neg (by omega), if_neg (by omega), if_pos k] at h3; exact h3
  · rw [if_neg (by omega), if_neg (by omega), if_neg (by omega), if_pos k] at h3
    obtain ⟨⟨q1, q2, q3, q4, q5, q6⟩, q7, q8, q9⟩ := AL.Secret.check_may.1 h3
    have : AL.Secret.keepS r.sec ((6, false) : Rul) ≤ 6 := by unfold AL.Secret.keepS; split; exact Int.le_refl 6; exact q4
    exact ⟨q3, q4, q5, q6, by omega⟩
theorem words_row {r : RepV} (h : checkR r = 0) (k : r.kind = 4) : ∀ x ∈ r.sec.2.2.2, 0 ≤ x.1 ∧ x.1 ≤ 30 := by
  obtain ⟨h1, h2, h3⟩ := (check_iff r).1 h
  unfold FitR at h3
  rw [if_neg (by omega), if_neg (by omega), if_neg (by omega), if_pos k] at h3
  obtain ⟨⟨q1, q2, q3, q4, q5, q6⟩, q7, q8, q9⟩ := AL.Secret.check_may.1 h3
  intro x hx
  have z1 := AL.Secret.rise_mem q8 x hx
  have z2 := AL.Secret.rise_new q8 x hx
  omega
theorem rowT_len (x : RowV) : (rowT x).length ≤ 5 := by
  have := num_le3 x.1
  unfold rowT
  simp only [List.length_append]
  split <;> split <;> simp <;> omega
theorem list_rows {l : List RowV} (h : (List.length l : Int) ≤ 6) : (joinC 44 (l.map rowT)).length ≤ 100000 := by
  have := AL.Sep.join_max (c := 44) (n := 5) (l.map rowT) (fun p hp => by obtain ⟨x, _, rfl⟩ := List.mem_map.1 hp; exact rowT_len x)
  rw [List.length_map] at this
  omega
theorem name_all {r : RepV} (h : checkR r = 0) (k : r.kind = 5) : (List.length r.names : Int) ≤ 64 ∧ ∀ s ∈ r.names, nameS s = true := by
  obtain ⟨h1, h2, h3⟩ := (check_iff r).1 h
  unfold FitR at h3
  rw [if_neg (by omega), if_neg (by omega), if_neg (by omega), if_neg (by omega), if_pos k] at h3
  refine ⟨h3.1, fun s hs => ?_⟩
  have := Lib.idx_neg (p := fun x : Bytes => !nameS x) (by have := h3.2; omega) s hs
  simpa using this
theorem list_names {r : RepV} (h : checkR r = 0) (k : r.kind = 5) : (joinC 44 r.names).length ≤ 100000 := by
  obtain ⟨h1, h2⟩ := name_all h k
  have := AL.Sep.join_max (c := 44) (n := 64) r.names (fun p hp => ((name_iff p).1 (h2 p hp)).2.2.1)
  omega
theorem listT_len {l : List Bytes} {n : Nat} (h : (joinC 44 l).length ≤ n) (h1 : 1 ≤ n) : (listT l).length ≤ n := by
  unfold listT
  split
  · exact h1
  · exact h
theorem list_rows2 {l : List RowV} (h : (List.length l : Int) ≤ 6) : (joinC 44 (l.map rowT)).length ≤ 4200 := by
  have := AL.Sep.join_max (c := 44) (n := 5) (l.map rowT) (fun p hp => by obtain ⟨x, _, rfl⟩ := List.mem_map.1 hp; exact rowT_len x)
  rw [List.length_map] at this
  omega
theorem list_names2 {r : RepV} (h : checkR r = 0) (k : r.kind = 5) : (joinC 44 r.names).length ≤ 4200 := by
  obtain ⟨h1, h2⟩ := name_all h k
  have := AL.Sep.join_max (c := 44) (n := 64) r.names (fun p hp => ((name_iff p).1 (h2 p hp)).2.2.1)
  omega
theorem bit_len (b : Bool) : (bitS b).length ≤ 4200 := by cases b <;> decide
theorem num_len2 (n : Int) : (numS n).length ≤ 4200 := Nat.le_trans (num_le3 n) (by decide)
theorem words_all {r : RepV} (h : checkR r = 0) : ∀ p ∈ wordsS r, p.length ≤ 4200 := by
  have hw := words_rng h
  have hd : r.kind = 3 → (if r.data = [] then [45] else hexS r.data : Bytes).length ≤ 4200 := fun k => by
    have := (hw.2.2.1 k).2.2
    split
    · decide
    · rw [hex_len]; omega
  have hl : r.kind = 4 → (listT (r.sec.2.2.2.map rowT)).length ≤ 4200 := fun k => listT_len (list_rows2 (hw.2.2.2 k).2.2.2.2) (by decide)
  have hn : r.kind = 5 → (listT r.names).length ≤ 4200 := fun k => listT_len (list_names2 h k) (by decide)
  unfold wordsS
  intro p hp
  have d (a : Bytes) (q : a.length ≤ 4200) : p = a → p.length ≤ 4200 := fun e => e ▸ q
  repeat' split at hp
  all_goals simp only [List.mem_cons, List.not_mem_nil, or_false] at hp
  · rcases hp with e | e
    · exact d _ (by decide) e
    · exact d _ (num_len2 _) e
  · rcases hp with e | e | e
    · exact d _ (by decide) e
    · exact d _ (by decide) e
    · exact d _ (num_len2 _) e
  · rcases hp with e | e | e | e
    · exact d _ (by decide) e
    · exact d _ (by decide) e
    · exact d _ (num_len2 _) e
    · exact d _ (by decide) e
  · rcases hp with e | e | e | e
    · exact d _ (by decide) e
    · exact d _ (by decide) e
    · exact d _ (num_len2 _) e
    · have := hd (by assumption)
      rw [if_neg (by assumption)] at this
      exact d _ this e
  · rcases hp with e | e | e | e | e | e
    · exact d _ (by decide) e
    · exact d _ (by decide) e
    · exact d _ (num_len2 _) e
    · exact d _ (bit_len _) e
    · exact d _ (num_len2 _) e
    · exact d _ (hl (by assumption)) e
  · rcases hp with e | e | e
    · exact d _ (by decide) e
    · exact d _ (by decide) e
    · exact d _ (hn (by assumption)) e
  · rcases hp with e | e
    · exact d _ (by decide) e
    · exact d _ (by decide) e
  · rcases hp with e | e
    · exact d _ (by decide) e
    · exact d _ (by decide) e
  · exact d _ (by decide) hp
theorem words_num (r : RepV) : (wordsS r).length ≤ 6 := by
  unfold wordsS
  repeat' split
  all_goals simp
theorem words_len {r : RepV} (h : checkR r = 0) : (joinC 32 (wordsS r)).length ≤ 100000 := by
  have h1 := AL.Sep.join_max (c := 32) (n := 4200) (wordsS r) (words_all h)
  have h2 := words_num r
  have h3 := Nat.mul_le_mul_right (4200 + 1) h2
  omega
end AL.Reply
namespace AL.Reply
open Go Go.Proofs AL
set_option linter.unusedVariables false
set_option linter.unusedSimpArgs false
open AL.Ask (scanN valS sizeB digB numS hexS unhexS dg tmod_10 tdiv_10 one_dr num_le3)
theorem f51_body : Tryd.f51.body = some (.seq (.region 0 (rg Tryd.f51 0) false) (.seq (.region 1 (rg Tryd.f51 1) false) (.block 0 (.loop (.block 1 (.seq (.region 2 (rg Tryd.f51 2) false) (.seq (.region 3 (rg Tryd.f51 3) false) (.seq (.region 4 (rg Tryd.f51 4) false) (.cond (.tmp 15) (.seq (.region 5 (rg Tryd.f51 5) false) (.ret)) (.skip)))))))))) := by kernel_rfl
set_option maxRecDepth 100000 in
set_option maxHeartbeats 8000000 in
theorem number_c (n : Int) (h0 : 0 ≤ n) (h1 : n ≤ 999) : Pure Tryd.prog 51 [tc (i6 n)] (vc (st (numS n))) := by
 refine Pure.of_body Tryd.func51 f51_body (by kernel_rfl) Tryd.ntmps51 (by kernel_rfl) (by kernel_rfl) ?_
 refine gS [] [] 17 [(0, vc (i6 n))] [] trivial ?_
 refine gS [] [] 17 [(0, vc (i6 n)), (3, vc (st []))] [] trivial ?_
 refine AMx.block ?_
 refine AMx.ent (s' := AS.lst 17 [(0, vc (i6 n)), (3, vc (st []))] []) (ent_proj [0, 3] []) ?_
 refine AMx.loop (fun mm ss => ∃ (m : Int) (t : Bytes), ((0 ≤ m ∧ m ≤ 999) ∧ numS n = numS m ++ t) ∧ mm = m.toNat ∧ ss = AS.lst 17 [(0, vc (i6 m)), (3, vc (st t))] []) ⟨n, [], ?_, rfl, ?_⟩ ?_
 · exact ⟨by omega, by simp⟩
 · rfl
 rintro mm ss ⟨m, t, ⟨hM, hN⟩, rfl, rfl⟩
 refine AMx.block ?_
 refine gS [(4, CE.obj (AObj.grow 5 1 UInt8 0 rowU8 [dg (Int.tmod m 10)])), (5, CE.str [dg (Int.tmod m 10)])] [(10 : Int) ≠ 0, InR .i64 (48 + (Int.tmod m 10)), flat 1 rowU8 [dg (Int.tmod m 10)] = [.s (u8 (IntKind.wrap .u8 (48 + (Int.tmod m 10))))], List.length ([dg (Int.tmod m 10)] : List UInt8) = 1, flat 1 rowU8 [dg (Int.tmod m 10)] = flat 1 rowU8 [dg (Int.tmod m 10)], List.length ([dg (Int.tmod m 10)] : List UInt8) = List.length ([dg (Int.tmod m 10)] : List UInt8), (List.length ([dg (Int.tmod m 10)] : List UInt8) : Int) ≤ 140737488355328, List.length ([dg (Int.tmod m 10)] : List UInt8) + List.length t ≤ maxLen] 17 [(0, vc (i6 m)), (3, vc (st ([dg (Int.tmod m 10)] ++ t)))] [] ⟨(show (10 : Int) ≠ 0 from (by first | omega | (have ht := tdiv_10 (n := m) (by omega); have hm := tmod_10 (n := m) (by omega); have hl := congrArg List.length hN; have h3 := num_le3 n; simp only [List.length_append] at hl; first | omega | ((try simp only [List.length_append, List.length_cons, List.length_nil]); omega)))), (show InR .i64 (48 + (Int.tmod m 10)) from (inR64 (by first | omega | (have ht := tdiv_10 (n := m) (by omega); have hm := tmod_10 (n := m) (by omega); have hl := congrArg List.length hN; have h3 := num_le3 n; simp only [List.length_append] at hl; first | omega | ((try simp only [List.length_append, List.length_cons, List.length_nil]); omega))) (by first | omega | (have ht := tdiv_10 (n := m) (by omega); have hm := tmod_10 (n := m) (by omega); have hl := congrArg List.length hN; have h3 := num_le3 n; simp only [List.length_append] at hl; first | omega | ((try simp only [List.length_append, List.length_cons, List.length_nil]); omega))))), (one_dr (by have hm := tmod_10 (n := m) (by omega); omega) (by have hm := tmod_10 (n := m) (by omega); omega)), rfl, rfl, rfl, (show (List.length ([dg (Int.tmod m 10)] : List UInt8) : Int) ≤ 140737488355328 from (by first | omega | (have ht := tdiv_10 (n := m) (by omega); have hm := tmod_10 (n := m) (by omega); have hl := congrArg List.length hN; have h3 := num_le3 n; simp only [List.length_append] at hl; first | omega | ((try simp only [List.length_append, List.length_cons, List.length_nil]); omega)))), (show List.length ([dg (Int.tmod m 10)] : List UInt8) + List.length t ≤ maxLen from (by simp only [List.length_append, List.length_cons, List.length_nil, maxLen]; first | omega | (first | omega | (have ht := tdiv_10 (n := m) (by omega); have hm := tmod_10 (n := m) (by omega); have hl := congrArg List.length hN; have h3 := num_le3 n; simp only [List.length_append] at hl; first | omega | ((try simp only [List.length_append, List.length_cons, List.length_nil]); omega)))))⟩ ?_
 rw [show Int.tmod m 10 = m % 10 from (tmod_10 (by omega)).1]
 refine gS [] [(10 : Int) ≠ 0, InR .i64 (Int.tdiv m 10)] 17 [(0, vc (i6 (Int.tdiv m 10))), (3, vc (st ([dg (m % 10)] ++ t)))] [] ⟨(show (10 : Int) ≠ 0 from (by first | omega | (have ht := tdiv_10 (n := m) (by omega); have hm := tmod_10 (n := m) (by omega); have hl := congrArg List.length hN; have h3 := num_le3 n; simp only [List.length_append] at hl; first | omega | ((try simp only [List.length_append, List.length_cons, List.length_nil]); omega)))), (show InR .i64 (Int.tdiv m 10) from (inR64 (by first | omega | (have ht := tdiv_10 (n := m) (by omega); have hm := tmod_10 (n := m) (by omega); have hl := congrArg List.length hN; have h3 := num_le3 n; simp only [List.length_append] at hl; first | omega | ((try simp only [List.length_append, List.length_cons, List.length_nil]); omega))) (by first | omega | (have ht := tdiv_10 (n := m) (by omega); have hm := tmod_10 (n := m) (by omega); have hl := congrArg List.length hN; have h3 := num_le3 n; simp only [List.length_append] at hl; first | omega | ((try simp only [List.length_append, List.length_cons, List.length_nil]); omega)))))⟩ ?_
 rw [show Int.tdiv m 10 = m / 10 from tdiv_10 (by omega)]
 refine gS [] [] 17 [(0, vc (i6 (m / 10))), (3, vc (st ([dg (m % 10)] ++ t))), (15, vc (bo (decide (m / 10 = 0))))] [] trivial ?_
 refine gC (m / 10 = 0) (fun hc1 => ?_) fun hc1 => ?_
 ·
  refine gS [] [] 17 [(2, vc (st ([dg (m % 10)] ++ t)))] [] trivial ?_
  exact gT (vc (st ([dg (m % 10)] ++ t))) (by rw [num_last hN (by omega) (by omega) hc1])
 ·
  refine AMx.skip ?_
  refine AMx.blk ?_
  refine AMx.ent_inv (s' := AS.lst 17 [(0, vc (i6 (m / 10))), (3, vc (st ([dg (m % 10)] ++ t)))] []) (ent_proj [0, 3] []) ?_
  refine AMx.inv ⟨_, ?_, m / 10, [dg (m % 10)] ++ t, ?_, rfl, ?_⟩
  rotate_left
  · exact ⟨by omega, num_next hN (by omega) (by omega) hc1⟩
  · rfl
  · omega
theorem f54_body : Tryd.f54.body = some (.seq (.region 0 (rg Tryd.f54 0) false) (.seq (.seq (.region 1 (rg Tryd.f54 1) false) (.cond (.tmp 3) (.seq (.region 2 (rg Tryd.f54 2) false) (.ret)) (.skip))) (.seq (.region 3 (rg Tryd.f54 3) false) (.ret)))) := by kernel_rfl
set_option maxRecDepth 100000 in
set_option maxHeartbeats 8000000 in
theorem bit_c (b : Bool) : Pure Tryd.prog 54 [tc (bo b)] (vc (st (bitS b))) := by
 refine Pure.of_body Tryd.func54 f54_body (by kernel_rfl) Tryd.ntmps54 (by kernel_rfl) (by kernel_rfl) ?_
 refine gS [] [] 4 [(0, vc (bo b))] [] trivial ?_
 refine gQ ?_
 refine gS [] [] 4 [(3, vc (bo b))] [] trivial ?_
 refine gB (b) (fun hc1 => ?_) fun hc1 => ?_
 ·
  try simp only [xT, xF] at hc1
  refine gS [] [] 4 [(2, vc (st [49]))] [] trivial ?_
  exact gT (vc (st [49])) (by rw [hc1]; rfl)
 ·
  try simp only [xT, xF] at hc1
  refine AMx.skip ?_
  refine gS [] [] 4 [(2, vc (st [48]))] [] trivial ?_
  exact gT (vc (st [48])) (by rw [hc1]; rfl)
theorem f55_body : Tryd.f55.body = some (.seq (.region 0 (rg Tryd.f55 0) false) (.seq (.seq (.region 1 (rg Tryd.f55 1) false) (.cond (.tmp 5) (.seq (.region 2 (rg Tryd.f55 2) false) (.ret)) (.skip))) (.seq (.region 3 (rg Tryd.f55 3) false) (.ret)))) := by kernel_rfl
set_option maxRecDepth 100000 in
set_option maxHeartbeats 8000000 in
theorem list_c (l : List Bytes) (hb : (AL.Sep.joinC 44 l).length ≤ 100000) : Pure Tryd.prog 55 [tc (AL.Fnv.slS l)] (vc (st (listT l))) := by
 refine Pure.of_body Tryd.func55 f55_body (by kernel_rfl) Tryd.ntmps55 (by kernel_rfl) (by kernel_rfl) ?_
 refine gS [] [] 8 [(0, vc (AL.Fnv.slS l))] [] trivial ?_
 refine gQ ?_
 refine gS [] [] 8 [(0, vc (AL.Fnv.slS l)), (5, vc (bo (decide ((List.length l : Int) = 0))))] [] trivial ?_
 refine gC ((List.length l : Int) = 0) (fun hc1 => ?_) fun hc1 => ?_
 ·
  refine gS [] [] 8 [(2, vc (st [45]))] [] trivial ?_
  exact gT (vc (st [45])) (by unfold listT; first | rw [if_pos hc1] | rw [if_neg hc1])
 ·
  refine AMx.skip ?_
  refine gS [(1, CE.call [] [] (vc (st (AL.Sep.joinC 44 l))) [])] [Spec Tryd.prog 20 [tc (AL.Fnv.slS l), tc (st [44])] (ofH []) (vc (st (AL.Sep.joinC 44 l))) (ofH [])] 8 [(2, vc (st (AL.Sep.joinC 44 l)))] [] (AL.Sep.Join_c 44 l (by first | omega | assumption)) ?_
  exact gT (vc (st (AL.Sep.joinC 44 l))) (by unfold listT; first | rw [if_pos hc1] | rw [if_neg hc1])
theorem f53_body : Tryd.f53.body = some (.seq (.region 0 (rg Tryd.f53 0) false) (.seq (.region 1 (rg Tryd.f53 1) false) (.seq (.seq (.region 2 (rg Tryd.f53 2) false) (.cond (.tmp 8) (.region 3 (rg Tryd.f53 3) false) (.skip))) (.seq (.seq (.region 4 (rg Tryd.f53 4) false) (.cond (.tmp 12) (.region 5 (rg Tryd.f53 5) false) (.skip))) (.seq (.region 6 (rg Tryd.f53 6) false) (.ret)))))) := by kernel_rfl
set_option maxRecDepth 100000 in
set_option maxHeartbeats 8000000 in
theorem row_c (x : Secret.RowV) (h0 : 0 ≤ x.1) (h1 : x.1 ≤ 999) : Pure Tryd.prog 53 [TV.agg [.s (i6 x.1), .s (bo x.2.1), .s (bo x.2.2)]] (vc (st (rowT x))) := by
 refine Pure.of_body Tryd.func53 f53_body (by kernel_rfl) Tryd.ntmps53 (by kernel_rfl) (by kernel_rfl) ?_
 refine gS [] [] 16 [(1, vp 1 0)] [(1, AObj.row [.s (i6 x.1), .s (bo x.2.1), .s (bo x.2.2)])] trivial ?_
 refine gS [(2, CE.call [] [] (vc (st (numS x.1))) [])] [Spec Tryd.prog 51 [tc (i6 x.1)] (ofH []) (vc (st (numS x.1))) (ofH [])] 16 [(1, vp 1 0), (3, vc (st (numS x.1)))] [(1, AObj.row [.s (i6 x.1), .s (bo x.2.1), .s (bo x.2.2)])] (number_c x.1 (by first | omega | (have h3 := num_le3 x.1; (try simp only [List.length_append, List.length_cons, List.length_nil]); omega)) (by first | omega | (have h3 := num_le3 x.1; (try simp only [List.length_append, List.length_cons, List.length_nil]); omega))) ?_
 refine gQ ?_
 refine gS [] [] 16 [(1, vp 1 0), (3, vc (st (numS x.1))), (8, vc (bo x.2.1))] [(1, AObj.row [.s (i6 x.1), .s (bo x.2.1), .s (bo x.2.2)])] trivial ?_
 refine gB (x.2.1) (fun hc1 => ?_) fun hc1 => ?_
 ·
  try simp only [xT, xF] at hc1
  refine gR [] [List.length (numS x.1 : List UInt8) + List.length ([33] : List UInt8) ≤ maxLen] 16 [(1, vp 1 0), (3, vc (st ((numS x.1) ++ [33])))] [(1, AObj.row [.s (i6 x.1), .s (bo x.2.1), .s (bo x.2.2)])] (show List.length (numS x.1 : List UInt8) + List.length ([33] : List UInt8) ≤ maxLen from (by simp only [List.length_append, List.length_cons, List.length_nil, maxLen]; first | omega | (first | omega | (have h3 := num_le3 x.1; (try simp only [List.length_append, List.length_cons, List.length_nil]); omega)))) ?_
  refine gQ ?_
  refine gS [] [] 16 [(3, vc (st ((numS x.1) ++ [33]))), (12, vc (bo x.2.2))] [] trivial ?_
  refine gB (x.2.2) (fun hc2 => ?_) fun hc2 => ?_
  ·
   try simp only [xT, xF] at hc2
   refine gR [] [List.length ((numS x.1) ++ [33] : List UInt8) + List.length ([35] : List UInt8) ≤ maxLen] 16 [(3, vc (st (((numS x.1) ++ [33]) ++ [35])))] [] (show List.length ((numS x.1) ++ [33] : List UInt8) + List.length ([35] : List UInt8) ≤ maxLen from (by simp only [List.length_append, List.length_cons, List.length_nil, maxLen]; first | omega | (first | omega | (have h3 := num_le3 x.1; (try simp only [List.length_append, List.length_cons, List.length_nil]); omega)))) ?_
   refine gS [] [] 16 [(2, vc (st (((numS x.1) ++ [33]) ++ [35])))] [] trivial ?_
   exact gT (vc (st (((numS x.1) ++ [33]) ++ [35]))) (by unfold rowT; simp [*])
  ·
   try simp only [xT, xF] at hc2
   refine AMx.skip ?_
   refine gS [] [] 16 [(2, vc (st ((numS x.1) ++ [33])))] [] trivial ?_
   exact gT (vc (st ((numS x.1) ++ [33]))) (by unfold rowT; simp [*])
 ·
  try simp only [xT, xF] at hc1
  refine AMx.skip ?_
  refine gQ ?_
  refine gS [] [] 16 [(3, vc (st (numS x.1))), (12, vc (bo x.2.2))] [] trivial ?_
  refine gB (x.2.2) (fun hc3 => ?_) fun hc3 => ?_
  ·
   try simp only [xT, xF] at hc3
   refine gR [] [List.length (numS x.1 : List UInt8) + List.length ([35] : List UInt8) ≤ maxLen] 16 [(3, vc (st ((numS x.1) ++ [35])))] [] (show List.length (numS x.1 : List UInt8) + List.length ([35] : List UInt8) ≤ maxLen from (by simp only [List.length_append, List.length_cons, List.length_nil, maxLen]; first | omega | (first | omega | (have h3 := num_le3 x.1; (try simp only [List.length_append, List.length_cons, List.length_nil]); omega)))) ?_
   refine gS [] [] 16 [(2, vc (st ((numS x.1) ++ [35])))] [] trivial ?_
   exact gT (vc (st ((numS x.1) ++ [35]))) (by unfold rowT; simp [*])
  ·
   try simp only [xT, xF] at hc3
   refine AMx.skip ?_
   refine gS [] [] 16 [(2, vc (st (numS x.1)))] [] trivial ?_
   exact gT (vc (st (numS x.1))) (by unfold rowT; simp [*])
theorem f21_body : Tryd.f21.body = some (.seq (.region 0 (rg Tryd.f21 0) false) (.seq (.seq (.region 1 (rg Tryd.f21 1) false) (.block 0 (.seq (.region 2 (rg Tryd.f21 2) false) (.cond (.tmp 9) (.seq (.region 3 (rg Tryd.f21 3) false) (.ret)) (.seq (.region 4 (rg Tryd.f21 4) false) (.cond (.tmp 15) (.seq (.region 5 (rg Tryd.f21 5) false) (.ret)) (.seq (.region 6 (rg Tryd.f21 6) false) (.cond (.tmp 21) (.seq (.region 7 (rg Tryd.f21 7) false) (.seq (.seq (.region 8 (rg Tryd.f21 8) false) (.cond (.tmp 25) (.region 9 (rg Tryd.f21 9) false) (.skip))) (.seq (.region 10 (rg Tryd.f21 10) false) (.ret)))) (.seq (.region 11 (rg Tryd.f21 11) false) (.cond (.tmp 34) (.seq (.region 12 (rg Tryd.f21 12) false) (.seq (.seq (.region 13 (rg Tryd.f21 13) false) (.block 1 (.loop (.seq (.region 14 (rg Tryd.f21 14) false) (.seq (.cond (.tmp 41) (.skip) (.exit 1)) (.seq (.block 2 (.seq (.region 15 (rg Tryd.f21 15) false) (.region 16 (rg Tryd.f21 16) false))) (.region 17 (rg Tryd.f21 17) false))))))) (.seq (.region 18 (rg Tryd.f21 18) true) (.ret)))) (.seq (.region 19 (rg Tryd.f21 19) false) (.cond (.tmp 65) (.seq (.region 20 (rg Tryd.f21 20) false) (.ret)) (.seq (.region 21 (rg Tryd.f21 21) false) (.cond (.tmp 71) (.seq (.seq (.region 22 (rg Tryd.f21 22) false) (.cond (.tmp 74) (.seq (.region 23 (rg Tryd.f21 23) false) (.ret)) (.skip))) (.seq (.region 24 (rg Tryd.f21 24) false) (.ret))) (.skip))))))))))))))) (.seq (.region 25 (rg Tryd.f21 25) false) (.ret)))) := by kernel_rfl
set_option maxRecDepth 100000 in
set_option maxHeartbeats 8000000 in
theorem words_c (r : RepV) (hf : checkR r = 0) : Pure Tryd.prog 21 [TV.agg [.s (u8 r.kind), .s (i6 r.err), .s (i6 r.n), .s (st r.data), .s (AL.Fnv.slS r.names), .s (i6 r.sec.1), .s (bo r.sec.2.1), .s (i6 r.sec.2.2.1), .s (Secret.slR r.sec.2.2.2), .s (bo r.flag)]] (vc (AL.Fnv.slS (wordsS r))) := by
 refine Pure.of_body Tryd.func21 f21_body (by kernel_rfl) Tryd.ntmps21 (by kernel_rfl) (by kernel_rfl) ?_
 have hw := words_rng hf
 have hr := words_row hf
 refine gS [] [] 78 [(1, vp 1 0)] [(1, AObj.row [.s (u8 r.kind), .s (i6 r.err), .s (i6 r.n), .s (st r.data), .s (AL.Fnv.slS r.names), .s (i6 r.sec.1), .s (bo r.sec.2.1), .s (i6 r.sec.2.2.1), .s (Secret.slR r.sec.2.2.2), .s (bo r.flag)])] trivial ?_
 refine gQ ?_
 refine gS [] [] 78 [(1, vp 1 0), (8, vc (u8 r.kind))] [(1, AObj.row [.s (u8 r.kind), .s (i6 r.err), .s (i6 r.n), .s (st r.data), .s (AL.Fnv.slS r.names), .s (i6 r.sec.1), .s (bo r.sec.2.1), .s (i6 r.sec.2.2.1), .s (Secret.slR r.sec.2.2.2), .s (bo r.flag)])] trivial ?_
 refine AMx.block ?_
 refine gS [] [] 78 [(1, vp 1 0), (8, vc (u8 r.kind)), (9, vc (bo (decide (r.kind = 0))))] [(1, AObj.row [.s (u8 r.kind), .s (i6 r.err), .s (i6 r.n), .s (st r.data), .s (AL.Fnv.slS r.names), .s (i6 r.sec.1), .s (bo r.sec.2.1), .s (i6 r.sec.2.2.1), .s (Secret.slR r.sec.2.2.2), .s (bo r.flag)])] trivial ?_
 refine gC (r.kind = 0) (fun hc1 => ?_) fun hc1 => ?_
 ·
  refine gS [(2, CE.call [] [] (vc (st (numS r.err))) []), (3, CE.obj (AObj.grow 9 1 Bytes [] AL.Fnv.rowS [[101, 114, 114, 111, 114], numS r.err]))] [Spec Tryd.prog 51 [tc (i6 r.err)] (ofH []) (vc (st (numS r.err))) (ofH []), flat 1 AL.Fnv.rowS [[101, 114, 114, 111, 114], numS r.err] = [.s (st [101, 114, 114, 111, 114]), .s (st (numS r.err))], List.length ([[101, 114, 114, 111, 114], numS r.err] : List Bytes) = 2] 78 [(2, vo 14)] [(14, AObj.grow 9 1 Bytes [] AL.Fnv.rowS [[101, 114, 114, 111, 114], numS r.err])] ⟨(number_c r.err (by first | omega | exact list_rows (by omega) | exact list_names hf (by omega) | (have z := hr (by omega) _ (Lib.getD_mem (0, false, false) _ k (by omega)); omega) | ((try simp only [List.length_append, List.length_cons, List.length_nil, List.length_take, List.length_map]); omega)) (by first | omega | exact list_rows (by omega) | exact list_names hf (by omega) | (have z := hr (by omega) _ (Lib.getD_mem (0, false, false) _ k (by omega)); omega) | ((try simp only [List.length_append, List.length_cons, List.length_nil, List.length_take, List.length_map]); omega))), rfl, rfl⟩ ?_
  refine AMx.ent (s' := AS.lst 78 [(2, vc (AL.Fnv.slS [[101, 114, 114, 111, 114], numS r.err]))] []) (ent_freeze (id := 14) (T := 9) (by kernel_rfl)) ?_
  exact gT (vc (AL.Fnv.slS [[101, 114, 114, 111, 114], numS r.err])) (by rw [show wordsS r = [[101, 114, 114, 111, 114], numS r.err] from by unfold wordsS; grind])
 ·
  refine gS [] [] 78 [(1, vp 1 0), (8, vc (u8 r.kind)), (15, vc (bo (decide (r.kind = 2))))] [(1, AObj.row [.s (u8 r.kind), .s (i6 r.err), .s (i6 r.n), .s (st r.data), .s (AL.Fnv.slS r.names), .s (i6 r.sec.1), .s (bo r.sec.2.1), .s (i6 r.sec.2.2.1), .s (Secret.slR r.sec.2.2.2), .s (bo r.flag)])] trivial ?_
  refine gC (r.kind = 2) (fun hc2 => ?_) fun hc2 => ?_
  ·
   refine gS [(2, CE.call [] [] (vc (st (numS r.n))) []), (3, CE.obj (AObj.grow 9 1 Bytes [] AL.Fnv.rowS [[111, 107], [110, 117, 109, 98, 101, 114], numS r.n]))] [Spec Tryd.prog 51 [tc (i6 r.n)] (ofH []) (vc (st (numS r.n))) (ofH []), flat 1 AL.Fnv.rowS [[111, 107], [110, 117, 109, 98, 101, 114], numS r.n] = [.s (st [111, 107]), .s (st [110, 117, 109, 98, 101, 114]), .s (st (numS r.n))], List.length ([[111, 107], [110, 117, 109, 98, 101, 114], numS r.n] : List Bytes) = 3] 78 [(2, vo 20)] [(20, AObj.grow 9 1 Bytes [] AL.Fnv.rowS [[111, 107], [110, 117, 109, 98, 101, 114], numS r.n])] ⟨(number_c r.n (by first | omega | exact list_rows (by omega) | exact list_names hf (by omega) | (have z := hr (by omega) _ (Lib.getD_mem (0, false, false) _ k (by omega)); omega) | ((try simp only [List.length_append, List.length_cons, List.length_nil, List.length_take, List.length_map]); omega)) (by first | omega | exact list_rows (by omega) | exact list_names hf (by omega) | (have z := hr (by omega) _ (Lib.getD_mem (0, false, false) _ k (by omega)); omega) | ((try simp only [List.length_append, List.length_cons, List.length_nil, List.length_take, List.length_map]); omega))), rfl, rfl⟩ ?_
   refine AMx.ent (s' := AS.lst 78 [(2, vc (AL.Fnv.slS [[111, 107], [110, 117, 109, 98, 101, 114], numS r.n]))] []) (ent_freeze (id := 20) (T := 9) (by kernel_rfl)) ?_
   exact gT (vc (AL.Fnv.slS [[111, 107], [110, 117, 109, 98, 101, 114], numS r.n])) (by rw [show wordsS r = [[111, 107], [110, 117, 109, 98, 101, 114], numS r.n] from by unfold wordsS; grind])
  ·
   refine gS [] [] 78 [(1, vp 1 0), (8, vc (u8 r.kind)), (21, vc (bo (decide (r.kind = 3))))] [(1, AObj.row [.s (u8 r.kind), .s (i6 r.err), .s (i6 r.n), .s (st r.data), .s (AL.Fnv.slS r.names), .s (i6 r.sec.1), .s (bo r.sec.2.1), .s (i6 r.sec.2.2.1), .s (Secret.slR r.sec.2.2.2), .s (bo r.flag)])] trivial ?_
   refine gC (r.kind = 3) (fun hc3 => ?_) fun hc3 => ?_
   ·
    refine gS [] [] 78 [(1, vp 1 0), (3, vc (st [45]))] [(1, AObj.row [.s (u8 r.kind), .s (i6 r.err), .s (i6 r.n), .s (st r.data), .s (AL.Fnv.slS r.names), .s (i6 r.sec.1), .s (bo r.sec.2.1), .s (i6 r.sec.2.2.1), .s (Secret.slR r.sec.2.2.2), .s (bo r.flag)])] trivial ?_
    refine gQ ?_
    refine gS [] [] 78 [(1, vp 1 0), (3, vc (st [45])), (25, vc (bo (!decide (r.data = []))))] [(1, AObj.row [.s (u8 r.kind), .s (i6 r.err), .s (i6 r.n), .s (st r.data), .s (AL.Fnv.slS r.names), .s (i6 r.sec.1), .s (bo r.sec.2.1), .s (i6 r.sec.2.2.1), .s (Secret.slR r.sec.2.2.2), .s (bo r.flag)])] trivial ?_
    refine gN (r.data = []) (fun hc4 => ?_) fun hc4 => ?_
    ·
     refine gR [(2, CE.call [] [] (vc (st (hexS r.data))) [])] [Spec Tryd.prog 52 [tc (st r.data)] (ofH []) (vc (st (hexS r.data))) (ofH [])] 78 [(1, vp 1 0), (3, vc (st (hexS r.data)))] [(1, AObj.row [.s (u8 r.kind), .s (i6 r.err), .s (i6 r.n), .s (st r.data), .s (AL.Fnv.slS r.names), .s (i6 r.sec.1), .s (bo r.sec.2.1), .s (i6 r.sec.2.2.1), .s (Secret.slR r.sec.2.2.2), .s (bo r.flag)])] (Ask.Hex_c r.data (by first | omega | exact list_rows (by omega) | exact list_names hf (by omega) | (have z := hr (by omega) _ (Lib.getD_mem (0, false, false) _ k (by omega)); omega) | ((try simp only [List.length_append, List.length_cons, List.length_nil, List.length_take, List.length_map]); omega))) ?_
     refine gS [(2, CE.call [] [] (vc (st (numS r.n))) []), (4, CE.obj (AObj.grow 9 1 Bytes [] AL.Fnv.rowS [[111, 107], [102, 111, 117, 110, 100], numS r.n, hexS r.data]))] [Spec Tryd.prog 51 [tc (i6 r.n)] (ofH []) (vc (st (numS r.n))) (ofH []), flat 1 AL.Fnv.rowS [[111, 107], [102, 111, 117, 110, 100], numS r.n, hexS r.data] = [.s (st [111, 107]), .s (st [102, 111, 117, 110, 100]), .s (st (numS r.n)), .s (st (hexS r.data))], List.length ([[111, 107], [102, 111, 117, 110, 100], numS r.n, hexS r.data] : List Bytes) = 4] 78 [(2, vo 33)] [(33, AObj.grow 9 1 Bytes [] AL.Fnv.rowS [[111, 107], [102, 111, 117, 110, 100], numS r.n, hexS r.data])] ⟨(number_c r.n (by first | omega | exact list_rows (by omega) | exact list_names hf (by omega) | (have z := hr (by omega) _ (Lib.getD_mem (0, false, false) _ k (by omega)); omega) | ((try simp only [List.length_append, List.length_cons, List.length_nil, List.length_take, List.length_map]); omega)) (by first | omega | exact list_rows (by omega) | exact list_names hf (by omega) | (have z := hr (by omega) _ (Lib.getD_mem (0, false, false) _ k (by omega)); omega) | ((try simp only [List.length_append, List.length_cons, List.length_nil, List.length_take, List.length_map]); omega))), rfl, rfl⟩ ?_
     refine AMx.ent (s' := AS.lst 78 [(2, vc (AL.Fnv.slS [[111, 107], [102, 111, 117, 110, 100], numS r.n, hexS r.data]))] []) (ent_freeze (id := 33) (T := 9) (by kernel_rfl)) ?_
     exact gT (vc (AL.Fnv.slS [[111, 107], [102, 111, 117, 110, 100], numS r.n, hexS r.data])) (by rw [show wordsS r = [[111, 107], [102, 111, 117, 110, 100], numS r.n, hexS r.data] from by unfold wordsS; grind])
    ·
     refine AMx.skip ?_
     refine gS [(2, CE.call [] [] (vc (st (numS r.n))) []), (4, CE.obj (AObj.grow 9 1 Bytes [] AL.Fnv.rowS [[111, 107], [102, 111, 117, 110, 100], numS r.n, [45]]))] [Spec Tryd.prog 51 [tc (i6 r.n)] (ofH []) (vc (st (numS r.n))) (ofH []), flat 1 AL.Fnv.rowS [[111, 107], [102, 111, 117, 110, 100], numS r.n, [45]] = [.s (st [111, 107]), .s (st [102, 111, 117, 110, 100]), .s (st (numS r.n)), .s (st [45])], List.length ([[111, 107], [102, 111, 117, 110, 100], numS r.n, [45]] : List Bytes) = 4] 78 [(2, vo 33)] [(33, AObj.grow 9 1 Bytes [] AL.Fnv.rowS [[111, 107], [102, 111, 117, 110, 100], numS r.n, [45]])] ⟨(number_c r.n (by first | omega | exact list_rows (by omega) | exact list_names hf (by omega) | (have z := hr (by omega) _ (Lib.getD_mem (0, false, false) _ k (by omega)); omega) | ((try simp only [List.length_append, List.length_cons, List.length_nil, List.length_take, List.length_map]); omega)) (by first | omega | exact list_rows (by omega) | exact list_names hf (by omega) | (have z := hr (by omega) _ (Lib.getD_mem (0, false, false) _ k (by omega)); omega) | ((try simp only [List.length_append, List.length_cons, List.length_nil, List.length_take, List.length_map]); omega))), rfl, rfl⟩ ?_
     refine AMx.ent (s' := AS.lst 78 [(2, vc (AL.Fnv.slS [[111, 107], [102, 111, 117, 110, 100], numS r.n, [45]]))] []) (ent_freeze (id := 33) (T := 9) (by kernel_rfl)) ?_
     exact gT (vc (AL.Fnv.slS [[111, 107], [102, 111, 117, 110, 100], numS r.n, [45]])) (by rw [show wordsS r = [[111, 107], [102, 111, 117, 110, 100], numS r.n, [45]] from by unfold wordsS; grind])
   ·
    refine gS [] [] 78 [(1, vp 1 0), (8, vc (u8 r.kind)), (34, vc (bo (decide (r.kind = 4))))] [(1, AObj.row [.s (u8 r.kind), .s (i6 r.err), .s (i6 r.n), .s (st r.data), .s (AL.Fnv.slS r.names), .s (i6 r.sec.1), .s (bo r.sec.2.1), .s (i6 r.sec.2.2.1), .s (Secret.slR r.sec.2.2.2), .s (bo r.flag)])] trivial ?_
    refine gC (r.kind = 4) (fun hc5 => ?_) fun hc5 => ?_
    ·
     refine gS [] [] 78 [(1, vp 1 0), (4, vc (SC.nilsl))] [(1, AObj.row [.s (u8 r.kind), .s (i6 r.err), .s (i6 r.n), .s (st r.data), .s (AL.Fnv.slS r.names), .s (i6 r.sec.1), .s (bo r.sec.2.1), .s (i6 r.sec.2.2.1), .s (Secret.slR r.sec.2.2.2), .s (bo r.flag)])] trivial ?_
     refine gQ ?_
     refine gS [] [] 78 [(1, vp 1 0), (4, vc (SC.nilsl)), (38, vc (Secret.slR r.sec.2.2.2)), (39, vc (i6 (List.length r.sec.2.2.2 : Int))), (40, vc (i6 0))] [(1, AObj.row [.s (u8 r.kind), .s (i6 r.err), .s (i6 r.n), .s (st r.data), .s (AL.Fnv.slS r.names), .s (i6 r.sec.1), .s (bo r.sec.2.1), .s (i6 r.sec.2.2.1), .s (Secret.slR r.sec.2.2.2), .s (bo r.flag)])] trivial ?_
     refine AMx.block ?_
     refine AMx.ent (s' := AS.lst 78 [(1, vp 1 0), (4, vo 4), (38, vc (Secret.slR r.sec.2.2.2)), (39, vc (i6 (List.length r.sec.2.2.2 : Int))), (40, vc (i6 0))] [(4, AObj.grow 9 1 Bytes [] AL.Fnv.rowS []), (1, AObj.row [.s (u8 r.kind), .s (i6 r.err), .s (i6 r.n), .s (st r.data), .s (AL.Fnv.slS r.names), .s (i6 r.sec.1), .s (bo r.sec.2.1), .s (i6 r.sec.2.2.1), .s (Secret.slR r.sec.2.2.2), .s (bo r.flag)])]) (ent_adopt (t := 4) (d := 4) 9 1 Bytes [] AL.Fnv.rowS (by kernel_rfl) (by kernel_rfl) (by kernel_rfl) (by kernel_rfl)) ?_
     refine AMx.ent (s' := AS.lst 78 [(1, vp 1 0), (4, vo 4), (38, vc (Secret.slR r.sec.2.2.2)), (39, vc (i6 (List.length r.sec.2.2.2 : Int))), (40, vc (i6 0))] [(1, AObj.row [.s (u8 r.kind), .s (i6 r.err), .s (i6 r.n), .s (st r.data), .s (AL.Fnv.slS r.names), .s (i6 r.sec.1), .s (bo r.sec.2.1), .s (i6 r.sec.2.2.1), .s (Secret.slR r.sec.2.2.2), .s (bo r.flag)]), (4, AObj.grow 9 1 Bytes [] AL.Fnv.rowS [])]) (ent_proj [1, 4, 38, 39, 40] [1, 4]) ?_
     refine AMx.loop (fun mm ss => ∃ (k : Nat), (k ≤ r.sec.2.2.2.length) ∧ mm = r.sec.2.2.2.length - k ∧ ss = AS.lst 78 [(1, vp 1 0), (4, vo 4), (38, vc (Secret.slR r.sec.2.2.2)), (39, vc (i6 (List.length r.sec.2.2.2 : Int))), (40, vc (i6 (k : Int)))] [(1, AObj.row [.s (u8 r.kind), .s (i6 r.err), .s (i6 r.n), .s (st r.data), .s (AL.Fnv.slS r.names), .s (i6 r.sec.1), .s (bo r.sec.2.1), .s (i6 r.sec.2.2.1), .s (Secret.slR r.sec.2.2.2), .s (bo r.flag)]), (4, AObj.grow 9 1 Bytes [] AL.Fnv.rowS ((List.take k r.sec.2.2.2).map rowT))]) ⟨0, ?_, rfl, ?_⟩ ?_
     · omega
     · rfl
     rintro mm ss ⟨k, hI, rfl, rfl⟩
     refine gS [] [] 78 [(1, vp 1 0), (4, vo 4), (38, vc (Secret.slR r.sec.2.2.2)), (39, vc (i6 (List.length r.sec.2.2.2 : Int))), (40, vc (i6 (k : Int))), (41, vc (bo (decide ((k : Int) < (List.length r.sec.2.2.2 : Int)))))] [(1, AObj.row [.s (u8 r.kind), .s (i6 r.err), .s (i6 r.n), .s (st r.data), .s (AL.Fnv.slS r.names), .s (i6 r.sec.1), .s (bo r.sec.2.1), .s (i6 r.sec.2.2.1), .s (Secret.slR r.sec.2.2.2), .s (bo r.flag)]), (4, AObj.grow 9 1 Bytes [] AL.Fnv.rowS ((List.take k r.sec.2.2.2).map rowT))] trivial ?_
     refine gQ ?_
     refine gC ((k : Int) < (List.length r.sec.2.2.2 : Int)) (fun hc6 => ?_) fun hc6 => ?_
     ·
      refine AMx.skip ?_
      refine gQ ?_
      refine AMx.block ?_
      refine gS [] [(0 : Int) ≤ (k : Int), (k : Int) < List.length r.sec.2.2.2] 78 [(1, vp 1 0), (4, vo 4), (6, vp 6 0), (38, vc (Secret.slR r.sec.2.2.2)), (39, vc (i6 (List.length r.sec.2.2.2 : Int))), (40, vc (i6 (k : Int)))] [(1, AObj.row [.s (u8 r.kind), .s (i6 r.err), .s (i6 r.n), .s (st r.data), .s (AL.Fnv.slS r.names), .s (i6 r.sec.1), .s (bo r.sec.2.1), .s (i6 r.sec.2.2.1), .s (Secret.slR r.sec.2.2.2), .s (bo r.flag)]), (4, AObj.grow 9 1 Bytes [] AL.Fnv.rowS ((List.take k r.sec.2.2.2).map rowT)), (6, AObj.row [.s (i6 ((List.getD r.sec.2.2.2 k (0, false, false)).1)), .s (bo ((List.getD r.sec.2.2.2 k (0, false, false)).2.1)), .s (bo ((List.getD r.sec.2.2.2 k (0, false, false)).2.2))])] ⟨(show (0 : Int) ≤ (k : Int) from (by first | omega | exact list_rows (by omega) | exact list_names hf (by omega) | (have z := hr (by omega) _ (Lib.getD_mem (0, false, false) _ k (by omega)); omega) | ((try simp only [List.length_append, List.length_cons, List.length_nil, List.length_take, List.length_map]); omega))), (show (k : Int) < List.length r.sec.2.2.2 from (by first | omega | exact list_rows (by omega) | exact list_names hf (by omega) | (have z := hr (by omega) _ (Lib.getD_mem (0, false, false) _ k (by omega)); omega) | ((try simp only [List.length_append, List.length_cons, List.length_nil, List.length_take, List.length_map]); omega)))⟩ ?_
      refine gR [(2, CE.call [] [] (vc (st (rowT (List.getD r.sec.2.2.2 k (0, false, false))))) []), (3, CE.obj (AObj.grow 9 1 Bytes [] AL.Fnv.rowS [rowT (List.getD r.sec.2.2.2 k (0, false, false))])), (4, CE.obj (AObj.grow 9 1 Bytes [] AL.Fnv.rowS (((List.take k r.sec.2.2.2).map rowT) ++ [rowT (List.getD r.sec.2.2.2 k (0, false, false))])))] [Spec Tryd.prog 53 [TV.agg [.s (i6 ((List.getD r.sec.2.2.2 k (0, false, false)).1)), .s (bo ((List.getD r.sec.2.2.2 k (0, false, false)).2.1)), .s (bo ((List.getD r.sec.2.2.2 k (0, false, false)).2.2))]] (ofH []) (vc (st (rowT (List.getD r.sec.2.2.2 k (0, false, false))))) (ofH []), flat 1 AL.Fnv.rowS [rowT (List.getD r.sec.2.2.2 k (0, false, false))] = [.s (st (rowT (List.getD r.sec.2.2.2 k (0, false, false))))], List.length ([rowT (List.getD r.sec.2.2.2 k (0, false, false))] : List Bytes) = 1, AppC (flat 1 AL.Fnv.rowS [rowT (List.getD r.sec.2.2.2 k (0, false, false))]) (List.length ([rowT (List.getD r.sec.2.2.2 k (0, false, false))] : List Bytes)) 16 (AObj.grow 9 1 Bytes [] AL.Fnv.rowS ((List.take k r.sec.2.2.2).map rowT)) (AObj.grow 9 1 Bytes [] AL.Fnv.rowS (((List.take k r.sec.2.2.2).map rowT) ++ [rowT (List.getD r.sec.2.2.2 k (0, false, false))]))] 78 [(1, vp 1 0), (4, vo 48), (38, vc (Secret.slR r.sec.2.2.2)), (39, vc (i6 (List.length r.sec.2.2.2 : Int))), (40, vc (i6 (k : Int)))] [(1, AObj.row [.s (u8 r.kind), .s (i6 r.err), .s (i6 r.n), .s (st r.data), .s (AL.Fnv.slS r.names), .s (i6 r.sec.1), .s (bo r.sec.2.1), .s (i6 r.sec.2.2.1), .s (Secret.slR r.sec.2.2.2), .s (bo r.flag)]), (48, AObj.grow 9 1 Bytes [] AL.Fnv.rowS (((List.take k r.sec.2.2.2).map rowT) ++ [rowT (List.getD r.sec.2.2.2 k (0, false, false))]))] ⟨(row_c (List.getD r.sec.2.2.2 k (0, false, false)) (by first | omega | exact list_rows (by omega) | exact list_names hf (by omega) | (have z := hr (by omega) _ (Lib.getD_mem (0, false, false) _ k (by omega)); omega) | ((try simp only [List.length_append, List.length_cons, List.length_nil, List.length_take, List.length_map]); omega)) (by first | omega | exact list_rows (by omega) | exact list_names hf (by omega) | (have z := hr (by omega) _ (Lib.getD_mem (0, false, false) _ k (by omega)); omega) | ((try simp only [List.length_append, List.length_cons, List.length_nil, List.length_take, List.length_map]); omega))), rfl, rfl, (⟨_, rfl, rfl, rfl, by simp only [List.length_append, List.length_cons, List.length_nil, List.length_take, List.length_map]; omega, by simp only [maxLen, List.length_append, List.length_cons, List.length_nil, List.length_take, List.length_map]; omega⟩)⟩ ?_
      refine AMx.blk ?_
      refine gR [] [InR .i64 ((k : Int) + 1)] 78 [(1, vp 1 0), (4, vo 48), (38, vc (Secret.slR r.sec.2.2.2)), (39, vc (i6 (List.length r.sec.2.2.2 : Int))), (40, vc (i6 ((k : Int) + 1)))] [(1, AObj.row [.s (u8 r.kind), .s (i6 r.err), .s (i6 r.n), .s (st r.data), .s (AL.Fnv.slS r.names), .s (i6 r.sec.1), .s (bo r.sec.2.1), .s (i6 r.sec.2.2.1), .s (Secret.slR r.sec.2.2.2), .s (bo r.flag)]), (48, AObj.grow 9 1 Bytes [] AL.Fnv.rowS (((List.take k r.sec.2.2.2).map rowT) ++ [rowT (List.getD r.sec.2.2.2 k (0, false, false))]))] (show InR .i64 ((k : Int) + 1) from (inR64 (by first | omega | exact list_rows (by omega) | exact list_names hf (by omega) | (have z := hr (by omega) _ (Lib.getD_mem (0, false, false) _ k (by omega)); omega) | ((try simp only [List.length_append, List.length_cons, List.length_nil, List.length_take, List.length_map]); omega)) (by first | omega | exact list_rows (by omega) | exact list_names hf (by omega) | (have z := hr (by omega) _ (Lib.getD_mem (0, false, false) _ k (by omega)); omega) | ((try simp only [List.length_append, List.length_cons, List.length_nil, List.length_take, List.length_map]); omega)))) ?_
      refine AMx.ent_inv (s' := AS.lst 78 [(1, vp 1 0), (4, vo 4), (38, vc (Secret.slR r.sec.2.2.2)), (39, vc (i6 (List.length r.sec.2.2.2 : Int))), (40, vc (i6 ((k : Int) + 1)))] [(1, AObj.row [.s (u8 r.kind), .s (i6 r.err), .s (i6 r.n), .s (st r.data), .s (AL.Fnv.slS r.names), .s (i6 r.sec.1), .s (bo r.sec.2.1), .s (i6 r.sec.2.2.1), .s (Secret.slR r.sec.2.2.2), .s (bo r.flag)]), (4, AObj.grow 9 1 Bytes [] AL.Fnv.rowS (((List.take k r.sec.2.2.2).map rowT) ++ [rowT (List.getD r.sec.2.2.2 k (0, false, false))]))]) (ent_swap 48 4 (by kernel_rfl) (by kernel_rfl)) ?_
      refine AMx.ent_inv (s' := AS.lst 78 [(1, vp 1 0), (4, vo 4), (38, vc (Secret.slR r.sec.2.2.2)), (39, vc (i6 (List.length r.sec.2.2.2 : Int))), (40, vc (i6 ((k : Int) + 1)))] [(1, AObj.row [.s (u8 r.kind), .s (i6 r.err), .s (i6 r.n), .s (st r.data), .s (AL.Fnv.slS r.names), .s (i6 r.sec.1), .s (bo r.sec.2.1), .s (i6 r.sec.2.2.1), .s (Secret.slR r.sec.2.2.2), .s (bo r.flag)]), (4, AObj.grow 9 1 Bytes [] AL.Fnv.rowS (((List.take k r.sec.2.2.2).map rowT) ++ [rowT (List.getD r.sec.2.2.2 k (0, false, false))]))]) (ent_proj [1, 4, 38, 39, 40] [1, 4]) ?_
      refine AMx.inv ⟨_, ?_, k + 1, ?_, rfl, ?_⟩
      rotate_left
      · omega
      · rw [← rowsT_step r.sec.2.2.2 k (by omega)]; rfl
      · omega
     ·
      refine AMx.exit ?_
      refine AMx.code_exit ?_
      refine AMx.inv_exit ?_
      refine AMx.blk_exit ?_
      rw [show List.take k r.sec.2.2.2 = r.sec.2.2.2 from List.take_of_length_le (by omega)]
      refine gY [(3, CE.call [] [] (vc (st (numS r.sec.1))) []), (7, CE.call [] [] (vc (st (bitS r.sec.2.1))) []), (11, CE.call [] [] (vc (st (numS r.sec.2.2.1))) []), (13, CE.call [4] [] (vc (st (listT (r.sec.2.2.2.map rowT)))) []), (14, CE.obj (AObj.grow 9 1 Bytes [] AL.Fnv.rowS [[111, 107], [97, 98, 111, 117, 116], numS r.sec.1, bitS r.sec.2.1, numS r.sec.2.2.1, listT (r.sec.2.2.2.map rowT)]))] [(2, [1]), (6, [1]), (10, [1]), (13, [4])] [Spec Tryd.prog 51 [tc (i6 r.sec.1)] (ofH []) (vc (st (numS r.sec.1))) (ofH []), Spec Tryd.prog 54 [tc (bo r.sec.2.1)] (ofH []) (vc (st (bitS r.sec.2.1))) (ofH []), Spec Tryd.prog 51 [tc (i6 r.sec.2.2.1)] (ofH []) (vc (st (numS r.sec.2.2.1))) (ofH []), Spec Tryd.prog 55 [tc (AL.Fnv.slS (r.sec.2.2.2.map rowT))] (ofH []) (vc (st (listT (r.sec.2.2.2.map rowT)))) (ofH []), flat 1 AL.Fnv.rowS [[111, 107], [97, 98, 111, 117, 116], numS r.sec.1, bitS r.sec.2.1, numS r.sec.2.2.1, listT (r.sec.2.2.2.map rowT)] = [.s (st [111, 107]), .s (st [97, 98, 111, 117, 116]), .s (st (numS r.sec.1)), .s (st (bitS r.sec.2.1)), .s (st (numS r.sec.2.2.1)), .s (st (listT (r.sec.2.2.2.map rowT)))], List.length ([[111, 107], [97, 98, 111, 117, 116], numS r.sec.1, bitS r.sec.2.1, numS r.sec.2.2.1, listT (r.sec.2.2.2.map rowT)] : List Bytes) = 6] 78 [(2, vo 64)] [(64, AObj.grow 9 1 Bytes [] AL.Fnv.rowS [[111, 107], [97, 98, 111, 117, 116], numS r.sec.1, bitS r.sec.2.1, numS r.sec.2.2.1, listT (r.sec.2.2.2.map rowT)])] mixed ⟨(number_c r.sec.1 (by first | omega | exact list_rows (by omega) | exact list_names hf (by omega) | (have z := hr (by omega) _ (Lib.getD_mem (0, false, false) _ k (by omega)); omega) | ((try simp only [List.length_append, List.length_cons, List.length_nil, List.length_take, List.length_map]); omega)) (by first | omega | exact list_rows (by omega) | exact list_names hf (by omega) | (have z := hr (by omega) _ (Lib.getD_mem (0, false, false) _ k (by omega)); omega) | ((try simp only [List.length_append, List.length_cons, List.length_nil, List.length_take, List.length_map]); omega))), (bit_c r.sec.2.1), (number_c r.sec.2.2.1 (by first | omega | exact list_rows (by omega) | exact list_names hf (by omega) | (have z := hr (by omega) _ (Lib.getD_mem (0, false, false) _ k (by omega)); omega) | ((try simp only [List.length_append, List.length_cons, List.length_nil, List.length_take, List.length_map]); omega)) (by first | omega | exact list_rows (by omega) | exact list_names hf (by omega) | (have z := hr (by omega) _ (Lib.getD_mem (0, false, false) _ k (by omega)); omega) | ((try simp only [List.length_append, List.length_cons, List.length_nil, List.length_take, List.length_map]); omega))), (list_c (r.sec.2.2.2.map rowT) (by first | omega | exact list_rows (by omega) | exact list_names hf (by omega) | (have z := hr (by omega) _ (Lib.getD_mem (0, false, false) _ k (by omega)); omega) | ((try simp only [List.length_append, List.length_cons, List.length_nil, List.length_take, List.length_map]); omega))), rfl, rfl⟩ ?_
      refine AMx.ent (s' := AS.lst 78 [(2, vc (AL.Fnv.slS [[111, 107], [97, 98, 111, 117, 116], numS r.sec.1, bitS r.sec.2.1, numS r.sec.2.2.1, listT (r.sec.2.2.2.map rowT)]))] []) (ent_freeze (id := 64) (T := 9) (by kernel_rfl)) ?_
      exact gT (vc (AL.Fnv.slS [[111, 107], [97, 98, 111, 117, 116], numS r.sec.1, bitS r.sec.2.1, numS r.sec.2.2.1, listT (r.sec.2.2.2.map rowT)])) (by rw [show wordsS r = [[111, 107], [97, 98, 111, 117, 116], numS r.sec.1, bitS r.sec.2.1, numS r.sec.2.2.1, listT (r.sec.2.2.2.map rowT)] from by unfold wordsS; grind])
    ·
     refine gS [] [] 78 [(1, vp 1 0), (8, vc (u8 r.kind)), (65, vc (bo (decide (r.kind = 5))))] [(1, AObj.row [.s (u8 r.kind), .s (i6 r.err), .s (i6 r.n), .s (st r.data), .s (AL.Fnv.slS r.names), .s (i6 r.sec.1), .s (bo r.sec.2.1), .s (i6 r.sec.2.2.1), .s (Secret.slR r.sec.2.2.2), .s (bo r.flag)])] trivial ?_
     refine gC (r.kind = 5) (fun hc7 => ?_) fun hc7 => ?_
     ·
      refine gS [(2, CE.call [] [] (vc (st (listT r.names))) []), (3, CE.obj (AObj.grow 9 1 Bytes [] AL.Fnv.rowS [[111, 107], [110, 97, 109, 101, 115], listT r.names]))] [Spec Tryd.prog 55 [tc (AL.Fnv.slS r.names)] (ofH []) (vc (st (listT r.names))) (ofH []), flat 1 AL.Fnv.rowS [[111, 107], [110, 97, 109, 101, 115], listT r.names] = [.s (st [111, 107]), .s (st [110, 97, 109, 101, 115]), .s (st (listT r.names))], List.length ([[111, 107], [110, 97, 109, 101, 115], listT r.names] : List Bytes) = 3] 78 [(2, vo 70)] [(70, AObj.grow 9 1 Bytes [] AL.Fnv.rowS [[111, 107], [110, 97, 109, 101, 115], listT r.names])] ⟨(list_c r.names (by first | omega | exact list_rows (by omega) | exact list_names hf (by omega) | (have z := hr (by omega) _ (Lib.getD_mem (0, false, false) _ k (by omega)); omega) | ((try simp only [List.length_append, List.length_cons, List.length_nil, List.length_take, List.length_map]); omega))), rfl, rfl⟩ ?_
      refine AMx.ent (s' := AS.lst 78 [(2, vc (AL.Fnv.slS [[111, 107], [110, 97, 109, 101, 115], listT r.names]))] []) (ent_freeze (id := 70) (T := 9) (by kernel_rfl)) ?_
      exact gT (vc (AL.Fnv.slS [[111, 107], [110, 97, 109, 101, 115], listT r.names])) (by rw [show wordsS r = [[111, 107], [110, 97, 109, 101, 115], listT r.names] from by unfold wordsS; grind])
     ·
      refine gS [] [] 78 [(1, vp 1 0), (71, vc (bo (decide (r.kind = 6))))] [(1, AObj.row [.s (u8 r.kind), .s (i6 r.err), .s (i6 r.n), .s (st r.data), .s (AL.Fnv.slS r.names), .s (i6 r.sec.1), .s (bo r.sec.2.1), .s (i6 r.sec.2.2.1), .s (Secret.slR r.sec.2.2.2), .s (bo r.flag)])] trivial ?_
      refine gC (r.kind = 6) (fun hc8 => ?_) fun hc8 => ?_
      ·
       refine gQ ?_
       refine gS [] [] 78 [(74, vc (bo r.flag))] [] trivial ?_
       refine gB (r.flag) (fun hc9 => ?_) fun hc9 => ?_
       ·
        try simp only [xT, xF] at hc9
        refine gS [(0, CE.obj (AObj.grow 9 1 Bytes [] AL.Fnv.rowS [[111, 107], [115, 101, 97, 108, 101, 100]]))] [flat 1 AL.Fnv.rowS [[111, 107], [115, 101, 97, 108, 101, 100]] = [.s (st [111, 107]), .s (st [115, 101, 97, 108, 101, 100])], List.length ([[111, 107], [115, 101, 97, 108, 101, 100]] : List Bytes) = 2] 78 [(2, vo 75)] [(75, AObj.grow 9 1 Bytes [] AL.Fnv.rowS [[111, 107], [115, 101, 97, 108, 101, 100]])] ⟨rfl, rfl⟩ ?_
        refine AMx.ent (s' := AS.lst 78 [(2, vc (AL.Fnv.slS [[111, 107], [115, 101, 97, 108, 101, 100]]))] []) (ent_freeze (id := 75) (T := 9) (by kernel_rfl)) ?_
        exact gT (vc (AL.Fnv.slS [[111, 107], [115, 101, 97, 108, 101, 100]])) (by rw [show wordsS r = [[111, 107], [115, 101, 97, 108, 101, 100]] from by unfold wordsS; grind])
       ·
        try simp only [xT, xF] at hc9
        refine AMx.skip ?_
        refine gS [(0, CE.obj (AObj.grow 9 1 Bytes [] AL.Fnv.rowS [[111, 107], [111, 112, 101, 110]]))] [flat 1 AL.Fnv.rowS [[111, 107], [111, 112, 101, 110]] = [.s (st [111, 107]), .s (st [111, 112, 101, 110])], List.length ([[111, 107], [111, 112, 101, 110]] : List Bytes) = 2] 78 [(2, vo 76)] [(76, AObj.grow 9 1 Bytes [] AL.Fnv.rowS [[111, 107], [111, 112, 101, 110]])] ⟨rfl, rfl⟩ ?_
        refine AMx.ent (s' := AS.lst 78 [(2, vc (AL.Fnv.slS [[111, 107], [111, 112, 101, 110]]))] []) (ent_freeze (id := 76) (T := 9) (by kernel_rfl)) ?_
        exact gT (vc (AL.Fnv.slS [[111, 107], [111, 112, 101, 110]])) (by rw [show wordsS r = [[111, 107], [111, 112, 101, 110]] from by unfold wordsS; grind])
      ·
       refine AMx.skip ?_
       refine AMx.blk ?_
       refine gS [(0, CE.obj (AObj.grow 9 1 Bytes [] AL.Fnv.rowS [[111, 107]]))] [flat 1 AL.Fnv.rowS [[111, 107]] = [.s (st [111, 107])], List.length ([[111, 107]] : List Bytes) = 1] 78 [(2, vo 77)] [(77, AObj.grow 9 1 Bytes [] AL.Fnv.rowS [[111, 107]])] ⟨rfl, rfl⟩ ?_
       refine AMx.ent (s' := AS.lst 78 [(2, vc (AL.Fnv.slS [[111, 107]]))] []) (ent_freeze (id := 77) (T := 9) (by kernel_rfl)) ?_
       exact gT (vc (AL.Fnv.slS [[111, 107]])) (by rw [show wordsS r = [[111, 107]] from by unfold wordsS; grind])
end AL.Reply
namespace AL.Reply
open Go AL
open AL.Sep (splitC joinC)
open AL.Ask (numS scanN valS sizeB digB hexS unhexS dg tmod_10 tdiv_10 num_le3 hex_len num_scan scan_num scan_ge)
open AL.Secret (RowV Sec Rul slR rowR checkS)
set_option linter.unusedVariables false
set_option linter.unusedSimpArgs false
theorem num_two {n : Int} (h0 : 0 ≤ n) (h1 : n ≤ 999) (h : ¬ n < 10) : numS (Int.tdiv n 10) ++ numS (Int.tmod n 10) = numS n := by
  rw [tdiv_10 h0, (tmod_10 h0).1, num_split h0 h1, if_neg (by omega)]
  congr 1
  unfold numS
  rw [if_pos (by omega)]
theorem vb_step (s : Bytes) (i : Nat) {lo hi : Int} (h : lo ≤ valS (List.take i s) ∧ valS (List.take i s) ≤ hi) (h0 : lo ≤ 0) (h1 : 0 ≤ hi) : 10 * lo - 48 ≤ valS (List.take (i + 1) s) ∧ valS (List.take (i + 1) s) ≤ 10 * hi + 207 := by
  by_cases hl : i < s.length
  · rw [AL.Ask.val_step s i hl]
    have hb := UInt8.toNat_lt (List.getD s i 0)
    omega
  · rw [List.take_of_length_le (by omega)]
    rw [List.take_of_length_le (by omega)] at h
    omega
theorem val_bound (s : Bytes) : ∀ i, i ≤ 4 → -100000 ≤ valS (List.take i s) ∧ valS (List.take i s) ≤ 300000 := by
  have v0 : (0 : Int) ≤ valS (List.take 0 s) ∧ valS (List.take 0 s) ≤ (0 : Int) := by rw [List.take_zero]; exact ⟨Int.le_refl 0, Int.le_refl 0⟩
  have v1 := vb_step s 0 v0 (by omega) (by omega)
  have v2 := vb_step s 1 v1 (by omega) (by omega)
  have v3 := vb_step s 2 v2 (by omega) (by omega)
  have v4 := vb_step s 3 v3 (by omega) (by omega)
  simp only [Nat.zero_add, Nat.reduceAdd] at v1 v2 v3 v4
  intro i hi
  match i, hi with
  | 0, _ => omega
  | 1, _ => omega
  | 2, _ => omega
  | 3, _ => omega
  | 4, _ => omega
theorem take_4 {s : Bytes} {i : Nat} (h : i = 4 ∨ (s.length ≤ i ∧ i ≤ 4)) : List.take i s = List.take 4 s := by
  rcases h with rfl | ⟨h, h2⟩
  · rfl
  · rw [List.take_of_length_le h, List.take_of_length_le (by omega)]
theorem scan4_yes {s : Bytes} (h0 : ¬ valS (List.take 4 s) < 0) (h1 : ¬ 999 < valS (List.take 4 s)) (h2 : numS (valS (List.take 4 s)) = s) : scanN s = valS (List.take 4 s) := by
  have := scan_num (n := valS (List.take 4 s)) (by omega) (by omega)
  rwa [h2] at this
theorem scan4_no {s : Bytes} (h : (valS (List.take 4 s) < 0 ∨ 999 < valS (List.take 4 s)) ∨ ¬ numS (valS (List.take 4 s)) = s) : scanN s = -1 := by
  have hg := scan_ge s
  rcases Int.lt_or_le (scanN s) 0 with q | q
  · omega
  · exfalso
    obtain ⟨z1, z2, z3⟩ := num_scan q
    have e : valS (List.take 4 s) = scanN s := by
      rw [List.take_of_length_le (by omega)]
      exact (if_pos (scan_ok.1 q)).symm
    rw [e] at h
    rcases h with (h | h) | h
    · omega
    · omega
    · exact h z1
theorem same_ref (a b : RepV) : (((((((decide (a.kind = b.kind)) && (decide (a.err = b.err))) && (decide (a.n = b.n))) && (decide (a.data = b.data))) && (a.flag == b.flag)) && (decide (a.names = b.names))) && (decide (a.sec = b.sec))) = decide (a = b) := by
  rw [Bool.eq_iff_iff]
  simp only [Bool.and_eq_true, decide_eq_true_eq, RepV.eq_iff, beq_iff_eq]
  constructor
  · rintro ⟨⟨⟨⟨⟨⟨q1, q2⟩, q3⟩, q4⟩, q5⟩, q6⟩, q7⟩; exact ⟨q1, q2, q3, q4, q6, q7, q5⟩
  · rintro ⟨q1, q2, q3, q4, q6, q7, q5⟩; exact ⟨⟨⟨⟨⟨⟨q1, q2⟩, q3⟩, q4⟩, q5⟩, q6⟩, q7⟩
theorem suf_yes {k : UInt8} {s : Bytes} (h : (0 : Int) < (List.length s : Int) ∧ ((List.getD s ((List.length s : Int) - 1).toNat 0).toNat : Int) = (k.toNat : Int)) : sufS k s = true ∧ cutS k s = List.take ((List.length s : Int) - 1).toNat s := by
  have e : ((List.length s : Int) - 1).toNat = s.length - 1 := by omega
  have hs : sufS k s = true := decide_eq_true ⟨fun q => by rw [q] at h; simp at h, UInt8.toNat_inj.1 (by have := h.2; rw [e] at this; omega)⟩
  exact ⟨hs, by unfold cutS; rw [if_pos hs, e]⟩
theorem suf_not {k : UInt8} {s : Bytes} (h : ¬ (0 : Int) < (List.length s : Int) ∨ ¬ ((List.getD s ((List.length s : Int) - 1).toNat 0).toNat : Int) = (k.toNat : Int)) : sufS k s = false ∧ cutS k s = s := by
  have hs : sufS k s = false := decide_eq_false fun q => by
    have hl : 0 < s.length := List.length_pos_iff.2 q.1
    rcases h with h | h
    · omega
    · rw [show ((List.length s : Int) - 1).toNat = s.length - 1 by omega, q.2] at h
      exact h rfl
  exact ⟨hs, cut_n hs⟩
theorem row_r {s s1 s2 : Bytes} {b1 b2 : Bool} (h1 : sufS 35 s = b1 ∧ cutS 35 s = s1) (h2 : sufS 33 s1 = b2 ∧ cutS 33 s1 = s2) : rowW s = (scanN s2, b2, b1) := by
  unfold rowW
  rw [h1.1, h1.2, h2.1, h2.2]
theorem name_no1 {s : Bytes} (h : ((List.length s : Int) < 1 ∨ (64 : Int) < (List.length s : Int)) ∨ s = [45]) : nameS s = false := by
  cases hb : nameS s with
  | false => rfl
  | true =>
    obtain ⟨h1, h2, h3, _, _⟩ := (name_iff s).1 hb
    have := List.length_pos_iff.2 h1
    rcases h with (h | h) | h
    · omega
    · omega
    · exact absurd h h2
theorem byte_is {b k : UInt8} (h : (b.toNat : Int) = (k.toNat : Int)) : b = k := UInt8.toNat_inj.1 (by omega)
theorem name_no2 {s : Bytes} {i : Nat} (hi : i < s.length) (h : ((List.getD s i 0).toNat : Int) = 32 ∨ ((List.getD s i 0).toNat : Int) = 44) : nameS s = false := by
  cases hb : nameS s with
  | false => rfl
  | true =>
    obtain ⟨_, _, _, h4, h5⟩ := (name_iff s).1 hb
    have hm := Lib.getD_mem 0 s i hi
    rcases h with h | h
    · rw [byte_is (k := 32) h] at hm; exact absurd hm h4
    · rw [byte_is (k := 44) h] at hm; exact absurd hm h5
def NoSep (s : Bytes) (i : Nat) : Prop := ∀ b ∈ List.take i s, ¬ b = 32 ∧ ¬ b = 44
theorem nosep_0 (s : Bytes) : NoSep s 0 := fun b hb => by simp at hb
theorem nosep_step {s : Bytes} {i : Nat} (hi : i < s.length) (h : NoSep s i) (hn : ¬ ((List.getD s i 0).toNat : Int) = 32 ∧ ¬ ((List.getD s i 0).toNat : Int) = 44) : NoSep s (i + 1) := by
  intro b hb
  rw [Lib.take_succ 0 s i hi] at hb
  rcases List.mem_append.1 hb with q | q
  · exact h b q
  · rw [List.mem_singleton.1 q]
    exact ⟨fun e => hn.1 (by rw [e]; rfl), fun e => hn.2 (by rw [e]; rfl)⟩
theorem name_yes {s : Bytes} {i : Nat} (h : (¬ (List.length s : Int) < 1 ∧ ¬ (64 : Int) < (List.length s : Int)) ∧ ¬ s = [45]) (hi : s.length ≤ i) (hN : NoSep s i) : nameS s = true := by
  unfold NoSep at hN
  rw [List.take_of_length_le hi] at hN
  refine (name_iff s).2 ⟨fun e => h.1.1 (by rw [e]; decide), h.2, by omega, fun q => (hN _ q).1 rfl, fun q => (hN _ q).2 rfl⟩
theorem joinT_first (l : List Bytes) (i : Nat) (h : i < l.length) (hi : ¬ (0 : Int) < (i : Int)) : joinC 44 (List.take i l) ++ List.getD l i [] = joinC 44 (List.take (i + 1) l) := by
  obtain rfl : i = 0 := by omega
  match l, h with
  | a :: r, _ => rfl
theorem rowT_yy {x : RowV} (h1 : x.2.1 = true) (h2 : x.2.2 = true) : rowT x = (numS x.1 ++ [33]) ++ [35] := by unfold rowT; rw [if_pos h1, if_pos h2]
theorem rowT_yn {x : RowV} (h1 : x.2.1 = true) (h2 : x.2.2 = false) : rowT x = numS x.1 ++ [33] := by unfold rowT; rw [if_pos h1, if_neg (by rw [h2]; decide), List.append_nil]
theorem rowT_ny {x : RowV} (h1 : x.2.1 = false) (h2 : x.2.2 = true) : rowT x = numS x.1 ++ [35] := by unfold rowT; rw [if_neg (by rw [h1]; decide), if_pos h2, List.append_nil]
theorem rowT_nn {x : RowV} (h1 : x.2.1 = false) (h2 : x.2.2 = false) : rowT x = numS x.1 := by unfold rowT; rw [if_neg (by rw [h1]; decide), if_neg (by rw [h2]; decide), List.append_nil, List.append_nil]
theorem joinT_step (l : List Bytes) (i : Nat) (h : i < l.length) (hi : 0 < i) : (joinC 44 (List.take i l) ++ [44]) ++ List.getD l i [] = joinC 44 (List.take (i + 1) l) := by
  rw [Lib.take_succ [] l i h, AL.Sep.join_snoc 44 (List.getD l i []) (List.take i l) (fun e => by have := congrArg List.length e; simp only [List.length_take, List.length_nil] at this; omega)]
  simp
theorem joinT_le (l : List Bytes) (i : Nat) : (joinC 44 (List.take i l)).length ≤ (joinC 44 l).length := by
  induction l generalizing i with
  | nil => simp
  | cons a r ih =>
    cases i with
    | zero => simp [joinC]
    | succ i =>
      rw [List.take_succ_cons]
      match r, ih with
      | [], _ => simp
      | b :: r, ih =>
        cases i with
        | zero => simp [joinC]
        | succ i =>
          have := ih (i + 1)
          rw [List.take_succ_cons] at this ⊢
          simp only [joinC, List.length_append, List.length_cons] at this ⊢
          omega
end AL.Reply
namespace AL.Reply
open Go Go.Proofs AL
set_option linter.unusedVariables false
set_option linter.unusedSimpArgs false
open AL.Ask (scanN valS sizeB digB numS hexS unhexS dg tmod_10 tdiv_10 one_dr num_le3)
theorem f8_body : Tryd.f8.body = some (.seq (.region 0 (rg Tryd.f8 0) false) (.seq (.seq (.region 1 (rg Tryd.f8 1) false) (.seq (.region 2 (rg Tryd.f8 2) false) (.cond (.tmp 8) (.seq (.region 3 (rg Tryd.f8 3) false) (.ret)) (.skip)))) (.seq (.region 4 (rg Tryd.f8 4) false) (.ret)))) := by kernel_rfl
set_option maxRecDepth 100000 in
set_option maxHeartbeats 8000000 in
theorem Text_c (r : RepV) : Pure Tryd.prog 8 [TV.agg [.s (u8 r.kind), .s (i6 r.err), .s (i6 r.n), .s (st r.data), .s (AL.Fnv.slS r.names), .s (i6 r.sec.1), .s (bo r.sec.2.1), .s (i6 r.sec.2.2.1), .s (Secret.slR r.sec.2.2.2), .s (bo r.flag)]] (AV.tup [tc (st ((textS r).1)), tc (i6 ((textS r).2))]) := by
 refine Pure.of_body Tryd.func8 f8_body (by kernel_rfl) Tryd.ntmps8 (by kernel_rfl) (by kernel_rfl) ?_
 refine gS [] [] 13 [(1, vp 1 0)] [(1, AObj.row [.s (u8 r.kind), .s (i6 r.err), .s (i6 r.n), .s (st r.data), .s (AL.Fnv.slS r.names), .s (i6 r.sec.1), .s (bo r.sec.2.1), .s (i6 r.sec.2.2.1), .s (Secret.slR r.sec.2.2.2), .s (bo r.flag)])] trivial ?_
 refine gQ ?_
 refine gS [(1, CE.call [] [] (vc (i6 (checkR r))) [])] [Spec Tryd.prog 11 [TV.agg [.s (u8 r.kind), .s (i6 r.err), .s (i6 r.n), .s (st r.data), .s (AL.Fnv.slS r.names), .s (i6 r.sec.1), .s (bo r.sec.2.1), .s (i6 r.sec.2.2.1), .s (Secret.slR r.sec.2.2.2), .s (bo r.flag)]] (ofH []) (vc (i6 (checkR r))) (ofH [])] 13 [(1, vp 1 0), (4, vc (i6 (checkR r)))] [(1, AObj.row [.s (u8 r.kind), .s (i6 r.err), .s (i6 r.n), .s (st r.data), .s (AL.Fnv.slS r.names), .s (i6 r.sec.1), .s (bo r.sec.2.1), .s (i6 r.sec.2.2.1), .s (Secret.slR r.sec.2.2.2), .s (bo r.flag)])] (Check_c r) ?_
 refine gS [] [] 13 [(1, vp 1 0), (4, vc (i6 (checkR r))), (8, vc (bo (!decide (checkR r = 0))))] [(1, AObj.row [.s (u8 r.kind), .s (i6 r.err), .s (i6 r.n), .s (st r.data), .s (AL.Fnv.slS r.names), .s (i6 r.sec.1), .s (bo r.sec.2.1), .s (i6 r.sec.2.2.1), .s (Secret.slR r.sec.2.2.2), .s (bo r.flag)])] trivial ?_
 refine gN (checkR r = 0) (fun hc1 => ?_) fun hc1 => ?_
 ·
  refine gS [] [] 13 [(2, vc (st [])), (3, vc (i6 (checkR r)))] [] trivial ?_
  exact gT (AV.tup [tc (st []), tc (i6 (checkR r))]) (by rw [show textS r = ([], checkR r) from by unfold textS; first | rw [if_pos hc1] | rw [if_neg hc1]])
 ·
  refine AMx.skip ?_
  refine gS [(1, CE.call [] [] (vc (AL.Fnv.slS (wordsS r))) []), (2, CE.call [] [] (vc (st (AL.Sep.joinC 32 (wordsS r)))) [])] [Spec Tryd.prog 21 [TV.agg [.s (u8 r.kind), .s (i6 r.err), .s (i6 r.n), .s (st r.data), .s (AL.Fnv.slS r.names), .s (i6 r.sec.1), .s (bo r.sec.2.1), .s (i6 r.sec.2.2.1), .s (Secret.slR r.sec.2.2.2), .s (bo r.flag)]] (ofH []) (vc (AL.Fnv.slS (wordsS r))) (ofH []), Spec Tryd.prog 20 [tc (AL.Fnv.slS (wordsS r)), tc (st [32])] (ofH []) (vc (st (AL.Sep.joinC 32 (wordsS r)))) (ofH [])] 13 [(2, vc (st (AL.Sep.joinC 32 (wordsS r)))), (3, vc (i6 0))] [] ⟨(words_c r hc1), (AL.Sep.Join_c 32 (wordsS r) (by first | omega | exact words_len hc1))⟩ ?_
  exact gT (AV.tup [tc (st (AL.Sep.joinC 32 (wordsS r))), tc (i6 0)]) (by rw [show textS r = (AL.Sep.joinC 32 (wordsS r), 0) from by unfold textS; first | rw [if_pos hc1] | rw [if_neg hc1]])
theorem f15_body : Tryd.f15.body = some (.seq (.region 0 (rg Tryd.f15 0) false) (.seq (.region 1 (rg Tryd.f15 1) false) (.seq (.seq (.region 2 (rg Tryd.f15 2) false) (.cond (.tmp 9) (.region 3 (rg Tryd.f15 3) false) (.skip))) (.seq (.region 4 (rg Tryd.f15 4) false) (.seq (.region 5 (rg Tryd.f15 5) false) (.ret)))))) := by kernel_rfl
set_option maxRecDepth 100000 in
set_option maxHeartbeats 8000000 in
theorem Of_c (e : Int) : Pure Tryd.prog 15 [tc (i6 e)] (vc (st (ofS e))) := by
 refine Pure.of_body Tryd.func15 f15_body (by kernel_rfl) Tryd.ntmps15 (by kernel_rfl) (by kernel_rfl) ?_
 refine gS [] [] 17 [(0, vc (i6 e))] [] trivial ?_
 refine gS [] [] 17 [(0, vc (i6 e)), (3, vp 3 0)] [(3, AObj.row [.s (u8 0), .s (i6 e), .s (i6 0), .s (st []), .s (SC.nilsl), .s (i6 0), .s (bo false), .s (i6 0), .s (SC.nilsl), .s (bo false)])] trivial ?_
 refine gQ ?_
 refine gS [] [] 17 [(3, vp 3 0), (9, vc (bo (decide (e = 0))))] [(3, AObj.row [.s (u8 0), .s (i6 e), .s (i6 0), .s (st []), .s (SC.nilsl), .s (i6 0), .s (bo false), .s (i6 0), .s (SC.nilsl), .s (bo false)])] trivial ?_
 refine gC (e = 0) (fun hc1 => ?_) fun hc1 => ?_
 ·
  refine gR [] [] 17 [(3, vp 3 0)] [(3, AObj.row [.s (u8 1), .s (i6 e), .s (i6 0), .s (st []), .s (SC.nilsl), .s (i6 0), .s (bo false), .s (i6 0), .s (SC.nilsl), .s (bo false)])] trivial ?_
  refine gS [(1, CE.call [] [] (AV.tup [tc (st ((textS (⟨1, e, 0, [], [], ((0, false, 0, []) : Secret.Sec), false⟩ : RepV)).1)), tc (i6 ((textS (⟨1, e, 0, [], [], ((0, false, 0, []) : Secret.Sec), false⟩ : RepV)).2))]) [])] [Spec Tryd.prog 8 [TV.agg [.s (u8 1), .s (i6 e), .s (i6 0), .s (st []), .s (SC.nilsl), .s (i6 0), .s (bo false), .s (i6 0), .s (SC.nilsl), .s (bo false)]] (ofH []) (AV.tup [tc (st ((textS (⟨1, e, 0, [], [], ((0, false, 0, []) : Secret.Sec), false⟩ : RepV)).1)), tc (i6 ((textS (⟨1, e, 0, [], [], ((0, false, 0, []) : Secret.Sec), false⟩ : RepV)).2))]) (ofH [])] 17 [(4, vc (st ((textS (⟨1, e, 0, [], [], ((0, false, 0, []) : Secret.Sec), false⟩ : RepV)).1)))] [] (Spec.weak (args' := [TV.agg [.s (u8 1), .s (i6 e), .s (i6 0), .s (st []), .s (AL.Fnv.slS []), .s (i6 0), .s (bo false), .s (i6 0), .s (Secret.slR []), .s (bo false)]]) ⟨(TV.le_agg (l := [.s (u8 1), .s (i6 e), .s (i6 0), .s (st []), .s (SC.nilsl), .s (i6 0), .s (bo false), .s (i6 0), .s (SC.nilsl), .s (bo false)]) (m := [.s (u8 ((⟨1, e, 0, [], [], ((0, false, 0, []) : Secret.Sec), false⟩ : RepV).kind)), .s (i6 ((⟨1, e, 0, [], [], ((0, false, 0, []) : Secret.Sec), false⟩ : RepV).err)), .s (i6 ((⟨1, e, 0, [], [], ((0, false, 0, []) : Secret.Sec), false⟩ : RepV).n)), .s (st ((⟨1, e, 0, [], [], ((0, false, 0, []) : Secret.Sec), false⟩ : RepV).data)), .s (AL.Fnv.slS ((⟨1, e, 0, [], [], ((0, false, 0, []) : Secret.Sec), false⟩ : RepV).names)), .s (i6 (((⟨1, e, 0, [], [], ((0, false, 0, []) : Secret.Sec), false⟩ : RepV).sec).1)), .s (bo (((⟨1, e, 0, [], [], ((0, false, 0, []) : Secret.Sec), false⟩ : RepV).sec).2.1)), .s (i6 (((⟨1, e, 0, [], [], ((0, false, 0, []) : Secret.Sec), false⟩ : RepV).sec).2.2.1)), .s (Secret.slR (((⟨1, e, 0, [], [], ((0, false, 0, []) : Secret.Sec), false⟩ : RepV).sec).2.2.2)), .s (bo ((⟨1, e, 0, [], [], ((0, false, 0, []) : Secret.Sec), false⟩ : RepV).flag))]) ⟨AC.le_rfl, AC.le_rfl, AC.le_rfl, AC.le_rfl, AC.le_nil, AC.le_rfl, AC.le_rfl, AC.le_rfl, AC.le_nil, AC.le_rfl, trivial⟩), trivial⟩ (Text_c (⟨1, e, 0, [], [], ((0, false, 0, []) : Secret.Sec), false⟩ : RepV))) ?_
  refine gS [] [] 17 [(2, vc (st ((textS (⟨1, e, 0, [], [], ((0, false, 0, []) : Secret.Sec), false⟩ : RepV)).1)))] [] trivial ?_
  exact gT (vc (st ((textS (⟨1, e, 0, [], [], ((0, false, 0, []) : Secret.Sec), false⟩ : RepV)).1))) (by unfold ofS; first | rw [if_pos hc1] | rw [if_neg hc1])
 ·
  refine AMx.skip ?_
  refine gS [(1, CE.call [] [] (AV.tup [tc (st ((textS (⟨0, e, 0, [], [], ((0, false, 0, []) : Secret.Sec), false⟩ : RepV)).1)), tc (i6 ((textS (⟨0, e, 0, [], [], ((0, false, 0, []) : Secret.Sec), false⟩ : RepV)).2))]) [])] [Spec Tryd.prog 8 [TV.agg [.s (u8 0), .s (i6 e), .s (i6 0), .s (st []), .s (SC.nilsl), .s (i6 0), .s (bo false), .s (i6 0), .s (SC.nilsl), .s (bo false)]] (ofH []) (AV.tup [tc (st ((textS (⟨0, e, 0, [], [], ((0, false, 0, []) : Secret.Sec), false⟩ : RepV)).1)), tc (i6 ((textS (⟨0, e, 0, [], [], ((0, false, 0, []) : Secret.Sec), false⟩ : RepV)).2))]) (ofH [])] 17 [(4, vc (st ((textS (⟨0, e, 0, [], [], ((0, false, 0, []) : Secret.Sec), false⟩ : RepV)).1)))] [] (Spec.weak (args' := [TV.agg [.s (u8 0), .s (i6 e), .s (i6 0), .s (st []), .s (AL.Fnv.slS []), .s (i6 0), .s (bo false), .s (i6 0), .s (Secret.slR []), .s (bo false)]]) ⟨(TV.le_agg (l := [.s (u8 0), .s (i6 e), .s (i6 0), .s (st []), .s (SC.nilsl), .s (i6 0), .s (bo false), .s (i6 0), .s (SC.nilsl), .s (bo false)]) (m := [.s (u8 ((⟨0, e, 0, [], [], ((0, false, 0, []) : Secret.Sec), false⟩ : RepV).kind)), .s (i6 ((⟨0, e, 0, [], [], ((0, false, 0, []) : Secret.Sec), false⟩ : RepV).err)), .s (i6 ((⟨0, e, 0, [], [], ((0, false, 0, []) : Secret.Sec), false⟩ : RepV).n)), .s (st ((⟨0, e, 0, [], [], ((0, false, 0, []) : Secret.Sec), false⟩ : RepV).data)), .s (AL.Fnv.slS ((⟨0, e, 0, [], [], ((0, false, 0, []) : Secret.Sec), false⟩ : RepV).names)), .s (i6 (((⟨0, e, 0, [], [], ((0, false, 0, []) : Secret.Sec), false⟩ : RepV).sec).1)), .s (bo (((⟨0, e, 0, [], [], ((0, false, 0, []) : Secret.Sec), false⟩ : RepV).sec).2.1)), .s (i6 (((⟨0, e, 0, [], [], ((0, false, 0, []) : Secret.Sec), false⟩ : RepV).sec).2.2.1)), .s (Secret.slR (((⟨0, e, 0, [], [], ((0, false, 0, []) : Secret.Sec), false⟩ : RepV).sec).2.2.2)), .s (bo ((⟨0, e, 0, [], [], ((0, false, 0, []) : Secret.Sec), false⟩ : RepV).flag))]) ⟨AC.le_rfl, AC.le_rfl, AC.le_rfl, AC.le_rfl, AC.le_nil, AC.le_rfl, AC.le_rfl, AC.le_rfl, AC.le_nil, AC.le_rfl, trivial⟩), trivial⟩ (Text_c (⟨0, e, 0, [], [], ((0, false, 0, []) : Secret.Sec), false⟩ : RepV))) ?_
  refine gS [] [] 17 [(2, vc (st ((textS (⟨0, e, 0, [], [], ((0, false, 0, []) : Secret.Sec), false⟩ : RepV)).1)))] [] trivial ?_
  exact gT (vc (st ((textS (⟨0, e, 0, [], [], ((0, false, 0, []) : Secret.Sec), false⟩ : RepV)).1))) (by unfold ofS; first | rw [if_pos hc1] | rw [if_neg hc1])
theorem f25_body : Tryd.f25.body = some (.seq (.region 0 (rg Tryd.f25 0) false) (.seq (.seq (.region 1 (rg Tryd.f25 1) false) (.cond (.tmp 3) (.seq (.region 2 (rg Tryd.f25 2) false) (.ret)) (.skip))) (.seq (.region 3 (rg Tryd.f25 3) false) (.ret)))) := by kernel_rfl
set_option maxRecDepth 100000 in
set_option maxHeartbeats 8000000 in
theorem Rflag_c (b : Bool) : Pure Tryd.prog 25 [tc (bo b)] (vc (st (bitS b))) := by
 refine Pure.of_body Tryd.func25 f25_body (by kernel_rfl) Tryd.ntmps25 (by kernel_rfl) (by kernel_rfl) ?_
 refine gS [] [] 4 [(0, vc (bo b))] [] trivial ?_
 refine gQ ?_
 refine gS [] [] 4 [(3, vc (bo b))] [] trivial ?_
 refine gB (b) (fun hc1 => ?_) fun hc1 => ?_
 ·
  try simp only [xT, xF] at hc1
  refine gS [] [] 4 [(2, vc (st [49]))] [] trivial ?_
  exact gT (vc (st [49])) (by rw [hc1]; rfl)
 ·
  try simp only [xT, xF] at hc1
  refine AMx.skip ?_
  refine gS [] [] 4 [(2, vc (st [48]))] [] trivial ?_
  exact gT (vc (st [48])) (by rw [hc1]; rfl)
theorem f23_body : Tryd.f23.body = some (.seq (.region 0 (rg Tryd.f23 0) false) (.seq (.seq (.region 1 (rg Tryd.f23 1) false) (.cond (.tmp 4) (.seq (.region 2 (rg Tryd.f23 2) false) (.ret)) (.skip))) (.seq (.region 3 (rg Tryd.f23 3) false) (.ret)))) := by kernel_rfl
set_option maxRecDepth 100000 in
set_option maxHeartbeats 8000000 in
theorem Rnumber_s (n : Int) (h0 : 0 ≤ n) (h1 : n ≤ 999) (hr : ¬ n < 10 → Pure Tryd.prog 23 [tc (i6 (Int.tdiv n 10))] (vc (st (numS (Int.tdiv n 10)))) ∧ Pure Tryd.prog 23 [tc (i6 (Int.tmod n 10))] (vc (st (numS (Int.tmod n 10))))) : Pure Tryd.prog 23 [tc (i6 n)] (vc (st (numS n))) := by
 refine Pure.of_body Tryd.func23 f23_body (by kernel_rfl) Tryd.ntmps23 (by kernel_rfl) (by kernel_rfl) ?_
 refine gS [] [] 17 [(0, vc (i6 n))] [] trivial ?_
 refine gQ ?_
 refine gS [] [] 17 [(0, vc (i6 n)), (4, vc (bo (decide (n < 10))))] [] trivial ?_
 refine gC (n < 10) (fun hc1 => ?_) fun hc1 => ?_
 ·
  refine gS [(3, CE.obj (AObj.grow 5 1 UInt8 0 rowU8 [dg n])), (4, CE.str [dg n])] [InR .i64 (48 + n), flat 1 rowU8 [dg n] = [.s (u8 (IntKind.wrap .u8 (48 + n)))], List.length ([dg n] : List UInt8) = 1, flat 1 rowU8 [dg n] = flat 1 rowU8 [dg n], List.length ([dg n] : List UInt8) = List.length ([dg n] : List UInt8), (List.length ([dg n] : List UInt8) : Int) ≤ 140737488355328] 17 [(2, vc (st [dg n]))] [] ⟨(show InR .i64 (48 + n) from (inR64 (by first | omega | (have ht := tdiv_10 (n := n) h0; have hm := tmod_10 (n := n) h0; have hl := num_le3 (Int.tdiv n 10); have hl2 := num_le3 (Int.tmod n 10); first | omega | ((try simp only [List.length_append, List.length_cons, List.length_nil]); omega))) (by first | omega | (have ht := tdiv_10 (n := n) h0; have hm := tmod_10 (n := n) h0; have hl := num_le3 (Int.tdiv n 10); have hl2 := num_le3 (Int.tmod n 10); first | omega | ((try simp only [List.length_append, List.length_cons, List.length_nil]); omega))))), (one_dr (by omega) (by omega)), rfl, rfl, rfl, (show (List.length ([dg n] : List UInt8) : Int) ≤ 140737488355328 from (by first | omega | (have ht := tdiv_10 (n := n) h0; have hm := tmod_10 (n := n) h0; have hl := num_le3 (Int.tdiv n 10); have hl2 := num_le3 (Int.tmod n 10); first | omega | ((try simp only [List.length_append, List.length_cons, List.length_nil]); omega))))⟩ ?_
  exact gT (vc (st [dg n])) (by first | rw [Ask.numr_1 (by assumption)] | rw [num_two h0 h1 (by assumption)])
 ·
  refine AMx.skip ?_
  refine gS [(2, CE.call [] [] (vc (st (numS (Int.tdiv n 10)))) []), (5, CE.call [] [] (vc (st (numS (Int.tmod n 10)))) [])] [(10 : Int) ≠ 0, InR .i64 (Int.tdiv n 10), Spec Tryd.prog 23 [tc (i6 (Int.tdiv n 10))] (ofH []) (vc (st (numS (Int.tdiv n 10)))) (ofH []), (10 : Int) ≠ 0, Spec Tryd.prog 23 [tc (i6 (Int.tmod n 10))] (ofH []) (vc (st (numS (Int.tmod n 10)))) (ofH []), List.length (numS (Int.tdiv n 10) : List UInt8) + List.length (numS (Int.tmod n 10) : List UInt8) ≤ maxLen] 17 [(2, vc (st ((numS (Int.tdiv n 10)) ++ (numS (Int.tmod n 10)))))] [] ⟨(show (10 : Int) ≠ 0 from (by first | omega | (have ht := tdiv_10 (n := n) h0; have hm := tmod_10 (n := n) h0; have hl := num_le3 (Int.tdiv n 10); have hl2 := num_le3 (Int.tmod n 10); first | omega | ((try simp only [List.length_append, List.length_cons, List.length_nil]); omega)))), (show InR .i64 (Int.tdiv n 10) from (inR64 (by first | omega | (have ht := tdiv_10 (n := n) h0; have hm := tmod_10 (n := n) h0; have hl := num_le3 (Int.tdiv n 10); have hl2 := num_le3 (Int.tmod n 10); first | omega | ((try simp only [List.length_append, List.length_cons, List.length_nil]); omega))) (by first | omega | (have ht := tdiv_10 (n := n) h0; have hm := tmod_10 (n := n) h0; have hl := num_le3 (Int.tdiv n 10); have hl2 := num_le3 (Int.tmod n 10); first | omega | ((try simp only [List.length_append, List.length_cons, List.length_nil]); omega))))), ((hr hc1).1), (show (10 : Int) ≠ 0 from (by first | omega | (have ht := tdiv_10 (n := n) h0; have hm := tmod_10 (n := n) h0; have hl := num_le3 (Int.tdiv n 10); have hl2 := num_le3 (Int.tmod n 10); first | omega | ((try simp only [List.length_append, List.length_cons, List.length_nil]); omega)))), ((hr hc1).2), (show List.length (numS (Int.tdiv n 10) : List UInt8) + List.length (numS (Int.tmod n 10) : List UInt8) ≤ maxLen from (by simp only [List.length_append, List.length_cons, List.length_nil, maxLen]; first | omega | (first | omega | (have ht := tdiv_10 (n := n) h0; have hm := tmod_10 (n := n) h0; have hl := num_le3 (Int.tdiv n 10); have hl2 := num_le3 (Int.tmod n 10); first | omega | ((try simp only [List.length_append, List.length_cons, List.length_nil]); omega)))))⟩ ?_
  exact gT (vc (st ((numS (Int.tdiv n 10)) ++ (numS (Int.tmod n 10))))) (by first | rw [Ask.numr_1 (by assumption)] | rw [num_two h0 h1 (by assumption)])
theorem Rnumber_1 (n : Int) (h0 : 0 ≤ n) (h1 : n < 10) : Pure Tryd.prog 23 [tc (i6 (n))] (vc (st (numS (n)))) := Rnumber_s n h0 (by omega) fun h => absurd h1 h
theorem Rnumber_2 (n : Int) (h0 : 0 ≤ n) (h1 : n < 100) : Pure Tryd.prog 23 [tc (i6 (n))] (vc (st (numS (n)))) := Rnumber_s n h0 (by omega) fun h => by
  have e := tdiv_10 (n := n) h0
  have e2 := tmod_10 (n := n) h0
  exact ⟨Rnumber_1 _ (by omega) (by omega), Rnumber_1 _ (by omega) (by omega)⟩
theorem Rnumber_c (n : Int) (h0 : 0 ≤ n) (h1 : n ≤ 999) : Pure Tryd.prog 23 [tc (i6 (n))] (vc (st (numS (n)))) := Rnumber_s n h0 h1 fun h => by
  have e := tdiv_10 (n := n) h0
  have e2 := tmod_10 (n := n) h0
  exact ⟨Rnumber_2 _ (by omega) (by omega), Rnumber_1 _ (by omega) (by omega)⟩
theorem f67_body : Tryd.f67.body = some (.seq (.region 0 (rg Tryd.f67 0) false) (.seq (.region 1 (rg Tryd.f67 1) false) (.seq (.seq (.region 2 (rg Tryd.f67 2) false) (.block 0 (.loop (.seq (.seq (.region 3 (rg Tryd.f67 3) false) (.cond (.tmp 12) (.skip) (.exit 0))) (.seq (.block 1 (.region 5 (rg Tryd.f67 5) false)) (.region 4 (rg Tryd.f67 4) false)))))) (.seq (.seq (.region 6 (rg Tryd.f67 6) false) (.cond (.tmp 34) (.seq (.region 7 (rg Tryd.f67 7) false) (.ret)) (.skip))) (.seq (.region 8 (rg Tryd.f67 8) false) (.ret)))))) := by kernel_rfl
set_option maxRecDepth 100000 in
set_option maxHeartbeats 8000000 in
theorem Rscan_c (s : Bytes) : Pure Tryd.prog 67 [tc (st s)] (vc (i6 (scanN s))) := by
 refine Pure.of_body Tryd.func67 f67_body (by kernel_rfl) Tryd.ntmps67 (by kernel_rfl) (by kernel_rfl) ?_
 refine gS [] [] 36 [(0, vc (st s))] [] trivial ?_
 refine gS [] [] 36 [(0, vc (st s)), (3, vc (i6 0))] [] trivial ?_
 refine gQ ?_
 refine gS [] [] 36 [(0, vc (st s)), (3, vc (i6 0)), (4, vc (i6 0))] [] trivial ?_
 refine AMx.block ?_
 refine AMx.ent (s' := AS.lst 36 [(0, vc (st s)), (3, vc (i6 0)), (4, vc (i6 0))] []) (ent_proj [0, 3, 4] []) ?_
 refine AMx.loop (fun mm ss => ∃ (i : Nat), (i ≤ s.length ∧ i ≤ 4) ∧ mm = 4 - i ∧ ss = AS.lst 36 [(0, vc (st s)), (3, vc (i6 (valS (List.take i s)))), (4, vc (i6 (i : Int)))] []) ⟨0, ?_, rfl, ?_⟩ ?_
 · omega
 · rfl
 rintro mm ss ⟨i, hI, rfl, rfl⟩
 refine gQ ?_
 refine gS [] [((decide ((i : Int) < (List.length s : Int))) = true) → allP [], ((decide ((i : Int) < (List.length s : Int))) = true) → allP [(decide ((i : Int) < (List.length s : Int))) = true], (decide ((i : Int) < (List.length s : Int))) = true → allP [(decide ((i : Int) < (List.length s : Int))) = true]] 36 [(0, vc (st s)), (3, vc (i6 (valS (List.take i s)))), (4, vc (i6 (i : Int))), (12, vc (bo ((decide ((i : Int) < (List.length s : Int))) && (decide ((i : Int) < 4)))))] [] ⟨(fun _ => trivial), (fun hp => hp), (fun hp2 => (by first | exact hp2 | exact ⟨hp, hp2⟩))⟩ ?_
 refine gB (((decide ((i : Int) < (List.length s : Int))) && (decide ((i : Int) < 4)))) (fun hc1 => ?_) fun hc1 => ?_
 ·
  try simp only [xT, xF, xA, xB] at hc1
  refine AMx.skip ?_
  refine gQ ?_
  refine AMx.block ?_
  refine gR [] [InR .i64 (10 * (valS (List.take i s))), (0 : Int) ≤ (i : Int), (i : Int) < List.length s, InR .i64 ((10 * (valS (List.take i s))) + ((List.getD s i 0).toNat : Int)), InR .i64 (((10 * (valS (List.take i s))) + ((List.getD s i 0).toNat : Int)) - 48)] 36 [(0, vc (st s)), (3, vc (i6 (((10 * (valS (List.take i s))) + ((List.getD s i 0).toNat : Int)) - 48))), (4, vc (i6 (i : Int)))] [] ⟨(show InR .i64 (10 * (valS (List.take i s))) from (inR64 (by first | omega | (have hv := val_bound s i (by omega); have hb := UInt8.toNat_lt (List.getD s i 0); omega) | (have hv := val_bound s 4 (by omega); omega)) (by first | omega | (have hv := val_bound s i (by omega); have hb := UInt8.toNat_lt (List.getD s i 0); omega) | (have hv := val_bound s 4 (by omega); omega)))), (show (0 : Int) ≤ (i : Int) from (by first | omega | (have hv := val_bound s i (by omega); have hb := UInt8.toNat_lt (List.getD s i 0); omega) | (have hv := val_bound s 4 (by omega); omega))), (show (i : Int) < List.length s from (by first | omega | (have hv := val_bound s i (by omega); have hb := UInt8.toNat_lt (List.getD s i 0); omega) | (have hv := val_bound s 4 (by omega); omega))), (show InR .i64 ((10 * (valS (List.take i s))) + ((List.getD s i 0).toNat : Int)) from (inR64 (by first | omega | (have hv := val_bound s i (by omega); have hb := UInt8.toNat_lt (List.getD s i 0); omega) | (have hv := val_bound s 4 (by omega); omega)) (by first | omega | (have hv := val_bound s i (by omega); have hb := UInt8.toNat_lt (List.getD s i 0); omega) | (have hv := val_bound s 4 (by omega); omega)))), (show InR .i64 (((10 * (valS (List.take i s))) + ((List.getD s i 0).toNat : Int)) - 48) from (inR64 (by first | omega | (have hv := val_bound s i (by omega); have hb := UInt8.toNat_lt (List.getD s i 0); omega) | (have hv := val_bound s 4 (by omega); omega)) (by first | omega | (have hv := val_bound s i (by omega); have hb := UInt8.toNat_lt (List.getD s i 0); omega) | (have hv := val_bound s 4 (by omega); omega))))⟩ ?_
  refine AMx.blk ?_
  refine gR [] [InR .i64 ((i : Int) + 1)] 36 [(0, vc (st s)), (3, vc (i6 (((10 * (valS (List.take i s))) + ((List.getD s i 0).toNat : Int)) - 48))), (4, vc (i6 ((i : Int) + 1)))] [] (show InR .i64 ((i : Int) + 1) from (inR64 (by first | omega | (have hv := val_bound s i (by omega); have hb := UInt8.toNat_lt (List.getD s i 0); omega) | (have hv := val_bound s 4 (by omega); omega)) (by first | omega | (have hv := val_bound s i (by omega); have hb := UInt8.toNat_lt (List.getD s i 0); omega) | (have hv := val_bound s 4 (by omega); omega)))) ?_
  refine AMx.ent_inv (s' := AS.lst 36 [(0, vc (st s)), (3, vc (i6 (((10 * (valS (List.take i s))) + ((List.getD s i 0).toNat : Int)) - 48))), (4, vc (i6 ((i : Int) + 1)))] []) (ent_proj [0, 3, 4] []) ?_
  refine AMx.inv ⟨_, ?_, i + 1, ?_, rfl, ?_⟩
  rotate_left
  · omega
  · rw [← Ask.valr_step (by omega)]; rfl
  · omega
 ·
  try simp only [xT, xF, xA, xB] at hc1
  refine AMx.exit ?_
  refine AMx.code_exit ?_
  refine AMx.inv_exit ?_
  refine AMx.blk_exit ?_
  rw [show List.take i s = List.take 4 s from take_4 (by omega)]
  refine gQ ?_
  refine gS [(8, CE.call [] [] (vc (st (numS (valS (List.take 4 s))))) [])] [((decide (valS (List.take 4 s) < 0)) = false) → allP [], ((decide (valS (List.take 4 s) < 0)) = false) → allP [(decide (valS (List.take 4 s) < 0)) = false], (decide (valS (List.take 4 s) < 0)) = false → allP [(decide (valS (List.take 4 s) < 0)) = false], (((decide (valS (List.take 4 s) < 0)) || (decide (999 < valS (List.take 4 s)))) = false) → allP [], (((decide (valS (List.take 4 s) < 0)) || (decide (999 < valS (List.take 4 s)))) = false) → allP [((decide (valS (List.take 4 s) < 0)) || (decide (999 < valS (List.take 4 s)))) = false, Spec Tryd.prog 23 [tc (i6 (valS (List.take 4 s)))] (ofH []) (vc (st (numS (valS (List.take 4 s))))) (ofH [])], (((decide (valS (List.take 4 s) < 0)) || (decide (999 < valS (List.take 4 s)))) = false) → allP [], (((decide (valS (List.take 4 s) < 0)) || (decide (999 < valS (List.take 4 s)))) = false) → allP [((decide (valS (List.take 4 s) < 0)) || (decide (999 < valS (List.take 4 s)))) = false, ((decide (valS (List.take 4 s) < 0)) || (decide (999 < valS (List.take 4 s)))) = false], ((decide (valS (List.take 4 s) < 0)) || (decide (999 < valS (List.take 4 s)))) = false → allP [((decide (valS (List.take 4 s) < 0)) || (decide (999 < valS (List.take 4 s)))) = false]] 36 [(3, vc (i6 (valS (List.take 4 s)))), (34, vc (bo (((decide (valS (List.take 4 s) < 0)) || (decide (999 < valS (List.take 4 s)))) || (!decide (numS (valS (List.take 4 s)) = s)))))] [] ⟨(fun _ => trivial), (fun hp => hp), (fun hp2 => (by first | exact hp2 | exact ⟨hp, hp2⟩)), (fun _ => trivial), (fun hp => by have hq := hp; (try simp only [decide_eq_true_eq, decide_eq_false_iff_not, Bool.and_eq_true, Bool.or_eq_true, Bool.and_eq_false_iff, Bool.or_eq_false_iff, Bool.not_eq_true', Bool.not_eq_false', Bool.not_eq_true, Bool.not_eq_false] at hq); exact ⟨hp, (Rnumber_c (valS (List.take 4 s)) (by first | omega | (have hv := val_bound s i (by omega); have hb := UInt8.toNat_lt (List.getD s i 0); omega) | (have hv := val_bound s 4 (by omega); omega)) (by first | omega | (have hv := val_bound s i (by omega); have hb := UInt8.toNat_lt (List.getD s i 0); omega) | (have hv := val_bound s 4 (by omega); omega)))⟩), (fun _ => trivial), (fun hp => ⟨hp, hp⟩), (fun hp2 => (by first | exact hp2 | exact ⟨hp, hp2⟩))⟩ ?_
  refine gB ((((decide (valS (List.take 4 s) < 0)) || (decide (999 < valS (List.take 4 s)))) || (!decide (numS (valS (List.take 4 s)) = s)))) (fun hc2 => ?_) fun hc2 => ?_
  ·
   try simp only [xT, xF, xO, xP, xN, xM] at hc2
   refine gS [] [] 36 [(2, vc (i6 (-1)))] [] trivial ?_
   exact gT (vc (i6 (-1))) (by rw [show scanN s = (-1) from by first | rw [scan4_no (by assumption)] | rw [scan4_yes hc2.1.1 hc2.1.2 hc2.2]])
  ·
   try simp only [xT, xF, xO, xP, xN, xM] at hc2
   refine AMx.skip ?_
   refine gS [] [] 36 [(2, vc (i6 (valS (List.take 4 s))))] [] trivial ?_
   exact gT (vc (i6 (valS (List.take 4 s)))) (by rw [show scanN s = valS (List.take 4 s) from by first | rw [scan4_no (by assumption)] | rw [scan4_yes hc2.1.1 hc2.1.2 hc2.2]])
theorem f69_body : Tryd.f69.body = some (.seq (.region 0 (rg Tryd.f69 0) false) (.seq (.region 1 (rg Tryd.f69 1) false) (.seq (.seq (.region 2 (rg Tryd.f69 2) false) (.cond (.tmp 14) (.seq (.region 3 (rg Tryd.f69 3) false) (.region 4 (rg Tryd.f69 4) false)) (.skip))) (.seq (.seq (.region 5 (rg Tryd.f69 5) false) (.cond (.tmp 31) (.seq (.region 6 (rg Tryd.f69 6) false) (.region 7 (rg Tryd.f69 7) false)) (.skip))) (.seq (.region 8 (rg Tryd.f69 8) false) (.seq (.region 9 (rg Tryd.f69 9) false) (.ret))))))) := by kernel_rfl
set_option maxRecDepth 100000 in
set_option maxHeartbeats 8000000 in
theorem Rrow_c (s : Bytes) : Pure Tryd.prog 69 [tc (st s)] (AV.t (TV.agg [.s (i6 ((rowW s).1)), .s (bo ((rowW s).2.1)), .s (bo ((rowW s).2.2))])) := by
 refine Pure.of_body Tryd.func69 f69_body (by kernel_rfl) Tryd.ntmps69 (by kernel_rfl) (by kernel_rfl) ?_
 refine AMx.str 0 (b := s) rfl (fun hls => ?_)
 simp only [maxLen] at hls
 refine gS [] [] 42 [(0, vc (st s)), (2, vp 2 0)] [(2, AObj.row [.s (i6 0), .s (bo false), .s (bo false)])] trivial ?_
 refine gS [] [] 42 [(0, vc (st s)), (2, vp 2 0), (3, vp 3 0)] [(2, AObj.row [.s (i6 0), .s (bo false), .s (bo false)]), (3, AObj.row [.s (i6 0), .s (bo false), .s (bo false)])] trivial ?_
 refine gQ ?_
 refine gS [] [((decide (0 < (List.length s : Int))) = true) → allP [], ((decide (0 < (List.length s : Int))) = true) → allP [], ((decide (0 < (List.length s : Int))) = true) → allP [(decide (0 < (List.length s : Int))) = true], ((decide (0 < (List.length s : Int))) = true) → allP [(decide (0 < (List.length s : Int))) = true, InR .i64 ((List.length s : Int) - 1)], ((decide (0 < (List.length s : Int))) = true) → allP [(decide (0 < (List.length s : Int))) = true, (decide (0 < (List.length s : Int))) = true, (0 : Int) ≤ (List.length s : Int) - 1, (List.length s : Int) - 1 < List.length s], ((decide (0 < (List.length s : Int))) = true) → allP [(decide (0 < (List.length s : Int))) = true], (decide (0 < (List.length s : Int))) = true → allP [(decide (0 < (List.length s : Int))) = true]] 42 [(0, vc (st s)), (2, vp 2 0), (3, vp 3 0), (14, vc (bo ((decide (0 < (List.length s : Int))) && (decide (((List.getD s ((List.length s : Int) - 1).toNat 0).toNat : Int) = 35)))))] [(2, AObj.row [.s (i6 0), .s (bo false), .s (bo false)]), (3, AObj.row [.s (i6 0), .s (bo false), .s (bo false)])] ⟨(fun _ => trivial), (fun _ => trivial), (fun hp => hp), (fun hp => by have hq := hp; (try simp only [decide_eq_true_eq, decide_eq_false_iff_not, Bool.and_eq_true, Bool.or_eq_true, Bool.and_eq_false_iff, Bool.or_eq_false_iff, Bool.not_eq_true', Bool.not_eq_false', Bool.not_eq_true, Bool.not_eq_false] at hq); exact ⟨hp, (show InR .i64 ((List.length s : Int) - 1) from (inR64 (by first | omega | ((try simp only [List.length_take]); omega)) (by first | omega | ((try simp only [List.length_take]); omega))))⟩), (fun hp => by have hq := hp; (try simp only [decide_eq_true_eq, decide_eq_false_iff_not, Bool.and_eq_true, Bool.or_eq_true, Bool.and_eq_false_iff, Bool.or_eq_false_iff, Bool.not_eq_true', Bool.not_eq_false', Bool.not_eq_true, Bool.not_eq_false] at hq); exact ⟨hp, hp, (show (0 : Int) ≤ (List.length s : Int) - 1 from (by first | omega | ((try simp only [List.length_take]); omega))), (show (List.length s : Int) - 1 < List.length s from (by first | omega | ((try simp only [List.length_take]); omega)))⟩), (fun hp => hp), (fun hp2 => (by first | exact hp2 | exact ⟨hp, hp2⟩))⟩ ?_
 refine gB (((decide (0 < (List.length s : Int))) && (decide (((List.getD s ((List.length s : Int) - 1).toNat 0).toNat : Int) = 35)))) (fun hc1 => ?_) fun hc1 => ?_
 ·
  try simp only [xT, xF, xA, xB] at hc1
  refine gS [] [] 42 [(0, vc (st s)), (2, vp 2 0), (3, vp 3 0)] [(2, AObj.row [.s (i6 0), .s (bo false), .s (bo false)]), (3, AObj.row [.s (i6 0), .s (bo false), .s (bo true)])] trivial ?_
  refine gR [] [InR .i64 ((List.length s : Int) - 1), 0 ≤ (List.length s : Int) - 1, (List.length s : Int) - 1 ≤ List.length s] 42 [(0, vc (st (List.take ((List.length s : Int) - 1).toNat s))), (2, vp 2 0), (3, vp 3 0)] [(2, AObj.row [.s (i6 0), .s (bo false), .s (bo false)]), (3, AObj.row [.s (i6 0), .s (bo false), .s (bo true)])] ⟨(show InR .i64 ((List.length s : Int) - 1) from (inR64 (by first | omega | ((try simp only [List.length_take]); omega)) (by first | omega | ((try simp only [List.length_take]); omega)))), (show 0 ≤ (List.length s : Int) - 1 from (by first | omega | ((try simp only [List.length_take]); omega))), (show (List.length s : Int) - 1 ≤ List.length s from (by first | omega | ((try simp only [List.length_take]); omega)))⟩ ?_
  refine gQ ?_
  refine gS [] [((decide (0 < (List.length (List.take ((List.length s : Int) - 1).toNat s : List UInt8) : Int))) = true) → allP [], ((decide (0 < (List.length (List.take ((List.length s : Int) - 1).toNat s : List UInt8) : Int))) = true) → allP [], ((decide (0 < (List.length (List.take ((List.length s : Int) - 1).toNat s : List UInt8) : Int))) = true) → allP [(decide (0 < (List.length (List.take ((List.length s : Int) - 1).toNat s : List UInt8) : Int))) = true], ((decide (0 < (List.length (List.take ((List.length s : Int) - 1).toNat s : List UInt8) : Int))) = true) → allP [(decide (0 < (List.length (List.take ((List.length s : Int) - 1).toNat s : List UInt8) : Int))) = true, InR .i64 ((List.length (List.take ((List.length s : Int) - 1).toNat s : List UInt8) : Int) - 1)], ((decide (0 < (List.length (List.take ((List.length s : Int) - 1).toNat s : List UInt8) : Int))) = true) → allP [(decide (0 < (List.length (List.take ((List.length s : Int) - 1).toNat s : List UInt8) : Int))) = true, (decide (0 < (List.length (List.take ((List.length s : Int) - 1).toNat s : List UInt8) : Int))) = true, (0 : Int) ≤ (List.length (List.take ((List.length s : Int) - 1).toNat s : List UInt8) : Int) - 1, (List.length (List.take ((List.length s : Int) - 1).toNat s : List UInt8) : Int) - 1 < List.length (List.take ((List.length s : Int) - 1).toNat s : List UInt8)], ((decide (0 < (List.length (List.take ((List.length s : Int) - 1).toNat s : List UInt8) : Int))) = true) → allP [(decide (0 < (List.length (List.take ((List.length s : Int) - 1).toNat s : List UInt8) : Int))) = true], (decide (0 < (List.length (List.take ((List.length s : Int) - 1).toNat s : List UInt8) : Int))) = true → allP [(decide (0 < (List.length (List.take ((List.length s : Int) - 1).toNat s : List UInt8) : Int))) = true]] 42 [(0, vc (st (List.take ((List.length s : Int) - 1).toNat s))), (2, vp 2 0), (3, vp 3 0), (31, vc (bo ((decide (0 < (List.length (List.take ((List.length s : Int) - 1).toNat s : List UInt8) : Int))) && (decide (((List.getD (List.take ((List.length s : Int) - 1).toNat s) ((List.length (List.take ((List.length s : Int) - 1).toNat s : List UInt8) : Int) - 1).toNat 0).toNat : Int) = 33)))))] [(2, AObj.row [.s (i6 0), .s (bo false), .s (bo false)]), (3, AObj.row [.s (i6 0), .s (bo false), .s (bo true)])] ⟨(fun _ => trivial), (fun _ => trivial), (fun hp => hp), (fun hp => by have hq := hp; (try simp only [decide_eq_true_eq, decide_eq_false_iff_not, Bool.and_eq_true, Bool.or_eq_true, Bool.and_eq_false_iff, Bool.or_eq_false_iff, Bool.not_eq_true', Bool.not_eq_false', Bool.not_eq_true, Bool.not_eq_false] at hq); exact ⟨hp, (show InR .i64 ((List.length (List.take ((List.length s : Int) - 1).toNat s : List UInt8) : Int) - 1) from (inR64 (by first | omega | ((try simp only [List.length_take]); omega)) (by first | omega | ((try simp only [List.length_take]); omega))))⟩), (fun hp => by have hq := hp; (try simp only [decide_eq_true_eq, decide_eq_false_iff_not, Bool.and_eq_true, Bool.or_eq_true, Bool.and_eq_false_iff, Bool.or_eq_false_iff, Bool.not_eq_true', Bool.not_eq_false', Bool.not_eq_true, Bool.not_eq_false] at hq); exact ⟨hp, hp, (show (0 : Int) ≤ (List.length (List.take ((List.length s : Int) - 1).toNat s : List UInt8) : Int) - 1 from (by first | omega | ((try simp only [List.length_take]); omega))), (show (List.length (List.take ((List.length s : Int) - 1).toNat s : List UInt8) : Int) - 1 < List.length (List.take ((List.length s : Int) - 1).toNat s : List UInt8) from (by first | omega | ((try simp only [List.length_take]); omega)))⟩), (fun hp => hp), (fun hp2 => (by first | exact hp2 | exact ⟨hp, hp2⟩))⟩ ?_
  refine gB (((decide (0 < (List.length (List.take ((List.length s : Int) - 1).toNat s : List UInt8) : Int))) && (decide (((List.getD (List.take ((List.length s : Int) - 1).toNat s) ((List.length (List.take ((List.length s : Int) - 1).toNat s : List UInt8) : Int) - 1).toNat 0).toNat : Int) = 33)))) (fun hc2 => ?_) fun hc2 => ?_
  ·
   try simp only [xT, xF, xA, xB] at hc2
   refine gS [] [] 42 [(0, vc (st (List.take ((List.length s : Int) - 1).toNat s))), (2, vp 2 0), (3, vp 3 0)] [(2, AObj.row [.s (i6 0), .s (bo false), .s (bo false)]), (3, AObj.row [.s (i6 0), .s (bo true), .s (bo true)])] trivial ?_
   refine gR [] [InR .i64 ((List.length (List.take ((List.length s : Int) - 1).toNat s : List UInt8) : Int) - 1), 0 ≤ (List.length (List.take ((List.length s : Int) - 1).toNat s : List UInt8) : Int) - 1, (List.length (List.take ((List.length s : Int) - 1).toNat s : List UInt8) : Int) - 1 ≤ List.length (List.take ((List.length s : Int) - 1).toNat s : List UInt8)] 42 [(0, vc (st (List.take ((List.length (List.take ((List.length s : Int) - 1).toNat s : List UInt8) : Int) - 1).toNat (List.take ((List.length s : Int) - 1).toNat s)))), (2, vp 2 0), (3, vp 3 0)] [(2, AObj.row [.s (i6 0), .s (bo false), .s (bo false)]), (3, AObj.row [.s (i6 0), .s (bo true), .s (bo true)])] ⟨(show InR .i64 ((List.length (List.take ((List.length s : Int) - 1).toNat s : List UInt8) : Int) - 1) from (inR64 (by first | omega | ((try simp only [List.length_take]); omega)) (by first | omega | ((try simp only [List.length_take]); omega)))), (show 0 ≤ (List.length (List.take ((List.length s : Int) - 1).toNat s : List UInt8) : Int) - 1 from (by first | omega | ((try simp only [List.length_take]); omega))), (show (List.length (List.take ((List.length s : Int) - 1).toNat s : List UInt8) : Int) - 1 ≤ List.length (List.take ((List.length s : Int) - 1).toNat s : List UInt8) from (by first | omega | ((try simp only [List.length_take]); omega)))⟩ ?_
   refine gS [(1, CE.call [] [] (vc (i6 (scanN (List.take ((List.length (List.take ((List.length s : Int) - 1).toNat s : List UInt8) : Int) - 1).toNat (List.take ((List.length s : Int) - 1).toNat s))))) [])] [Spec Tryd.prog 67 [tc (st (List.take ((List.length (List.take ((List.length s : Int) - 1).toNat s : List UInt8) : Int) - 1).toNat (List.take ((List.length s : Int) - 1).toNat s)))] (ofH []) (vc (i6 (scanN (List.take ((List.length (List.take ((List.length s : Int) - 1).toNat s : List UInt8) : Int) - 1).toNat (List.take ((List.length s : Int) - 1).toNat s))))) (ofH [])] 42 [(2, vp 2 0), (3, vp 3 0)] [(2, AObj.row [.s (i6 0), .s (bo false), .s (bo false)]), (3, AObj.row [.s (i6 (scanN (List.take ((List.length (List.take ((List.length s : Int) - 1).toNat s : List UInt8) : Int) - 1).toNat (List.take ((List.length s : Int) - 1).toNat s)))), .s (bo true), .s (bo true)])] (Rscan_c (List.take ((List.length (List.take ((List.length s : Int) - 1).toNat s : List UInt8) : Int) - 1).toNat (List.take ((List.length s : Int) - 1).toNat s))) ?_
   refine gS [] [] 42 [(2, vp 2 0)] [(2, AObj.row [.s (i6 (scanN (List.take ((List.length (List.take ((List.length s : Int) - 1).toNat s : List UInt8) : Int) - 1).toNat (List.take ((List.length s : Int) - 1).toNat s)))), .s (bo true), .s (bo true)])] trivial ?_
   exact gT (AV.t (TV.agg [.s (i6 (scanN (List.take ((List.length (List.take ((List.length s : Int) - 1).toNat s : List UInt8) : Int) - 1).toNat (List.take ((List.length s : Int) - 1).toNat s)))), .s (bo true), .s (bo true)])) (by rw [show rowW s = ((scanN (List.take ((List.length (List.take ((List.length s : Int) - 1).toNat s : List UInt8) : Int) - 1).toNat (List.take ((List.length s : Int) - 1).toNat s)), true, true) : Secret.RowV) from row_r (by first | exact suf_yes (k := 35) hc1 | exact suf_not (k := 35) hc1) (by first | exact suf_yes (k := 33) hc2 | exact suf_not (k := 33) hc2)])
  ·
   try simp only [xT, xF, xA, xB] at hc2
   refine AMx.skip ?_
   refine gS [(1, CE.call [] [] (vc (i6 (scanN (List.take ((List.length s : Int) - 1).toNat s)))) [])] [Spec Tryd.prog 67 [tc (st (List.take ((List.length s : Int) - 1).toNat s))] (ofH []) (vc (i6 (scanN (List.take ((List.length s : Int) - 1).toNat s)))) (ofH [])] 42 [(2, vp 2 0), (3, vp 3 0)] [(2, AObj.row [.s (i6 0), .s (bo false), .s (bo false)]), (3, AObj.row [.s (i6 (scanN (List.take ((List.length s : Int) - 1).toNat s))), .s (bo false), .s (bo true)])] (Rscan_c (List.take ((List.length s : Int) - 1).toNat s)) ?_
   refine gS [] [] 42 [(2, vp 2 0)] [(2, AObj.row [.s (i6 (scanN (List.take ((List.length s : Int) - 1).toNat s))), .s (bo false), .s (bo true)])] trivial ?_
   exact gT (AV.t (TV.agg [.s (i6 (scanN (List.take ((List.length s : Int) - 1).toNat s))), .s (bo false), .s (bo true)])) (by rw [show rowW s = ((scanN (List.take ((List.length s : Int) - 1).toNat s), false, true) : Secret.RowV) from row_r (by first | exact suf_yes (k := 35) hc1 | exact suf_not (k := 35) hc1) (by first | exact suf_yes (k := 33) hc2 | exact suf_not (k := 33) hc2)])
 ·
  try simp only [xT, xF, xA, xB] at hc1
  refine AMx.skip ?_
  refine gQ ?_
  refine gS [] [((decide (0 < (List.length s : Int))) = true) → allP [], ((decide (0 < (List.length s : Int))) = true) → allP [], ((decide (0 < (List.length s : Int))) = true) → allP [(decide (0 < (List.length s : Int))) = true], ((decide (0 < (List.length s : Int))) = true) → allP [(decide (0 < (List.length s : Int))) = true, InR .i64 ((List.length s : Int) - 1)], ((decide (0 < (List.length s : Int))) = true) → allP [(decide (0 < (List.length s : Int))) = true, (decide (0 < (List.length s : Int))) = true, (0 : Int) ≤ (List.length s : Int) - 1, (List.length s : Int) - 1 < List.length s], ((decide (0 < (List.length s : Int))) = true) → allP [(decide (0 < (List.length s : Int))) = true], (decide (0 < (List.length s : Int))) = true → allP [(decide (0 < (List.length s : Int))) = true]] 42 [(0, vc (st s)), (2, vp 2 0), (3, vp 3 0), (31, vc (bo ((decide (0 < (List.length s : Int))) && (decide (((List.getD s ((List.length s : Int) - 1).toNat 0).toNat : Int) = 33)))))] [(2, AObj.row [.s (i6 0), .s (bo false), .s (bo false)]), (3, AObj.row [.s (i6 0), .s (bo false), .s (bo false)])] ⟨(fun _ => trivial), (fun _ => trivial), (fun hp => hp), (fun hp => by have hq := hp; (try simp only [decide_eq_true_eq, decide_eq_false_iff_not, Bool.and_eq_true, Bool.or_eq_true, Bool.and_eq_false_iff, Bool.or_eq_false_iff, Bool.not_eq_true', Bool.not_eq_false', Bool.not_eq_true, Bool.not_eq_false] at hq); exact ⟨hp, (show InR .i64 ((List.length s : Int) - 1) from (inR64 (by first | omega | ((try simp only [List.length_take]); omega)) (by first | omega | ((try simp only [List.length_take]); omega))))⟩), (fun hp => by have hq := hp; (try simp only [decide_eq_true_eq, decide_eq_false_iff_not, Bool.and_eq_true, Bool.or_eq_true, Bool.and_eq_false_iff, Bool.or_eq_false_iff, Bool.not_eq_true', Bool.not_eq_false', Bool.not_eq_true, Bool.not_eq_false] at hq); exact ⟨hp, hp, (show (0 : Int) ≤ (List.length s : Int) - 1 from (by first | omega | ((try simp only [List.length_take]); omega))), (show (List.length s : Int) - 1 < List.length s from (by first | omega | ((try simp only [List.length_take]); omega)))⟩), (fun hp => hp), (fun hp2 => (by first | exact hp2 | exact ⟨hp, hp2⟩))⟩ ?_
  refine gB (((decide (0 < (List.length s : Int))) && (decide (((List.getD s ((List.length s : Int) - 1).toNat 0).toNat : Int) = 33)))) (fun hc3 => ?_) fun hc3 => ?_
  ·
   try simp only [xT, xF, xA, xB] at hc3
   refine gS [] [] 42 [(0, vc (st s)), (2, vp 2 0), (3, vp 3 0)] [(2, AObj.row [.s (i6 0), .s (bo false), .s (bo false)]), (3, AObj.row [.s (i6 0), .s (bo true), .s (bo false)])] trivial ?_
   refine gR [] [InR .i64 ((List.length s : Int) - 1), 0 ≤ (List.length s : Int) - 1, (List.length s : Int) - 1 ≤ List.length s] 42 [(0, vc (st (List.take ((List.length s : Int) - 1).toNat s))), (2, vp 2 0), (3, vp 3 0)] [(2, AObj.row [.s (i6 0), .s (bo false), .s (bo false)]), (3, AObj.row [.s (i6 0), .s (bo true), .s (bo false)])] ⟨(show InR .i64 ((List.length s : Int) - 1) from (inR64 (by first | omega | ((try simp only [List.length_take]); omega)) (by first | omega | ((try simp only [List.length_take]); omega)))), (show 0 ≤ (List.length s : Int) - 1 from (by first | omega | ((try simp only [List.length_take]); omega))), (show (List.length s : Int) - 1 ≤ List.length s from (by first | omega | ((try simp only [List.length_take]); omega)))⟩ ?_
   refine gS [(1, CE.call [] [] (vc (i6 (scanN (List.take ((List.length s : Int) - 1).toNat s)))) [])] [Spec Tryd.prog 67 [tc (st (List.take ((List.length s : Int) - 1).toNat s))] (ofH []) (vc (i6 (scanN (List.take ((List.length s : Int) - 1).toNat s)))) (ofH [])] 42 [(2, vp 2 0), (3, vp 3 0)] [(2, AObj.row [.s (i6 0), .s (bo false), .s (bo false)]), (3, AObj.row [.s (i6 (scanN (List.take ((List.length s : Int) - 1).toNat s))), .s (bo true), .s (bo false)])] (Rscan_c (List.take ((List.length s : Int) - 1).toNat s)) ?_
   refine gS [] [] 42 [(2, vp 2 0)] [(2, AObj.row [.s (i6 (scanN (List.take ((List.length s : Int) - 1).toNat s))), .s (bo true), .s (bo false)])] trivial ?_
   exact gT (AV.t (TV.agg [.s (i6 (scanN (List.take ((List.length s : Int) - 1).toNat s))), .s (bo true), .s (bo false)])) (by rw [show rowW s = ((scanN (List.take ((List.length s : Int) - 1).toNat s), true, false) : Secret.RowV) from row_r (by first | exact suf_yes (k := 35) hc1 | exact suf_not (k := 35) hc1) (by first | exact suf_yes (k := 33) hc3 | exact suf_not (k := 33) hc3)])
  ·
   try simp only [xT, xF, xA, xB] at hc3
   refine AMx.skip ?_
   refine gS [(1, CE.call [] [] (vc (i6 (scanN s))) [])] [Spec Tryd.prog 67 [tc (st s)] (ofH []) (vc (i6 (scanN s))) (ofH [])] 42 [(2, vp 2 0), (3, vp 3 0)] [(2, AObj.row [.s (i6 0), .s (bo false), .s (bo false)]), (3, AObj.row [.s (i6 (scanN s)), .s (bo false), .s (bo false)])] (Rscan_c s) ?_
   refine gS [] [] 42 [(2, vp 2 0)] [(2, AObj.row [.s (i6 (scanN s)), .s (bo false), .s (bo false)])] trivial ?_
   exact gT (AV.t (TV.agg [.s (i6 (scanN s)), .s (bo false), .s (bo false)])) (by rw [show rowW s = ((scanN s, false, false) : Secret.RowV) from row_r (by first | exact suf_yes (k := 35) hc1 | exact suf_not (k := 35) hc1) (by first | exact suf_yes (k := 33) hc3 | exact suf_not (k := 33) hc3)])
theorem f33_body : Tryd.f33.body = some (.seq (.region 0 (rg Tryd.f33 0) false) (.seq (.seq (.region 1 (rg Tryd.f33 1) false) (.cond (.tmp 15) (.seq (.region 2 (rg Tryd.f33 2) false) (.ret)) (.skip))) (.seq (.seq (.region 3 (rg Tryd.f33 3) false) (.block 0 (.loop (.seq (.seq (.region 4 (rg Tryd.f33 4) false) (.cond (.tmp 19) (.skip) (.exit 0))) (.seq (.block 1 (.seq (.region 6 (rg Tryd.f33 6) false) (.cond (.tmp 31) (.seq (.region 7 (rg Tryd.f33 7) false) (.ret)) (.skip)))) (.region 5 (rg Tryd.f33 5) false)))))) (.seq (.region 8 (rg Tryd.f33 8) false) (.ret))))) := by kernel_rfl
set_option maxRecDepth 100000 in
set_option maxHeartbeats 8000000 in
theorem Rname_c (s : Bytes) : Pure Tryd.prog 33 [tc (st s)] (vc (bo (nameS s))) := by
 refine Pure.of_body Tryd.func33 f33_body (by kernel_rfl) Tryd.ntmps33 (by kernel_rfl) (by kernel_rfl) ?_
 refine AMx.str 0 (b := s) rfl (fun hls => ?_)
 simp only [maxLen] at hls
 refine gS [] [] 32 [(0, vc (st s))] [] trivial ?_
 refine gQ ?_
 refine gS [] [((decide ((List.length s : Int) < 1)) = false) → allP [], ((decide ((List.length s : Int) < 1)) = false) → allP [(decide ((List.length s : Int) < 1)) = false], ((decide ((List.length s : Int) < 1)) = false) → allP [(decide ((List.length s : Int) < 1)) = false], (decide ((List.length s : Int) < 1)) = false → allP [(decide ((List.length s : Int) < 1)) = false], (((decide ((List.length s : Int) < 1)) || (decide (64 < (List.length s : Int)))) = false) → allP [], (((decide ((List.length s : Int) < 1)) || (decide (64 < (List.length s : Int)))) = false) → allP [((decide ((List.length s : Int) < 1)) || (decide (64 < (List.length s : Int)))) = false], ((decide ((List.length s : Int) < 1)) || (decide (64 < (List.length s : Int)))) = false → allP [((decide ((List.length s : Int) < 1)) || (decide (64 < (List.length s : Int)))) = false]] 32 [(0, vc (st s)), (15, vc (bo (((decide ((List.length s : Int) < 1)) || (decide (64 < (List.length s : Int)))) || (decide (s = [45])))))] [] ⟨(fun _ => trivial), (fun hp => hp), (fun hp => hp), (fun hp2 => (by first | exact hp2 | exact ⟨hp, hp2⟩)), (fun _ => trivial), (fun hp => hp), (fun hp2 => (by first | exact hp2 | exact ⟨hp, hp2⟩))⟩ ?_
 refine gB ((((decide ((List.length s : Int) < 1)) || (decide (64 < (List.length s : Int)))) || (decide (s = [45])))) (fun hc1 => ?_) fun hc1 => ?_
 ·
  try simp only [xT, xF, xO, xP] at hc1
  refine gS [] [] 32 [(2, vc (bo false))] [] trivial ?_
  exact gT (vc (bo false)) (by first | rw [name_no1 hc1] | rw [name_no2 (by omega) hc3] | rw [name_yes hc1 (by omega) hN])
 ·
  try simp only [xT, xF, xO, xP] at hc1
  refine AMx.skip ?_
  refine gQ ?_
  refine gS [] [] 32 [(0, vc (st s)), (3, vc (i6 0))] [] trivial ?_
  refine AMx.block ?_
  refine AMx.ent (s' := AS.lst 32 [(0, vc (st s)), (3, vc (i6 0))] []) (ent_proj [0, 3] []) ?_
  refine AMx.loop (fun mm ss => ∃ (i : Nat), (i ≤ s.length ∧ NoSep s i) ∧ mm = s.length - i ∧ ss = AS.lst 32 [(0, vc (st s)), (3, vc (i6 (i : Int)))] []) ⟨0, ?_, rfl, ?_⟩ ?_
  · exact ⟨Nat.zero_le _, nosep_0 s⟩
  · rfl
  rintro mm ss ⟨i, ⟨hI, hN⟩, rfl, rfl⟩
  refine gQ ?_
  refine gS [] [] 32 [(0, vc (st s)), (3, vc (i6 (i : Int))), (19, vc (bo (decide ((i : Int) < (List.length s : Int)))))] [] trivial ?_
  refine gC ((i : Int) < (List.length s : Int)) (fun hc2 => ?_) fun hc2 => ?_
  ·
   refine AMx.skip ?_
   refine gQ ?_
   refine AMx.block ?_
   refine gS [] [(0 : Int) ≤ (i : Int), (i : Int) < List.length s, ((decide (((List.getD s i 0).toNat : Int) = 32)) = false) → allP [], ((decide (((List.getD s i 0).toNat : Int) = 32)) = false) → allP [], ((decide (((List.getD s i 0).toNat : Int) = 32)) = false) → allP [(decide (((List.getD s i 0).toNat : Int) = 32)) = false, (decide (((List.getD s i 0).toNat : Int) = 32)) = false, (0 : Int) ≤ (i : Int), (i : Int) < List.length s], ((decide (((List.getD s i 0).toNat : Int) = 32)) = false) → allP [(decide (((List.getD s i 0).toNat : Int) = 32)) = false], (decide (((List.getD s i 0).toNat : Int) = 32)) = false → allP [(decide (((List.getD s i 0).toNat : Int) = 32)) = false]] 32 [(0, vc (st s)), (3, vc (i6 (i : Int))), (31, vc (bo ((decide (((List.getD s i 0).toNat : Int) = 32)) || (decide (((List.getD s i 0).toNat : Int) = 44)))))] [] ⟨(show (0 : Int) ≤ (i : Int) from (by omega)), (show (i : Int) < List.length s from (by omega)), (fun _ => trivial), (fun _ => trivial), (fun hp => by have hq := hp; (try simp only [decide_eq_true_eq, decide_eq_false_iff_not, Bool.and_eq_true, Bool.or_eq_true, Bool.and_eq_false_iff, Bool.or_eq_false_iff, Bool.not_eq_true', Bool.not_eq_false', Bool.not_eq_true, Bool.not_eq_false] at hq); exact ⟨hp, hp, (show (0 : Int) ≤ (i : Int) from (by omega)), (show (i : Int) < List.length s from (by omega))⟩), (fun hp => hp), (fun hp2 => (by first | exact hp2 | exact ⟨hp, hp2⟩))⟩ ?_
   refine gB (((decide (((List.getD s i 0).toNat : Int) = 32)) || (decide (((List.getD s i 0).toNat : Int) = 44)))) (fun hc3 => ?_) fun hc3 => ?_
   ·
    try simp only [xT, xF, xO, xP] at hc3
    refine gS [] [] 32 [(2, vc (bo false))] [] trivial ?_
    exact gT (vc (bo false)) (by first | rw [name_no1 hc1] | rw [name_no2 (by omega) hc3] | rw [name_yes hc1 (by omega) hN])
   ·
    try simp only [xT, xF, xO, xP] at hc3
    refine AMx.skip ?_
    refine AMx.blk ?_
    refine gR [] [InR .i64 ((i : Int) + 1)] 32 [(0, vc (st s)), (3, vc (i6 ((i : Int) + 1)))] [] (show InR .i64 ((i : Int) + 1) from (inR64 (by omega) (by omega))) ?_
    refine AMx.ent_inv (s' := AS.lst 32 [(0, vc (st s)), (3, vc (i6 ((i : Int) + 1)))] []) (ent_proj [0, 3] []) ?_
    refine AMx.inv ⟨_, ?_, i + 1, ?_, rfl, ?_⟩
    rotate_left
    · exact ⟨by omega, nosep_step (by omega) hN hc3⟩
    · rfl
    · omega
  ·
   refine AMx.exit ?_
   refine AMx.code_exit ?_
   refine AMx.inv_exit ?_
   refine AMx.blk_exit ?_
   refine gS [] [] 32 [(2, vc (bo true))] [] trivial ?_
   exact gT (vc (bo true)) (by first | rw [name_no1 hc1] | rw [name_no2 (by omega) hc3] | rw [name_yes hc1 (by omega) hN])
theorem f26_body : Tryd.f26.body = some (.seq (.region 0 (rg Tryd.f26 0) false) (.seq (.region 1 (rg Tryd.f26 1) false) (.seq (.seq (.region 2 (rg Tryd.f26 2) false) (.block 0 (.loop (.seq (.seq (.region 3 (rg Tryd.f26 3) false) (.cond (.tmp 8) (.skip) (.exit 0))) (.seq (.block 1 (.seq (.seq (.region 5 (rg Tryd.f26 5) false) (.cond (.tmp 12) (.region 6 (rg Tryd.f26 6) false) (.skip))) (.region 7 (rg Tryd.f26 7) false))) (.region 4 (rg Tryd.f26 4) false)))))) (.seq (.seq (.region 8 (rg Tryd.f26 8) false) (.cond (.tmp 23) (.seq (.region 9 (rg Tryd.f26 9) false) (.ret)) (.skip))) (.seq (.region 10 (rg Tryd.f26 10) false) (.ret)))))) := by kernel_rfl
set_option maxRecDepth 100000 in
set_option maxHeartbeats 8000000 in
theorem Rjoin_c (l : List Bytes) (hb : (AL.Sep.joinC 44 l).length ≤ 100000) : Pure Tryd.prog 26 [tc (AL.Fnv.slS l)] (vc (st (listT l))) := by
 refine Pure.of_body Tryd.func26 f26_body (by kernel_rfl) Tryd.ntmps26 (by kernel_rfl) (by kernel_rfl) ?_
 refine AMx.sl 0 (l := l) rfl (fun hls => ?_)
 simp only [maxLen] at hls
 refine gS [] [] 25 [(0, vc (AL.Fnv.slS l))] [] trivial ?_
 refine gS [] [] 25 [(0, vc (AL.Fnv.slS l)), (3, vc (st []))] [] trivial ?_
 refine gQ ?_
 refine gS [] [] 25 [(0, vc (AL.Fnv.slS l)), (3, vc (st [])), (4, vc (i6 0))] [] trivial ?_
 refine AMx.block ?_
 refine AMx.ent (s' := AS.lst 25 [(0, vc (AL.Fnv.slS l)), (3, vc (st [])), (4, vc (i6 0))] []) (ent_proj [0, 3, 4] []) ?_
 refine AMx.loop (fun mm ss => ∃ (i : Nat), (i ≤ l.length) ∧ mm = l.length - i ∧ ss = AS.lst 25 [(0, vc (AL.Fnv.slS l)), (3, vc (st (AL.Sep.joinC 44 (List.take i l)))), (4, vc (i6 (i : Int)))] []) ⟨0, ?_, rfl, ?_⟩ ?_
 · omega
 · rfl
 rintro mm ss ⟨i, hI, rfl, rfl⟩
 refine gQ ?_
 refine gS [] [] 25 [(0, vc (AL.Fnv.slS l)), (3, vc (st (AL.Sep.joinC 44 (List.take i l)))), (4, vc (i6 (i : Int))), (8, vc (bo (decide ((i : Int) < (List.length l : Int)))))] [] trivial ?_
 refine gC ((i : Int) < (List.length l : Int)) (fun hc1 => ?_) fun hc1 => ?_
 ·
  refine AMx.skip ?_
  refine gQ ?_
  refine AMx.block ?_
  refine gQ ?_
  refine gS [] [] 25 [(0, vc (AL.Fnv.slS l)), (3, vc (st (AL.Sep.joinC 44 (List.take i l)))), (4, vc (i6 (i : Int))), (12, vc (bo (decide (0 < (i : Int)))))] [] trivial ?_
  refine gC (0 < (i : Int)) (fun hc2 => ?_) fun hc2 => ?_
  ·
   refine gR [] [List.length (AL.Sep.joinC 44 (List.take i l) : List UInt8) + List.length ([44] : List UInt8) ≤ maxLen] 25 [(0, vc (AL.Fnv.slS l)), (3, vc (st ((AL.Sep.joinC 44 (List.take i l)) ++ [44]))), (4, vc (i6 (i : Int)))] [] (show List.length (AL.Sep.joinC 44 (List.take i l) : List UInt8) + List.length ([44] : List UInt8) ≤ maxLen from (by simp only [List.length_append, List.length_cons, List.length_nil, maxLen]; first | omega | (first | omega | (have z1 := joinT_le l (i + 1); have z0 := joinT_le l i; first | omega | (have q := congrArg List.length (joinT_step l i (by omega) (by omega)); (try simp only [List.length_append, List.length_cons, List.length_nil] at q); (try simp only [List.length_append, List.length_cons, List.length_nil]); omega) | (have q := congrArg List.length (joinT_first l i (by omega) (by omega)); (try simp only [List.length_append, List.length_cons, List.length_nil] at q); (try simp only [List.length_append, List.length_cons, List.length_nil]); omega))))) ?_
   refine gR [] [(0 : Int) ≤ (i : Int), (i : Int) < List.length l, List.length ((AL.Sep.joinC 44 (List.take i l)) ++ [44] : List UInt8) + List.length ((List.getD l i []) : List UInt8) ≤ maxLen] 25 [(0, vc (AL.Fnv.slS l)), (3, vc (st (((AL.Sep.joinC 44 (List.take i l)) ++ [44]) ++ (List.getD l i [])))), (4, vc (i6 (i : Int)))] [] ⟨(show (0 : Int) ≤ (i : Int) from (by first | omega | (have z1 := joinT_le l (i + 1); have z0 := joinT_le l i; first | omega | (have q := congrArg List.length (joinT_step l i (by omega) (by omega)); (try simp only [List.length_append, List.length_cons, List.length_nil] at q); (try simp only [List.length_append, List.length_cons, List.length_nil]); omega) | (have q := congrArg List.length (joinT_first l i (by omega) (by omega)); (try simp only [List.length_append, List.length_cons, List.length_nil] at q); (try simp only [List.length_append, List.length_cons, List.length_nil]); omega)))), (show (i : Int) < List.length l from (by first | omega | (have z1 := joinT_le l (i + 1); have z0 := joinT_le l i; first | omega | (have q := congrArg List.length (joinT_step l i (by omega) (by omega)); (try simp only [List.length_append, List.length_cons, List.length_nil] at q); (try simp only [List.length_append, List.length_cons, List.length_nil]); omega) | (have q := congrArg List.length (joinT_first l i (by omega) (by omega)); (try simp only [List.length_append, List.length_cons, List.length_nil] at q); (try simp only [List.length_append, List.length_cons, List.length_nil]); omega)))), (show List.length ((AL.Sep.joinC 44 (List.take i l)) ++ [44] : List UInt8) + List.length ((List.getD l i []) : List UInt8) ≤ maxLen from (by simp only [List.length_append, List.length_cons, List.length_nil, maxLen]; first | omega | (first | omega | (have z1 := joinT_le l (i + 1); have z0 := joinT_le l i; first | omega | (have q := congrArg List.length (joinT_step l i (by omega) (by omega)); (try simp only [List.length_append, List.length_cons, List.length_nil] at q); (try simp only [List.length_append, List.length_cons, List.length_nil]); omega) | (have q := congrArg List.length (joinT_first l i (by omega) (by omega)); (try simp only [List.length_append, List.length_cons, List.length_nil] at q); (try simp only [List.length_append, List.length_cons, List.length_nil]); omega)))))⟩ ?_
   refine AMx.blk ?_
   refine gR [] [InR .i64 ((i : Int) + 1)] 25 [(0, vc (AL.Fnv.slS l)), (3, vc (st (((AL.Sep.joinC 44 (List.take i l)) ++ [44]) ++ (List.getD l i [])))), (4, vc (i6 ((i : Int) + 1)))] [] (show InR .i64 ((i : Int) + 1) from (inR64 (by first | omega | (have z1 := joinT_le l (i + 1); have z0 := joinT_le l i; first | omega | (have q := congrArg List.length (joinT_step l i (by omega) (by omega)); (try simp only [List.length_append, List.length_cons, List.length_nil] at q); (try simp only [List.length_append, List.length_cons, List.length_nil]); omega) | (have q := congrArg List.length (joinT_first l i (by omega) (by omega)); (try simp only [List.length_append, List.length_cons, List.length_nil] at q); (try simp only [List.length_append, List.length_cons, List.length_nil]); omega))) (by first | omega | (have z1 := joinT_le l (i + 1); have z0 := joinT_le l i; first | omega | (have q := congrArg List.length (joinT_step l i (by omega) (by omega)); (try simp only [List.length_append, List.length_cons, List.length_nil] at q); (try simp only [List.length_append, List.length_cons, List.length_nil]); omega) | (have q := congrArg List.length (joinT_first l i (by omega) (by omega)); (try simp only [List.length_append, List.length_cons, List.length_nil] at q); (try simp only [List.length_append, List.length_cons, List.length_nil]); omega))))) ?_
   refine AMx.ent_inv (s' := AS.lst 25 [(0, vc (AL.Fnv.slS l)), (3, vc (st (((AL.Sep.joinC 44 (List.take i l)) ++ [44]) ++ (List.getD l i [])))), (4, vc (i6 ((i : Int) + 1)))] []) (ent_proj [0, 3, 4] []) ?_
   refine AMx.inv ⟨_, ?_, i + 1, ?_, rfl, ?_⟩
   rotate_left
   · omega
   · rw [joinT_step l i (by omega) (by omega)] <;> rfl
   · omega
  ·
   refine AMx.skip ?_
   refine gR [] [(0 : Int) ≤ (i : Int), (i : Int) < List.length l, List.length (AL.Sep.joinC 44 (List.take i l) : List UInt8) + List.length ((List.getD l i []) : List UInt8) ≤ maxLen] 25 [(0, vc (AL.Fnv.slS l)), (3, vc (st ((AL.Sep.joinC 44 (List.take i l)) ++ (List.getD l i [])))), (4, vc (i6 (i : Int)))] [] ⟨(show (0 : Int) ≤ (i : Int) from (by first | omega | (have z1 := joinT_le l (i + 1); have z0 := joinT_le l i; first | omega | (have q := congrArg List.length (joinT_step l i (by omega) (by omega)); (try simp only [List.length_append, List.length_cons, List.length_nil] at q); (try simp only [List.length_append, List.length_cons, List.length_nil]); omega) | (have q := congrArg List.length (joinT_first l i (by omega) (by omega)); (try simp only [List.length_append, List.length_cons, List.length_nil] at q); (try simp only [List.length_append, List.length_cons, List.length_nil]); omega)))), (show (i : Int) < List.length l from (by first | omega | (have z1 := joinT_le l (i + 1); have z0 := joinT_le l i; first | omega | (have q := congrArg List.length (joinT_step l i (by omega) (by omega)); (try simp only [List.length_append, List.length_cons, List.length_nil] at q); (try simp only [List.length_append, List.length_cons, List.length_nil]); omega) | (have q := congrArg List.length (joinT_first l i (by omega) (by omega)); (try simp only [List.length_append, List.length_cons, List.length_nil] at q); (try simp only [List.length_append, List.length_cons, List.length_nil]); omega)))), (show List.length (AL.Sep.joinC 44 (List.take i l) : List UInt8) + List.length ((List.getD l i []) : List UInt8) ≤ maxLen from (by simp only [List.length_append, List.length_cons, List.length_nil, maxLen]; first | omega | (first | omega | (have z1 := joinT_le l (i + 1); have z0 := joinT_le l i; first | omega | (have q := congrArg List.length (joinT_step l i (by omega) (by omega)); (try simp only [List.length_append, List.length_cons, List.length_nil] at q); (try simp only [List.length_append, List.length_cons, List.length_nil]); omega) | (have q := congrArg List.length (joinT_first l i (by omega) (by omega)); (try simp only [List.length_append, List.length_cons, List.length_nil] at q); (try simp only [List.length_append, List.length_cons, List.length_nil]); omega)))))⟩ ?_
   refine AMx.blk ?_
   refine gR [] [InR .i64 ((i : Int) + 1)] 25 [(0, vc (AL.Fnv.slS l)), (3, vc (st ((AL.Sep.joinC 44 (List.take i l)) ++ (List.getD l i [])))), (4, vc (i6 ((i : Int) + 1)))] [] (show InR .i64 ((i : Int) + 1) from (inR64 (by first | omega | (have z1 := joinT_le l (i + 1); have z0 := joinT_le l i; first | omega | (have q := congrArg List.length (joinT_step l i (by omega) (by omega)); (try simp only [List.length_append, List.length_cons, List.length_nil] at q); (try simp only [List.length_append, List.length_cons, List.length_nil]); omega) | (have q := congrArg List.length (joinT_first l i (by omega) (by omega)); (try simp only [List.length_append, List.length_cons, List.length_nil] at q); (try simp only [List.length_append, List.length_cons, List.length_nil]); omega))) (by first | omega | (have z1 := joinT_le l (i + 1); have z0 := joinT_le l i; first | omega | (have q := congrArg List.length (joinT_step l i (by omega) (by omega)); (try simp only [List.length_append, List.length_cons, List.length_nil] at q); (try simp only [List.length_append, List.length_cons, List.length_nil]); omega) | (have q := congrArg List.length (joinT_first l i (by omega) (by omega)); (try simp only [List.length_append, List.length_cons, List.length_nil] at q); (try simp only [List.length_append, List.length_cons, List.length_nil]); omega))))) ?_
   refine AMx.ent_inv (s' := AS.lst 25 [(0, vc (AL.Fnv.slS l)), (3, vc (st ((AL.Sep.joinC 44 (List.take i l)) ++ (List.getD l i [])))), (4, vc (i6 ((i : Int) + 1)))] []) (ent_proj [0, 3, 4] []) ?_
   refine AMx.inv ⟨_, ?_, i + 1, ?_, rfl, ?_⟩
   rotate_left
   · omega
   · rw [joinT_first l i (by omega) (by omega)] <;> rfl
   · omega
 ·
  refine AMx.exit ?_
  refine AMx.code_exit ?_
  refine AMx.inv_exit ?_
  refine AMx.blk_exit ?_
  rw [show List.take i l = l from List.take_of_length_le (by omega)]
  refine gQ ?_
  refine gS [] [] 25 [(3, vc (st (AL.Sep.joinC 44 l))), (23, vc (bo (decide ((List.length l : Int) = 0))))] [] trivial ?_
  refine gC ((List.length l : Int) = 0) (fun hc3 => ?_) fun hc3 => ?_
  ·
   refine gS [] [] 25 [(2, vc (st [45]))] [] trivial ?_
   exact gT (vc (st [45])) (by unfold listT; first | rw [if_pos (by assumption)] | rw [if_neg (by assumption)])
  ·
   refine AMx.skip ?_
   refine gS [] [] 25 [(2, vc (st (AL.Sep.joinC 44 l)))] [] trivial ?_
   exact gT (vc (st (AL.Sep.joinC 44 l))) (by unfold listT; first | rw [if_pos (by assumption)] | rw [if_neg (by assumption)])
theorem f27_body : Tryd.f27.body = some (.seq (.region 0 (rg Tryd.f27 0) false) (.seq (.region 1 (rg Tryd.f27 1) false) (.seq (.seq (.region 2 (rg Tryd.f27 2) false) (.block 0 (.loop (.seq (.seq (.region 3 (rg Tryd.f27 3) false) (.cond (.tmp 10) (.skip) (.exit 0))) (.seq (.block 1 (.seq (.region 5 (rg Tryd.f27 5) false) (.seq (.seq (.region 6 (rg Tryd.f27 6) false) (.cond (.tmp 25) (.region 7 (rg Tryd.f27 7) false) (.skip))) (.seq (.seq (.region 8 (rg Tryd.f27 8) false) (.cond (.tmp 33) (.region 9 (rg Tryd.f27 9) false) (.skip))) (.region 10 (rg Tryd.f27 10) false))))) (.region 4 (rg Tryd.f27 4) false)))))) (.seq (.region 11 (rg Tryd.f27 11) false) (.ret))))) := by kernel_rfl
set_option maxRecDepth 100000 in
set_option maxHeartbeats 8000000 in
theorem Rrows_c (s : Secret.Sec) (hr : ∀ x ∈ s.2.2.2, 0 ≤ x.1 ∧ x.1 ≤ 30) (hl : (List.length s.2.2.2 : Int) ≤ 6) : Pure Tryd.prog 27 [TV.agg [.s (i6 s.1), .s (bo s.2.1), .s (i6 s.2.2.1), .s (Secret.slR s.2.2.2)]] (vc (AL.Fnv.slS (s.2.2.2.map rowT))) := by
 refine Pure.of_body Tryd.func27 f27_body (by kernel_rfl) Tryd.ntmps27 (by kernel_rfl) (by kernel_rfl) ?_
 refine gS [] [] 41 [(1, vp 1 0)] [(1, AObj.row [.s (i6 s.1), .s (bo s.2.1), .s (i6 s.2.2.1), .s (Secret.slR s.2.2.2)])] trivial ?_
 refine gS [] [] 41 [(1, vp 1 0), (3, vc (SC.nilsl))] [(1, AObj.row [.s (i6 s.1), .s (bo s.2.1), .s (i6 s.2.2.1), .s (Secret.slR s.2.2.2)])] trivial ?_
 refine gQ ?_
 refine gS [] [] 41 [(1, vp 1 0), (3, vc (SC.nilsl)), (4, vc (i6 0))] [(1, AObj.row [.s (i6 s.1), .s (bo s.2.1), .s (i6 s.2.2.1), .s (Secret.slR s.2.2.2)])] trivial ?_
 refine AMx.block ?_
 refine AMx.ent (s' := AS.lst 41 [(1, vp 1 0), (3, vo 3), (4, vc (i6 0))] [(3, AObj.grow 9 1 Bytes [] AL.Fnv.rowS []), (1, AObj.row [.s (i6 s.1), .s (bo s.2.1), .s (i6 s.2.2.1), .s (Secret.slR s.2.2.2)])]) (ent_adopt (t := 3) (d := 3) 9 1 Bytes [] AL.Fnv.rowS (by kernel_rfl) (by kernel_rfl) (by kernel_rfl) (by kernel_rfl)) ?_
 refine AMx.ent (s' := AS.lst 41 [(1, vp 1 0), (3, vo 3), (4, vc (i6 0))] [(1, AObj.row [.s (i6 s.1), .s (bo s.2.1), .s (i6 s.2.2.1), .s (Secret.slR s.2.2.2)]), (3, AObj.grow 9 1 Bytes [] AL.Fnv.rowS [])]) (ent_proj [1, 3, 4] [1, 3]) ?_
 refine AMx.loop (fun mm ss => ∃ (i : Nat), (i ≤ s.2.2.2.length) ∧ mm = s.2.2.2.length - i ∧ ss = AS.lst 41 [(1, vp 1 0), (3, vo 3), (4, vc (i6 (i : Int)))] [(1, AObj.row [.s (i6 s.1), .s (bo s.2.1), .s (i6 s.2.2.1), .s (Secret.slR s.2.2.2)]), (3, AObj.grow 9 1 Bytes [] AL.Fnv.rowS ((List.take i s.2.2.2).map rowT))]) ⟨0, ?_, rfl, ?_⟩ ?_
 · omega
 · rfl
 rintro mm ss ⟨i, hI, rfl, rfl⟩
 refine gQ ?_
 refine gS [] [] 41 [(1, vp 1 0), (3, vo 3), (4, vc (i6 (i : Int))), (10, vc (bo (decide ((i : Int) < (List.length s.2.2.2 : Int)))))] [(1, AObj.row [.s (i6 s.1), .s (bo s.2.1), .s (i6 s.2.2.1), .s (Secret.slR s.2.2.2)]), (3, AObj.grow 9 1 Bytes [] AL.Fnv.rowS ((List.take i s.2.2.2).map rowT))] trivial ?_
 refine gC ((i : Int) < (List.length s.2.2.2 : Int)) (fun hc1 => ?_) fun hc1 => ?_
 ·
  refine AMx.skip ?_
  refine gQ ?_
  refine AMx.block ?_
  refine gS [(6, CE.call [] [] (vc (st (numS ((List.getD s.2.2.2 i (0, false, false)).1)))) [])] [(0 : Int) ≤ (i : Int), (i : Int) < List.length s.2.2.2, Spec Tryd.prog 23 [tc (i6 ((List.getD s.2.2.2 i (0, false, false)).1))] (ofH []) (vc (st (numS ((List.getD s.2.2.2 i (0, false, false)).1)))) (ofH [])] 41 [(1, vp 1 0), (3, vo 3), (4, vc (i6 (i : Int))), (5, vc (st (numS ((List.getD s.2.2.2 i (0, false, false)).1))))] [(1, AObj.row [.s (i6 s.1), .s (bo s.2.1), .s (i6 s.2.2.1), .s (Secret.slR s.2.2.2)]), (3, AObj.grow 9 1 Bytes [] AL.Fnv.rowS ((List.take i s.2.2.2).map rowT))] ⟨(show (0 : Int) ≤ (i : Int) from (by first | omega | (have z := hr _ (Lib.getD_mem (0, false, false) _ i (by omega)); omega) | (have h3 := num_le3 (List.getD s.2.2.2 i (0, false, false)).1; (try simp only [List.length_append, List.length_cons, List.length_nil, List.length_take, List.length_map]); omega))), (show (i : Int) < List.length s.2.2.2 from (by first | omega | (have z := hr _ (Lib.getD_mem (0, false, false) _ i (by omega)); omega) | (have h3 := num_le3 (List.getD s.2.2.2 i (0, false, false)).1; (try simp only [List.length_append, List.length_cons, List.length_nil, List.length_take, List.length_map]); omega))), (Rnumber_c ((List.getD s.2.2.2 i (0, false, false)).1) (by first | omega | (have z := hr _ (Lib.getD_mem (0, false, false) _ i (by omega)); omega) | (have h3 := num_le3 (List.getD s.2.2.2 i (0, false, false)).1; (try simp only [List.length_append, List.length_cons, List.length_nil, List.length_take, List.length_map]); omega)) (by first | omega | (have z := hr _ (Lib.getD_mem (0, false, false) _ i (by omega)); omega) | (have h3 := num_le3 (List.getD s.2.2.2 i (0, false, false)).1; (try simp only [List.length_append, List.length_cons, List.length_nil, List.length_take, List.length_map]); omega)))⟩ ?_
  refine gQ ?_
  refine gS [] [(0 : Int) ≤ (i : Int), (i : Int) < List.length s.2.2.2] 41 [(1, vp 1 0), (3, vo 3), (4, vc (i6 (i : Int))), (5, vc (st (numS ((List.getD s.2.2.2 i (0, false, false)).1)))), (25, vc (bo ((List.getD s.2.2.2 i (0, false, false)).2.1)))] [(1, AObj.row [.s (i6 s.1), .s (bo s.2.1), .s (i6 s.2.2.1), .s (Secret.slR s.2.2.2)]), (3, AObj.grow 9 1 Bytes [] AL.Fnv.rowS ((List.take i s.2.2.2).map rowT))] ⟨(show (0 : Int) ≤ (i : Int) from (by first | omega | (have z := hr _ (Lib.getD_mem (0, false, false) _ i (by omega)); omega) | (have h3 := num_le3 (List.getD s.2.2.2 i (0, false, false)).1; (try simp only [List.length_append, List.length_cons, List.length_nil, List.length_take, List.length_map]); omega))), (show (i : Int) < List.length s.2.2.2 from (by first | omega | (have z := hr _ (Lib.getD_mem (0, false, false) _ i (by omega)); omega) | (have h3 := num_le3 (List.getD s.2.2.2 i (0, false, false)).1; (try simp only [List.length_append, List.length_cons, List.length_nil, List.length_take, List.length_map]); omega)))⟩ ?_
  refine gB ((List.getD s.2.2.2 i (0, false, false)).2.1) (fun hc2 => ?_) fun hc2 => ?_
  ·
   try simp only [xT, xF] at hc2
   refine gR [] [List.length (numS ((List.getD s.2.2.2 i (0, false, false)).1) : List UInt8) + List.length ([33] : List UInt8) ≤ maxLen] 41 [(1, vp 1 0), (3, vo 3), (4, vc (i6 (i : Int))), (5, vc (st ((numS ((List.getD s.2.2.2 i (0, false, false)).1)) ++ [33])))] [(1, AObj.row [.s (i6 s.1), .s (bo s.2.1), .s (i6 s.2.2.1), .s (Secret.slR s.2.2.2)]), (3, AObj.grow 9 1 Bytes [] AL.Fnv.rowS ((List.take i s.2.2.2).map rowT))] (show List.length (numS ((List.getD s.2.2.2 i (0, false, false)).1) : List UInt8) + List.length ([33] : List UInt8) ≤ maxLen from (by simp only [List.length_append, List.length_cons, List.length_nil, maxLen]; first | omega | (first | omega | (have z := hr _ (Lib.getD_mem (0, false, false) _ i (by omega)); omega) | (have h3 := num_le3 (List.getD s.2.2.2 i (0, false, false)).1; (try simp only [List.length_append, List.length_cons, List.length_nil, List.length_take, List.length_map]); omega)))) ?_
   refine gQ ?_
   refine gS [] [(0 : Int) ≤ (i : Int), (i : Int) < List.length s.2.2.2] 41 [(1, vp 1 0), (3, vo 3), (4, vc (i6 (i : Int))), (5, vc (st ((numS ((List.getD s.2.2.2 i (0, false, false)).1)) ++ [33]))), (33, vc (bo ((List.getD s.2.2.2 i (0, false, false)).2.2)))] [(1, AObj.row [.s (i6 s.1), .s (bo s.2.1), .s (i6 s.2.2.1), .s (Secret.slR s.2.2.2)]), (3, AObj.grow 9 1 Bytes [] AL.Fnv.rowS ((List.take i s.2.2.2).map rowT))] ⟨(show (0 : Int) ≤ (i : Int) from (by first | omega | (have z := hr _ (Lib.getD_mem (0, false, false) _ i (by omega)); omega) | (have h3 := num_le3 (List.getD s.2.2.2 i (0, false, false)).1; (try simp only [List.length_append, List.length_cons, List.length_nil, List.length_take, List.length_map]); omega))), (show (i : Int) < List.length s.2.2.2 from (by first | omega | (have z := hr _ (Lib.getD_mem (0, false, false) _ i (by omega)); omega) | (have h3 := num_le3 (List.getD s.2.2.2 i (0, false, false)).1; (try simp only [List.length_append, List.length_cons, List.length_nil, List.length_take, List.length_map]); omega)))⟩ ?_
   refine gB ((List.getD s.2.2.2 i (0, false, false)).2.2) (fun hc3 => ?_) fun hc3 => ?_
   ·
    try simp only [xT, xF] at hc3
    refine gR [] [List.length ((numS ((List.getD s.2.2.2 i (0, false, false)).1)) ++ [33] : List UInt8) + List.length ([35] : List UInt8) ≤ maxLen] 41 [(1, vp 1 0), (3, vo 3), (4, vc (i6 (i : Int))), (5, vc (st (((numS ((List.getD s.2.2.2 i (0, false, false)).1)) ++ [33]) ++ [35])))] [(1, AObj.row [.s (i6 s.1), .s (bo s.2.1), .s (i6 s.2.2.1), .s (Secret.slR s.2.2.2)]), (3, AObj.grow 9 1 Bytes [] AL.Fnv.rowS ((List.take i s.2.2.2).map rowT))] (show List.length ((numS ((List.getD s.2.2.2 i (0, false, false)).1)) ++ [33] : List UInt8) + List.length ([35] : List UInt8) ≤ maxLen from (by simp only [List.length_append, List.length_cons, List.length_nil, maxLen]; first | omega | (first | omega | (have z := hr _ (Lib.getD_mem (0, false, false) _ i (by omega)); omega) | (have h3 := num_le3 (List.getD s.2.2.2 i (0, false, false)).1; (try simp only [List.length_append, List.length_cons, List.length_nil, List.length_take, List.length_map]); omega)))) ?_
    refine gR [(2, CE.obj (AObj.grow 9 1 Bytes [] AL.Fnv.rowS [((numS ((List.getD s.2.2.2 i (0, false, false)).1)) ++ [33]) ++ [35]])), (3, CE.obj (AObj.grow 9 1 Bytes [] AL.Fnv.rowS (((List.take i s.2.2.2).map rowT) ++ [((numS ((List.getD s.2.2.2 i (0, false, false)).1)) ++ [33]) ++ [35]])))] [flat 1 AL.Fnv.rowS [((numS ((List.getD s.2.2.2 i (0, false, false)).1)) ++ [33]) ++ [35]] = [.s (st (((numS ((List.getD s.2.2.2 i (0, false, false)).1)) ++ [33]) ++ [35]))], List.length ([((numS ((List.getD s.2.2.2 i (0, false, false)).1)) ++ [33]) ++ [35]] : List Bytes) = 1, AppC (flat 1 AL.Fnv.rowS [((numS ((List.getD s.2.2.2 i (0, false, false)).1)) ++ [33]) ++ [35]]) (List.length ([((numS ((List.getD s.2.2.2 i (0, false, false)).1)) ++ [33]) ++ [35]] : List Bytes)) 16 (AObj.grow 9 1 Bytes [] AL.Fnv.rowS ((List.take i s.2.2.2).map rowT)) (AObj.grow 9 1 Bytes [] AL.Fnv.rowS (((List.take i s.2.2.2).map rowT) ++ [((numS ((List.getD s.2.2.2 i (0, false, false)).1)) ++ [33]) ++ [35]]))] 41 [(1, vp 1 0), (3, vo 39), (4, vc (i6 (i : Int)))] [(1, AObj.row [.s (i6 s.1), .s (bo s.2.1), .s (i6 s.2.2.1), .s (Secret.slR s.2.2.2)]), (39, AObj.grow 9 1 Bytes [] AL.Fnv.rowS (((List.take i s.2.2.2).map rowT) ++ [((numS ((List.getD s.2.2.2 i (0, false, false)).1)) ++ [33]) ++ [35]]))] ⟨rfl, rfl, (⟨_, rfl, rfl, rfl, by simp only [List.length_append, List.length_cons, List.length_nil, List.length_take, List.length_map]; omega, by simp only [maxLen, List.length_append, List.length_cons, List.length_nil, List.length_take, List.length_map]; omega⟩)⟩ ?_
    refine AMx.blk ?_
    refine gR [] [InR .i64 ((i : Int) + 1)] 41 [(1, vp 1 0), (3, vo 39), (4, vc (i6 ((i : Int) + 1)))] [(1, AObj.row [.s (i6 s.1), .s (bo s.2.1), .s (i6 s.2.2.1), .s (Secret.slR s.2.2.2)]), (39, AObj.grow 9 1 Bytes [] AL.Fnv.rowS (((List.take i s.2.2.2).map rowT) ++ [((numS ((List.getD s.2.2.2 i (0, false, false)).1)) ++ [33]) ++ [35]]))] (show InR .i64 ((i : Int) + 1) from (inR64 (by first | omega | (have z := hr _ (Lib.getD_mem (0, false, false) _ i (by omega)); omega) | (have h3 := num_le3 (List.getD s.2.2.2 i (0, false, false)).1; (try simp only [List.length_append, List.length_cons, List.length_nil, List.length_take, List.length_map]); omega)) (by first | omega | (have z := hr _ (Lib.getD_mem (0, false, false) _ i (by omega)); omega) | (have h3 := num_le3 (List.getD s.2.2.2 i (0, false, false)).1; (try simp only [List.length_append, List.length_cons, List.length_nil, List.length_take, List.length_map]); omega)))) ?_
    refine AMx.ent_inv (s' := AS.lst 41 [(1, vp 1 0), (3, vo 3), (4, vc (i6 ((i : Int) + 1)))] [(1, AObj.row [.s (i6 s.1), .s (bo s.2.1), .s (i6 s.2.2.1), .s (Secret.slR s.2.2.2)]), (3, AObj.grow 9 1 Bytes [] AL.Fnv.rowS (((List.take i s.2.2.2).map rowT) ++ [((numS ((List.getD s.2.2.2 i (0, false, false)).1)) ++ [33]) ++ [35]]))]) (ent_swap 39 3 (by kernel_rfl) (by kernel_rfl)) ?_
    refine AMx.ent_inv (s' := AS.lst 41 [(1, vp 1 0), (3, vo 3), (4, vc (i6 ((i : Int) + 1)))] [(1, AObj.row [.s (i6 s.1), .s (bo s.2.1), .s (i6 s.2.2.1), .s (Secret.slR s.2.2.2)]), (3, AObj.grow 9 1 Bytes [] AL.Fnv.rowS (((List.take i s.2.2.2).map rowT) ++ [((numS ((List.getD s.2.2.2 i (0, false, false)).1)) ++ [33]) ++ [35]]))]) (ent_proj [1, 3, 4] [1, 3]) ?_
    refine AMx.inv ⟨_, ?_, i + 1, ?_, rfl, ?_⟩
    rotate_left
    · omega
    · rw [← rowsT_step s.2.2.2 i (by omega), rowT_yy (x := List.getD s.2.2.2 i (0, false, false)) (by assumption) (by assumption)]; rfl
    · omega
   ·
    try simp only [xT, xF] at hc3
    refine AMx.skip ?_
    refine gR [(2, CE.obj (AObj.grow 9 1 Bytes [] AL.Fnv.rowS [(numS ((List.getD s.2.2.2 i (0, false, false)).1)) ++ [33]])), (3, CE.obj (AObj.grow 9 1 Bytes [] AL.Fnv.rowS (((List.take i s.2.2.2).map rowT) ++ [(numS ((List.getD s.2.2.2 i (0, false, false)).1)) ++ [33]])))] [flat 1 AL.Fnv.rowS [(numS ((List.getD s.2.2.2 i (0, false, false)).1)) ++ [33]] = [.s (st ((numS ((List.getD s.2.2.2 i (0, false, false)).1)) ++ [33]))], List.length ([(numS ((List.getD s.2.2.2 i (0, false, false)).1)) ++ [33]] : List Bytes) = 1, AppC (flat 1 AL.Fnv.rowS [(numS ((List.getD s.2.2.2 i (0, false, false)).1)) ++ [33]]) (List.length ([(numS ((List.getD s.2.2.2 i (0, false, false)).1)) ++ [33]] : List Bytes)) 16 (AObj.grow 9 1 Bytes [] AL.Fnv.rowS ((List.take i s.2.2.2).map rowT)) (AObj.grow 9 1 Bytes [] AL.Fnv.rowS (((List.take i s.2.2.2).map rowT) ++ [(numS ((List.getD s.2.2.2 i (0, false, false)).1)) ++ [33]]))] 41 [(1, vp 1 0), (3, vo 39), (4, vc (i6 (i : Int)))] [(1, AObj.row [.s (i6 s.1), .s (bo s.2.1), .s (i6 s.2.2.1), .s (Secret.slR s.2.2.2)]), (39, AObj.grow 9 1 Bytes [] AL.Fnv.rowS (((List.take i s.2.2.2).map rowT) ++ [(numS ((List.getD s.2.2.2 i (0, false, false)).1)) ++ [33]]))] ⟨rfl, rfl, (⟨_, rfl, rfl, rfl, by simp only [List.length_append, List.length_cons, List.length_nil, List.length_take, List.length_map]; omega, by simp only [maxLen, List.length_append, List.length_cons, List.length_nil, List.length_take, List.length_map]; omega⟩)⟩ ?_
    refine AMx.blk ?_
    refine gR [] [InR .i64 ((i : Int) + 1)] 41 [(1, vp 1 0), (3, vo 39), (4, vc (i6 ((i : Int) + 1)))] [(1, AObj.row [.s (i6 s.1), .s (bo s.2.1), .s (i6 s.2.2.1), .s (Secret.slR s.2.2.2)]), (39, AObj.grow 9 1 Bytes [] AL.Fnv.rowS (((List.take i s.2.2.2).map rowT) ++ [(numS ((List.getD s.2.2.2 i (0, false, false)).1)) ++ [33]]))] (show InR .i64 ((i : Int) + 1) from (inR64 (by first | omega | (have z := hr _ (Lib.getD_mem (0, false, false) _ i (by omega)); omega) | (have h3 := num_le3 (List.getD s.2.2.2 i (0, false, false)).1; (try simp only [List.length_append, List.length_cons, List.length_nil, List.length_take, List.length_map]); omega)) (by first | omega | (have z := hr _ (Lib.getD_mem (0, false, false) _ i (by omega)); omega) | (have h3 := num_le3 (List.getD s.2.2.2 i (0, false, false)).1; (try simp only [List.length_append, List.length_cons, List.length_nil, List.length_take, List.length_map]); omega)))) ?_
    refine AMx.ent_inv (s' := AS.lst 41 [(1, vp 1 0), (3, vo 3), (4, vc (i6 ((i : Int) + 1)))] [(1, AObj.row [.s (i6 s.1), .s (bo s.2.1), .s (i6 s.2.2.1), .s (Secret.slR s.2.2.2)]), (3, AObj.grow 9 1 Bytes [] AL.Fnv.rowS (((List.take i s.2.2.2).map rowT) ++ [(numS ((List.getD s.2.2.2 i (0, false, false)).1)) ++ [33]]))]) (ent_swap 39 3 (by kernel_rfl) (by kernel_rfl)) ?_
    refine AMx.ent_inv (s' := AS.lst 41 [(1, vp 1 0), (3, vo 3), (4, vc (i6 ((i : Int) + 1)))] [(1, AObj.row [.s (i6 s.1), .s (bo s.2.1), .s (i6 s.2.2.1), .s (Secret.slR s.2.2.2)]), (3, AObj.grow 9 1 Bytes [] AL.Fnv.rowS (((List.take i s.2.2.2).map rowT) ++ [(numS ((List.getD s.2.2.2 i (0, false, false)).1)) ++ [33]]))]) (ent_proj [1, 3, 4] [1, 3]) ?_
    refine AMx.inv ⟨_, ?_, i + 1, ?_, rfl, ?_⟩
    rotate_left
    · omega
    · rw [← rowsT_step s.2.2.2 i (by omega), rowT_yn (x := List.getD s.2.2.2 i (0, false, false)) (by assumption) (by assumption)]; rfl
    · omega
  ·
   try simp only [xT, xF] at hc2
   refine AMx.skip ?_
   refine gQ ?_
   refine gS [] [(0 : Int) ≤ (i : Int), (i : Int) < List.length s.2.2.2] 41 [(1, vp 1 0), (3, vo 3), (4, vc (i6 (i : Int))), (5, vc (st (numS ((List.getD s.2.2.2 i (0, false, false)).1)))), (33, vc (bo ((List.getD s.2.2.2 i (0, false, false)).2.2)))] [(1, AObj.row [.s (i6 s.1), .s (bo s.2.1), .s (i6 s.2.2.1), .s (Secret.slR s.2.2.2)]), (3, AObj.grow 9 1 Bytes [] AL.Fnv.rowS ((List.take i s.2.2.2).map rowT))] ⟨(show (0 : Int) ≤ (i : Int) from (by first | omega | (have z := hr _ (Lib.getD_mem (0, false, false) _ i (by omega)); omega) | (have h3 := num_le3 (List.getD s.2.2.2 i (0, false, false)).1; (try simp only [List.length_append, List.length_cons, List.length_nil, List.length_take, List.length_map]); omega))), (show (i : Int) < List.length s.2.2.2 from (by first | omega | (have z := hr _ (Lib.getD_mem (0, false, false) _ i (by omega)); omega) | (have h3 := num_le3 (List.getD s.2.2.2 i (0, false, false)).1; (try simp only [List.length_append, List.length_cons, List.length_nil, List.length_take, List.length_map]); omega)))⟩ ?_
   refine gB ((List.getD s.2.2.2 i (0, false, false)).2.2) (fun hc4 => ?_) fun hc4 => ?_
   ·
    try simp only [xT, xF] at hc4
    refine gR [] [List.length (numS ((List.getD s.2.2.2 i (0, false, false)).1) : List UInt8) + List.length ([35] : List UInt8) ≤ maxLen] 41 [(1, vp 1 0), (3, vo 3), (4, vc (i6 (i : Int))), (5, vc (st ((numS ((List.getD s.2.2.2 i (0, false, false)).1)) ++ [35])))] [(1, AObj.row [.s (i6 s.1), .s (bo s.2.1), .s (i6 s.2.2.1), .s (Secret.slR s.2.2.2)]), (3, AObj.grow 9 1 Bytes [] AL.Fnv.rowS ((List.take i s.2.2.2).map rowT))] (show List.length (numS ((List.getD s.2.2.2 i (0, false, false)).1) : List UInt8) + List.length ([35] : List UInt8) ≤ maxLen from (by simp only [List.length_append, List.length_cons, List.length_nil, maxLen]; first | omega | (first | omega | (have z := hr _ (Lib.getD_mem (0, false, false) _ i (by omega)); omega) | (have h3 := num_le3 (List.getD s.2.2.2 i (0, false, false)).1; (try simp only [List.length_append, List.length_cons, List.length_nil, List.length_take, List.length_map]); omega)))) ?_
    refine gR [(2, CE.obj (AObj.grow 9 1 Bytes [] AL.Fnv.rowS [(numS ((List.getD s.2.2.2 i (0, false, false)).1)) ++ [35]])), (3, CE.obj (AObj.grow 9 1 Bytes [] AL.Fnv.rowS (((List.take i s.2.2.2).map rowT) ++ [(numS ((List.getD s.2.2.2 i (0, false, false)).1)) ++ [35]])))] [flat 1 AL.Fnv.rowS [(numS ((List.getD s.2.2.2 i (0, false, false)).1)) ++ [35]] = [.s (st ((numS ((List.getD s.2.2.2 i (0, false, false)).1)) ++ [35]))], List.length ([(numS ((List.getD s.2.2.2 i (0, false, false)).1)) ++ [35]] : List Bytes) = 1, AppC (flat 1 AL.Fnv.rowS [(numS ((List.getD s.2.2.2 i (0, false, false)).1)) ++ [35]]) (List.length ([(numS ((List.getD s.2.2.2 i (0, false, false)).1)) ++ [35]] : List Bytes)) 16 (AObj.grow 9 1 Bytes [] AL.Fnv.rowS ((List.take i s.2.2.2).map rowT)) (AObj.grow 9 1 Bytes [] AL.Fnv.rowS (((List.take i s.2.2.2).map rowT) ++ [(numS ((List.getD s.2.2.2 i (0, false, false)).1)) ++ [35]]))] 41 [(1, vp 1 0), (3, vo 39), (4, vc (i6 (i : Int)))] [(1, AObj.row [.s (i6 s.1), .s (bo s.2.1), .s (i6 s.2.2.1), .s (Secret.slR s.2.2.2)]), (39, AObj.grow 9 1 Bytes [] AL.Fnv.rowS (((List.take i s.2.2.2).map rowT) ++ [(numS ((List.getD s.2.2.2 i (0, false, false)).1)) ++ [35]]))] ⟨rfl, rfl, (⟨_, rfl, rfl, rfl, by simp only [List.length_append, List.length_cons, List.length_nil, List.length_take, List.length_map]; omega, by simp only [maxLen, List.length_append, List.length_cons, List.length_nil, List.length_take, List.length_map]; omega⟩)⟩ ?_
    refine AMx.blk ?_
    refine gR [] [InR .i64 ((i : Int) + 1)] 41 [(1, vp 1 0), (3, vo 39), (4, vc (i6 ((i : Int) + 1)))] [(1, AObj.row [.s (i6 s.1), .s (bo s.2.1), .s (i6 s.2.2.1), .s (Secret.slR s.2.2.2)]), (39, AObj.grow 9 1 Bytes [] AL.Fnv.rowS (((List.take i s.2.2.2).map rowT) ++ [(numS ((List.getD s.2.2.2 i (0, false, false)).1)) ++ [35]]))] (show InR .i64 ((i : Int) + 1) from (inR64 (by first | omega | (have z := hr _ (Lib.getD_mem (0, false, false) _ i (by omega)); omega) | (have h3 := num_le3 (List.getD s.2.2.2 i (0, false, false)).1; (try simp only [List.length_append, List.length_cons, List.length_nil, List.length_take, List.length_map]); omega)) (by first | omega | (have z := hr _ (Lib.getD_mem (0, false, false) _ i (by omega)); omega) | (have h3 := num_le3 (List.getD s.2.2.2 i (0, false, false)).1; (try simp only [List.length_append, List.length_cons, List.length_nil, List.length_take, List.length_map]); omega)))) ?_
    refine AMx.ent_inv (s' := AS.lst 41 [(1, vp 1 0), (3, vo 3), (4, vc (i6 ((i : Int) + 1)))] [(1, AObj.row [.s (i6 s.1), .s (bo s.2.1), .s (i6 s.2.2.1), .s (Secret.slR s.2.2.2)]), (3, AObj.grow 9 1 Bytes [] AL.Fnv.rowS (((List.take i s.2.2.2).map rowT) ++ [(numS ((List.getD s.2.2.2 i (0, false, false)).1)) ++ [35]]))]) (ent_swap 39 3 (by kernel_rfl) (by kernel_rfl)) ?_
    refine AMx.ent_inv (s' := AS.lst 41 [(1, vp 1 0), (3, vo 3), (4, vc (i6 ((i : Int) + 1)))] [(1, AObj.row [.s (i6 s.1), .s (bo s.2.1), .s (i6 s.2.2.1), .s (Secret.slR s.2.2.2)]), (3, AObj.grow 9 1 Bytes [] AL.Fnv.rowS (((List.take i s.2.2.2).map rowT) ++ [(numS ((List.getD s.2.2.2 i (0, false, false)).1)) ++ [35]]))]) (ent_proj [1, 3, 4] [1, 3]) ?_
    refine AMx.inv ⟨_, ?_, i + 1, ?_, rfl, ?_⟩
    rotate_left
    · omega
    · rw [← rowsT_step s.2.2.2 i (by omega), rowT_ny (x := List.getD s.2.2.2 i (0, false, false)) (by assumption) (by assumption)]; rfl
    · omega
   ·
    try simp only [xT, xF] at hc4
    refine AMx.skip ?_
    refine gR [(2, CE.obj (AObj.grow 9 1 Bytes [] AL.Fnv.rowS [numS ((List.getD s.2.2.2 i (0, false, false)).1)])), (3, CE.obj (AObj.grow 9 1 Bytes [] AL.Fnv.rowS (((List.take i s.2.2.2).map rowT) ++ [numS ((List.getD s.2.2.2 i (0, false, false)).1)])))] [flat 1 AL.Fnv.rowS [numS ((List.getD s.2.2.2 i (0, false, false)).1)] = [.s (st (numS ((List.getD s.2.2.2 i (0, false, false)).1)))], List.length ([numS ((List.getD s.2.2.2 i (0, false, false)).1)] : List Bytes) = 1, AppC (flat 1 AL.Fnv.rowS [numS ((List.getD s.2.2.2 i (0, false, false)).1)]) (List.length ([numS ((List.getD s.2.2.2 i (0, false, false)).1)] : List Bytes)) 16 (AObj.grow 9 1 Bytes [] AL.Fnv.rowS ((List.take i s.2.2.2).map rowT)) (AObj.grow 9 1 Bytes [] AL.Fnv.rowS (((List.take i s.2.2.2).map rowT) ++ [numS ((List.getD s.2.2.2 i (0, false, false)).1)]))] 41 [(1, vp 1 0), (3, vo 39), (4, vc (i6 (i : Int)))] [(1, AObj.row [.s (i6 s.1), .s (bo s.2.1), .s (i6 s.2.2.1), .s (Secret.slR s.2.2.2)]), (39, AObj.grow 9 1 Bytes [] AL.Fnv.rowS (((List.take i s.2.2.2).map rowT) ++ [numS ((List.getD s.2.2.2 i (0, false, false)).1)]))] ⟨rfl, rfl, (⟨_, rfl, rfl, rfl, by simp only [List.length_append, List.length_cons, List.length_nil, List.length_take, List.length_map]; omega, by simp only [maxLen, List.length_append, List.length_cons, List.length_nil, List.length_take, List.length_map]; omega⟩)⟩ ?_
    refine AMx.blk ?_
    refine gR [] [InR .i64 ((i : Int) + 1)] 41 [(1, vp 1 0), (3, vo 39), (4, vc (i6 ((i : Int) + 1)))] [(1, AObj.row [.s (i6 s.1), .s (bo s.2.1), .s (i6 s.2.2.1), .s (Secret.slR s.2.2.2)]), (39, AObj.grow 9 1 Bytes [] AL.Fnv.rowS (((List.take i s.2.2.2).map rowT) ++ [numS ((List.getD s.2.2.2 i (0, false, false)).1)]))] (show InR .i64 ((i : Int) + 1) from (inR64 (by first | omega | (have z := hr _ (Lib.getD_mem (0, false, false) _ i (by omega)); omega) | (have h3 := num_le3 (List.getD s.2.2.2 i (0, false, false)).1; (try simp only [List.length_append, List.length_cons, List.length_nil, List.length_take, List.length_map]); omega)) (by first | omega | (have z := hr _ (Lib.getD_mem (0, false, false) _ i (by omega)); omega) | (have h3 := num_le3 (List.getD s.2.2.2 i (0, false, false)).1; (try simp only [List.length_append, List.length_cons, List.length_nil, List.length_take, List.length_map]); omega)))) ?_
    refine AMx.ent_inv (s' := AS.lst 41 [(1, vp 1 0), (3, vo 3), (4, vc (i6 ((i : Int) + 1)))] [(1, AObj.row [.s (i6 s.1), .s (bo s.2.1), .s (i6 s.2.2.1), .s (Secret.slR s.2.2.2)]), (3, AObj.grow 9 1 Bytes [] AL.Fnv.rowS (((List.take i s.2.2.2).map rowT) ++ [numS ((List.getD s.2.2.2 i (0, false, false)).1)]))]) (ent_swap 39 3 (by kernel_rfl) (by kernel_rfl)) ?_
    refine AMx.ent_inv (s' := AS.lst 41 [(1, vp 1 0), (3, vo 3), (4, vc (i6 ((i : Int) + 1)))] [(1, AObj.row [.s (i6 s.1), .s (bo s.2.1), .s (i6 s.2.2.1), .s (Secret.slR s.2.2.2)]), (3, AObj.grow 9 1 Bytes [] AL.Fnv.rowS (((List.take i s.2.2.2).map rowT) ++ [numS ((List.getD s.2.2.2 i (0, false, false)).1)]))]) (ent_proj [1, 3, 4] [1, 3]) ?_
    refine AMx.inv ⟨_, ?_, i + 1, ?_, rfl, ?_⟩
    rotate_left
    · omega
    · rw [← rowsT_step s.2.2.2 i (by omega), rowT_nn (x := List.getD s.2.2.2 i (0, false, false)) (by assumption) (by assumption)]; rfl
    · omega
 ·
  refine AMx.exit ?_
  refine AMx.code_exit ?_
  refine AMx.inv_exit ?_
  refine AMx.blk_exit ?_
  rw [show List.take i s.2.2.2 = s.2.2.2 from List.take_of_length_le (by omega)]
  refine gS [] [] 41 [(2, vo 3)] [(3, AObj.grow 9 1 Bytes [] AL.Fnv.rowS (s.2.2.2.map rowT))] trivial ?_
  refine AMx.ent (s' := AS.lst 41 [(2, vc (AL.Fnv.slS (s.2.2.2.map rowT)))] []) (ent_freeze (id := 3) (T := 9) (by kernel_rfl)) ?_
  exact gT (vc (AL.Fnv.slS (s.2.2.2.map rowT))) rfl
theorem f39_body : Tryd.f39.body = some (.seq (.region 0 (rg Tryd.f39 0) false) (.seq (.seq (.region 1 (rg Tryd.f39 1) false) (.cond (.tmp 10) (.seq (.region 2 (rg Tryd.f39 2) false) (.ret)) (.skip))) (.seq (.seq (.region 3 (rg Tryd.f39 3) false) (.block 0 (.loop (.seq (.seq (.region 4 (rg Tryd.f39 4) false) (.cond (.tmp 14) (.skip) (.exit 0))) (.seq (.block 1 (.seq (.region 6 (rg Tryd.f39 6) true) (.cond (.tmp 25) (.seq (.region 7 (rg Tryd.f39 7) false) (.ret)) (.skip)))) (.region 5 (rg Tryd.f39 5) false)))))) (.seq (.region 8 (rg Tryd.f39 8) false) (.ret))))) := by kernel_rfl
set_option maxRecDepth 100000 in
set_option maxHeartbeats 8000000 in
theorem SameTexts_c (a b : List Bytes) : Pure Tryd.prog 39 [tc (AL.Fnv.slS a), tc (AL.Fnv.slS b)] (vc (bo (decide (a = b)))) := by
 refine Pure.of_body Tryd.func39 f39_body (by kernel_rfl) Tryd.ntmps39 (by kernel_rfl) (by kernel_rfl) ?_
 refine AMx.sl 0 (l := a) rfl (fun hl => ?_)
 simp only [maxLen] at hl
 refine gS [] [] 26 [(0, vc (AL.Fnv.slS a)), (1, vc (AL.Fnv.slS b))] [] trivial ?_
 refine gQ ?_
 refine gS [] [] 26 [(0, vc (AL.Fnv.slS a)), (1, vc (AL.Fnv.slS b)), (10, vc (bo (!decide ((List.length a : Int) = (List.length b : Int)))))] [] trivial ?_
 refine gN ((List.length a : Int) = (List.length b : Int)) (fun hc1 => ?_) fun hc1 => ?_
 ·
  refine gS [] [] 26 [(4, vc (bo false))] [] trivial ?_
  exact gT (vc (bo false)) (by rw [decide_eq_false (fun h => by subst h; simp_all)])
 ·
  refine AMx.skip ?_
  refine gQ ?_
  refine gS [] [] 26 [(0, vc (AL.Fnv.slS a)), (1, vc (AL.Fnv.slS b)), (5, vc (i6 0))] [] trivial ?_
  refine AMx.block ?_
  refine AMx.ent (s' := AS.lst 26 [(0, vc (AL.Fnv.slS a)), (1, vc (AL.Fnv.slS b)), (5, vc (i6 0))] []) (ent_proj [0, 1, 5] []) ?_
  refine AMx.loop (fun mm ss => ∃ (i : Nat), (i ≤ a.length ∧ List.take i a = List.take i b) ∧ mm = a.length - i ∧ ss = AS.lst 26 [(0, vc (AL.Fnv.slS a)), (1, vc (AL.Fnv.slS b)), (5, vc (i6 (i : Int)))] []) ⟨0, ?_, rfl, ?_⟩ ?_
  · exact ⟨by omega, rfl⟩
  · rfl
  rintro mm ss ⟨i, ⟨hI, hE⟩, rfl, rfl⟩
  refine gQ ?_
  refine gS [] [] 26 [(0, vc (AL.Fnv.slS a)), (1, vc (AL.Fnv.slS b)), (5, vc (i6 (i : Int))), (14, vc (bo (decide ((i : Int) < (List.length a : Int)))))] [] trivial ?_
  refine gC ((i : Int) < (List.length a : Int)) (fun hc2 => ?_) fun hc2 => ?_
  ·
   refine AMx.skip ?_
   refine gQ ?_
   refine AMx.block ?_
   refine gY [] [] [(0 : Int) ≤ (i : Int), (i : Int) < List.length a, (0 : Int) ≤ (i : Int), (i : Int) < List.length b] 26 [(0, vc (AL.Fnv.slS a)), (1, vc (AL.Fnv.slS b)), (5, vc (i6 (i : Int))), (25, vc (bo (!decide ((List.getD a i []) = (List.getD b i [])))))] [] mixed ⟨(show (0 : Int) ≤ (i : Int) from (by omega)), (show (i : Int) < List.length a from (by omega)), (show (0 : Int) ≤ (i : Int) from (by omega)), (show (i : Int) < List.length b from (by omega))⟩ ?_
   refine gN ((List.getD a i []) = (List.getD b i [])) (fun hc3 => ?_) fun hc3 => ?_
   ·
    refine gS [] [] 26 [(4, vc (bo false))] [] trivial ?_
    exact gT (vc (bo false)) (by rw [decide_eq_false (fun h => by subst h; simp_all)])
   ·
    refine AMx.skip ?_
    refine AMx.blk ?_
    refine gR [] [InR .i64 ((i : Int) + 1)] 26 [(0, vc (AL.Fnv.slS a)), (1, vc (AL.Fnv.slS b)), (5, vc (i6 ((i : Int) + 1)))] [] (show InR .i64 ((i : Int) + 1) from (inR64 (by omega) (by omega))) ?_
    refine AMx.ent_inv (s' := AS.lst 26 [(0, vc (AL.Fnv.slS a)), (1, vc (AL.Fnv.slS b)), (5, vc (i6 ((i : Int) + 1)))] []) (ent_proj [0, 1, 5] []) ?_
    refine AMx.inv ⟨_, ?_, i + 1, ?_, rfl, ?_⟩
    rotate_left
    · exact ⟨by omega, Lib.same_step [] a b i (by omega) (by omega) hE (by grind)⟩
    · rfl
    · omega
  ·
   refine AMx.exit ?_
   refine AMx.code_exit ?_
   refine AMx.inv_exit ?_
   refine AMx.blk_exit ?_
   refine gS [] [] 26 [(4, vc (bo true))] [] trivial ?_
   exact gT (vc (bo true)) (by rw [decide_eq_true (Lib.same_end a b i (by omega) (by omega) hE)])
theorem f14_body : Tryd.f14.body = some (.seq (.region 0 (rg Tryd.f14 0) false) (.seq (.region 1 (rg Tryd.f14 1) false) (.ret))) := by kernel_rfl
set_option maxRecDepth 100000 in
set_option maxHeartbeats 8000000 in
theorem RSame_c (a b : RepV) : Pure Tryd.prog 14 [TV.agg [.s (u8 a.kind), .s (i6 a.err), .s (i6 a.n), .s (st a.data), .s (AL.Fnv.slS a.names), .s (i6 a.sec.1), .s (bo a.sec.2.1), .s (i6 a.sec.2.2.1), .s (Secret.slR a.sec.2.2.2), .s (bo a.flag)], TV.agg [.s (u8 b.kind), .s (i6 b.err), .s (i6 b.n), .s (st b.data), .s (AL.Fnv.slS b.names), .s (i6 b.sec.1), .s (bo b.sec.2.1), .s (i6 b.sec.2.2.1), .s (Secret.slR b.sec.2.2.2), .s (bo b.flag)]] (vc (bo (decide (a = b)))) := by
 refine Pure.of_body Tryd.func14 f14_body (by kernel_rfl) Tryd.ntmps14 (by kernel_rfl) (by kernel_rfl) ?_
 refine gS [] [] 52 [(2, vp 2 0), (3, vp 3 0)] [(2, AObj.row [.s (u8 a.kind), .s (i6 a.err), .s (i6 a.n), .s (st a.data), .s (AL.Fnv.slS a.names), .s (i6 a.sec.1), .s (bo a.sec.2.1), .s (i6 a.sec.2.2.1), .s (Secret.slR a.sec.2.2.2), .s (bo a.flag)]), (3, AObj.row [.s (u8 b.kind), .s (i6 b.err), .s (i6 b.n), .s (st b.data), .s (AL.Fnv.slS b.names), .s (i6 b.sec.1), .s (bo b.sec.2.1), .s (i6 b.sec.2.2.1), .s (Secret.slR b.sec.2.2.2), .s (bo b.flag)])] trivial ?_
 refine gS [(38, CE.call [] [] (vc (bo (decide (a.names = b.names)))) []), (45, CE.call [] [] (vc (bo (decide (a.sec = b.sec)))) [])] [((decide (a.kind = b.kind)) = true) → allP [], ((decide (a.kind = b.kind)) = true) → allP [(decide (a.kind = b.kind)) = true], ((decide (a.kind = b.kind)) = true) → allP [], ((decide (a.kind = b.kind)) = true) → allP [(decide (a.kind = b.kind)) = true], ((decide (a.kind = b.kind)) = true) → allP [(decide (a.kind = b.kind)) = true, (decide (a.kind = b.kind)) = true], (decide (a.kind = b.kind)) = true → allP [(decide (a.kind = b.kind)) = true], (((decide (a.kind = b.kind)) && (decide (a.err = b.err))) = true) → allP [], (((decide (a.kind = b.kind)) && (decide (a.err = b.err))) = true) → allP [((decide (a.kind = b.kind)) && (decide (a.err = b.err))) = true], (((decide (a.kind = b.kind)) && (decide (a.err = b.err))) = true) → allP [], (((decide (a.kind = b.kind)) && (decide (a.err = b.err))) = true) → allP [((decide (a.kind = b.kind)) && (decide (a.err = b.err))) = true], (((decide (a.kind = b.kind)) && (decide (a.err = b.err))) = true) → allP [((decide (a.kind = b.kind)) && (decide (a.err = b.err))) = true, ((decide (a.kind = b.kind)) && (decide (a.err = b.err))) = true], ((decide (a.kind = b.kind)) && (decide (a.err = b.err))) = true → allP [((decide (a.kind = b.kind)) && (decide (a.err = b.err))) = true], ((((decide (a.kind = b.kind)) && (decide (a.err = b.err))) && (decide (a.n = b.n))) = true) → allP [], ((((decide (a.kind = b.kind)) && (decide (a.err = b.err))) && (decide (a.n = b.n))) = true) → allP [(((decide (a.kind = b.kind)) && (decide (a.err = b.err))) && (decide (a.n = b.n))) = true], ((((decide (a.kind = b.kind)) && (decide (a.err = b.err))) && (decide (a.n = b.n))) = true) → allP [], ((((decide (a.kind = b.kind)) && (decide (a.err = b.err))) && (decide (a.n = b.n))) = true) → allP [(((decide (a.kind = b.kind)) && (decide (a.err = b.err))) && (decide (a.n = b.n))) = true], ((((decide (a.kind = b.kind)) && (decide (a.err = b.err))) && (decide (a.n = b.n))) = true) → allP [(((decide (a.kind = b.kind)) && (decide (a.err = b.err))) && (decide (a.n = b.n))) = true, (((decide (a.kind = b.kind)) && (decide (a.err = b.err))) && (decide (a.n = b.n))) = true], (((decide (a.kind = b.kind)) && (decide (a.err = b.err))) && (decide (a.n = b.n))) = true → allP [(((decide (a.kind = b.kind)) && (decide (a.err = b.err))) && (decide (a.n = b.n))) = true], (((((decide (a.kind = b.kind)) && (decide (a.err = b.err))) && (decide (a.n = b.n))) && (decide (a.data = b.data))) = true) → allP [], (((((decide (a.kind = b.kind)) && (decide (a.err = b.err))) && (decide (a.n = b.n))) && (decide (a.data = b.data))) = true) → allP [((((decide (a.kind = b.kind)) && (decide (a.err = b.err))) && (decide (a.n = b.n))) && (decide (a.data = b.data))) = true], (((((decide (a.kind = b.kind)) && (decide (a.err = b.err))) && (decide (a.n = b.n))) && (decide (a.data = b.data))) = true) → allP [], (((((decide (a.kind = b.kind)) && (decide (a.err = b.err))) && (decide (a.n = b.n))) && (decide (a.data = b.data))) = true) → allP [((((decide (a.kind = b.kind)) && (decide (a.err = b.err))) && (decide (a.n = b.n))) && (decide (a.data = b.data))) = true], (((((decide (a.kind = b.kind)) && (decide (a.err = b.err))) && (decide (a.n = b.n))) && (decide (a.data = b.data))) = true) → allP [((((decide (a.kind = b.kind)) && (decide (a.err = b.err))) && (decide (a.n = b.n))) && (decide (a.data = b.data))) = true, ((((decide (a.kind = b.kind)) && (decide (a.err = b.err))) && (decide (a.n = b.n))) && (decide (a.data = b.data))) = true], ((((decide (a.kind = b.kind)) && (decide (a.err = b.err))) && (decide (a.n = b.n))) && (decide (a.data = b.data))) = true → allP [((((decide (a.kind = b.kind)) && (decide (a.err = b.err))) && (decide (a.n = b.n))) && (decide (a.data = b.data))) = true], ((((((decide (a.kind = b.kind)) && (decide (a.err = b.err))) && (decide (a.n = b.n))) && (decide (a.data = b.data))) && (a.flag == b.flag)) = true) → allP [], ((((((decide (a.kind = b.kind)) && (decide (a.err = b.err))) && (decide (a.n = b.n))) && (decide (a.data = b.data))) && (a.flag == b.flag)) = true) → allP [(((((decide (a.kind = b.kind)) && (decide (a.err = b.err))) && (decide (a.n = b.n))) && (decide (a.data = b.data))) && (a.flag == b.flag)) = true], ((((((decide (a.kind = b.kind)) && (decide (a.err = b.err))) && (decide (a.n = b.n))) && (decide (a.data = b.data))) && (a.flag == b.flag)) = true) → allP [], ((((((decide (a.kind = b.kind)) && (decide (a.err = b.err))) && (decide (a.n = b.n))) && (decide (a.data = b.data))) && (a.flag == b.flag)) = true) → allP [(((((decide (a.kind = b.kind)) && (decide (a.err = b.err))) && (decide (a.n = b.n))) && (decide (a.data = b.data))) && (a.flag == b.flag)) = true], ((((((decide (a.kind = b.kind)) && (decide (a.err = b.err))) && (decide (a.n = b.n))) && (decide (a.data = b.data))) && (a.flag == b.flag)) = true) → allP [(((((decide (a.kind = b.kind)) && (decide (a.err = b.err))) && (decide (a.n = b.n))) && (decide (a.data = b.data))) && (a.flag == b.flag)) = true, (((((decide (a.kind = b.kind)) && (decide (a.err = b.err))) && (decide (a.n = b.n))) && (decide (a.data = b.data))) && (a.flag == b.flag)) = true, Spec Tryd.prog 39 [tc (AL.Fnv.slS a.names), tc (AL.Fnv.slS b.names)] (ofH []) (vc (bo (decide (a.names = b.names)))) (ofH [])], (((((decide (a.kind = b.kind)) && (decide (a.err = b.err))) && (decide (a.n = b.n))) && (decide (a.data = b.data))) && (a.flag == b.flag)) = true → allP [(((((decide (a.kind = b.kind)) && (decide (a.err = b.err))) && (decide (a.n = b.n))) && (decide (a.data = b.data))) && (a.flag == b.flag)) = true], (((((((decide (a.kind = b.kind)) && (decide (a.err = b.err))) && (decide (a.n = b.n))) && (decide (a.data = b.data))) && (a.flag == b.flag)) && (decide (a.names = b.names))) = true) → allP [], (((((((decide (a.kind = b.kind)) && (decide (a.err = b.err))) && (decide (a.n = b.n))) && (decide (a.data = b.data))) && (a.flag == b.flag)) && (decide (a.names = b.names))) = true) → allP [((((((decide (a.kind = b.kind)) && (decide (a.err = b.err))) && (decide (a.n = b.n))) && (decide (a.data = b.data))) && (a.flag == b.flag)) && (decide (a.names = b.names))) = true], (((((((decide (a.kind = b.kind)) && (decide (a.err = b.err))) && (decide (a.n = b.n))) && (decide (a.data = b.data))) && (a.flag == b.flag)) && (decide (a.names = b.names))) = true) → allP [], (((((((decide (a.kind = b.kind)) && (decide (a.err = b.err))) && (decide (a.n = b.n))) && (decide (a.data = b.data))) && (a.flag == b.flag)) && (decide (a.names = b.names))) = true) → allP [((((((decide (a.kind = b.kind)) && (decide (a.err = b.err))) && (decide (a.n = b.n))) && (decide (a.data = b.data))) && (a.flag == b.flag)) && (decide (a.names = b.names))) = true], (((((((decide (a.kind = b.kind)) && (decide (a.err = b.err))) && (decide (a.n = b.n))) && (decide (a.data = b.data))) && (a.flag == b.flag)) && (decide (a.names = b.names))) = true) → allP [((((((decide (a.kind = b.kind)) && (decide (a.err = b.err))) && (decide (a.n = b.n))) && (decide (a.data = b.data))) && (a.flag == b.flag)) && (decide (a.names = b.names))) = true, ((((((decide (a.kind = b.kind)) && (decide (a.err = b.err))) && (decide (a.n = b.n))) && (decide (a.data = b.data))) && (a.flag == b.flag)) && (decide (a.names = b.names))) = true, Spec Tryd.prog 36 [TV.agg [.s (i6 a.sec.1), .s (bo a.sec.2.1), .s (i6 a.sec.2.2.1), .s (Secret.slR a.sec.2.2.2)], TV.agg [.s (i6 b.sec.1), .s (bo b.sec.2.1), .s (i6 b.sec.2.2.1), .s (Secret.slR b.sec.2.2.2)]] (ofH []) (vc (bo (decide (a.sec = b.sec)))) (ofH [])], ((((((decide (a.kind = b.kind)) && (decide (a.err = b.err))) && (decide (a.n = b.n))) && (decide (a.data = b.data))) && (a.flag == b.flag)) && (decide (a.names = b.names))) = true → allP [((((((decide (a.kind = b.kind)) && (decide (a.err = b.err))) && (decide (a.n = b.n))) && (decide (a.data = b.data))) && (a.flag == b.flag)) && (decide (a.names = b.names))) = true]] 52 [(4, vc (bo (((((((decide (a.kind = b.kind)) && (decide (a.err = b.err))) && (decide (a.n = b.n))) && (decide (a.data = b.data))) && (a.flag == b.flag)) && (decide (a.names = b.names))) && (decide (a.sec = b.sec)))))] [] ⟨(fun _ => trivial), (fun hp => hp), (fun _ => trivial), (fun hp => hp), (fun hp => ⟨hp, hp⟩), (fun hp2 => (by first | exact hp2 | exact ⟨hp, hp2⟩)), (fun _ => trivial), (fun hp => hp), (fun _ => trivial), (fun hp => hp), (fun hp => ⟨hp, hp⟩), (fun hp2 => (by first | exact hp2 | exact ⟨hp, hp2⟩)), (fun _ => trivial), (fun hp => hp), (fun _ => trivial), (fun hp => hp), (fun hp => ⟨hp, hp⟩), (fun hp2 => (by first | exact hp2 | exact ⟨hp, hp2⟩)), (fun _ => trivial), (fun hp => hp), (fun _ => trivial), (fun hp => hp), (fun hp => ⟨hp, hp⟩), (fun hp2 => (by first | exact hp2 | exact ⟨hp, hp2⟩)), (fun _ => trivial), (fun hp => hp), (fun _ => trivial), (fun hp => hp), (fun hp => by have hq := hp; (try simp only [decide_eq_true_eq, decide_eq_false_iff_not, Bool.and_eq_true, Bool.or_eq_true, Bool.and_eq_false_iff, Bool.or_eq_false_iff, Bool.not_eq_true', Bool.not_eq_false', Bool.not_eq_true, Bool.not_eq_false] at hq); exact ⟨hp, hp, (SameTexts_c a.names b.names)⟩), (fun hp2 => (by first | exact hp2 | exact ⟨hp, hp2⟩)), (fun _ => trivial), (fun hp => hp), (fun _ => trivial), (fun hp => hp), (fun hp => by have hq := hp; (try simp only [decide_eq_true_eq, decide_eq_false_iff_not, Bool.and_eq_true, Bool.or_eq_true, Bool.and_eq_false_iff, Bool.or_eq_false_iff, Bool.not_eq_true', Bool.not_eq_false', Bool.not_eq_true, Bool.not_eq_false] at hq); exact ⟨hp, hp, (Secret.RSame_c a.sec b.sec)⟩), (fun hp2 => (by first | exact hp2 | exact ⟨hp, hp2⟩))⟩ ?_
 exact gT (vc (bo (((((((decide (a.kind = b.kind)) && (decide (a.err = b.err))) && (decide (a.n = b.n))) && (decide (a.data = b.data))) && (a.flag == b.flag)) && (decide (a.names = b.names))) && (decide (a.sec = b.sec))))) (by rw [same_ref])
end AL.Reply
namespace AL.Reply
open Go AL
open AL.Sep (splitC joinC)
open AL.Ask (numS scanN valS sizeB digB hexS unhexS dg)
open AL.Secret (RowV Sec Rul slR rowR checkS)
set_option linter.unusedVariables false
set_option linter.unusedSimpArgs false
theorem parts_iff (r : RepV) : r = partsS r ↔ (¬ r.kind = 0 → r.err = 0) ∧ (¬ r.kind = 2 → ¬ r.kind = 3 → r.n = 0) ∧ (¬ r.kind = 3 → r.data = []) ∧ (¬ r.kind = 5 → r.names = []) ∧ (¬ r.kind = 4 → r.sec = (0, false, 0, [])) ∧ (¬ r.kind = 6 → r.flag = false) := by
  rw [RepV.eq_iff]
  unfold partsS
  grind
theorem names_iff (l : List Bytes) : (¬ 0 ≤ Lib.idxS (fun x : Bytes => !nameS x) l) ↔ ∀ x ∈ l, nameS x = true := by
  constructor
  · intro h x hx
    have := Lib.idx_neg (p := fun x : Bytes => !nameS x) (by omega) x hx
    simpa using this
  · intro h q
    have := Lib.idx_none (p := fun x : Bytes => !nameS x) (l := l) (fun x hx => by simp [h x hx])
    omega
theorem ref_check (r : RepV) : (r = partsS r ∧ FitR r) ↔ ((r.kind = 0 → 1 ≤ r.err ∧ r.err ≤ 99) ∧ (¬ r.kind = 0 → r.err = 0)) ∧ ((0 ≤ r.n ∧ r.n ≤ 999) ∧ (¬ r.kind = 2 → ¬ r.kind = 3 → r.n = 0) ∧ (List.length r.data : Int) ≤ 400 ∧ (¬ r.kind = 3 → r.data = []) ∧ (List.length r.names : Int) ≤ 64 ∧ (¬ r.kind = 5 → r.names = []) ∧ (¬ r.kind = 6 → r.flag = false)) ∧
    (∀ x ∈ r.names, nameS x = true) ∧ (r.kind = 4 → checkS r.sec ((6, false) : Rul) = 0) ∧ (¬ r.kind = 4 → r.sec = (0, false, 0, [])) := by
  rw [parts_iff]
  unfold FitR
  rw [names_iff]
  constructor
  · rintro ⟨⟨p1, p2, p3, p4, p5, p6⟩, hf⟩
    by_cases k0 : r.kind = 0
    · rw [if_pos k0] at hf
      rw [p2 (by omega) (by omega), p3 (by omega), p4 (by omega)]
      exact ⟨⟨fun _ => hf, p1⟩, ⟨⟨by omega, by omega⟩, fun _ _ => rfl, by simp, fun _ => rfl, by simp, fun _ => rfl, p6⟩, by simp, fun h => by omega, p5⟩
    rw [if_neg k0] at hf
    by_cases k2 : r.kind = 2
    · rw [if_pos k2] at hf
      rw [p4 (by omega)]
      exact ⟨⟨fun _ => by omega, p1⟩, ⟨⟨hf.1, hf.2.1⟩, p2, hf.2.2, p3, by simp, fun _ => rfl, p6⟩, by simp, fun h => by omega, p5⟩
    rw [if_neg k2] at hf
    by_cases k3 : r.kind = 3
    · rw [if_pos k3] at hf
      rw [p4 (by omega)]
      exact ⟨⟨fun _ => by omega, p1⟩, ⟨⟨hf.1, hf.2.1⟩, p2, hf.2.2, p3, by simp, fun _ => rfl, p6⟩, by simp, fun h => by omega, p5⟩
    rw [if_neg k3] at hf
    by_cases k4 : r.kind = 4
    · rw [if_pos k4] at hf
      rw [p2 k2 k3, p3 k3, p4 (by omega)]
      exact ⟨⟨fun _ => by omega, p1⟩, ⟨⟨by omega, by omega⟩, fun _ _ => rfl, by simp, fun _ => rfl, by simp, fun _ => rfl, p6⟩, by simp, fun _ => hf, p5⟩
    rw [if_neg k4] at hf
    by_cases k5 : r.kind = 5
    · rw [if_pos k5] at hf
      rw [p2 k2 k3, p3 k3]
      exact ⟨⟨fun _ => by omega, p1⟩, ⟨⟨by omega, by omega⟩, fun _ _ => rfl, by simp, fun _ => rfl, hf.1, p4, p6⟩, hf.2, fun h => by omega, p5⟩
    · rw [p2 k2 k3, p3 k3, p4 k5]
      exact ⟨⟨fun _ => by omega, p1⟩, ⟨⟨by omega, by omega⟩, fun _ _ => rfl, by simp, fun _ => rfl, by simp, fun _ => rfl, p6⟩, by simp, fun h => by omega, p5⟩
  · rintro ⟨⟨q1, q2⟩, ⟨q3, q4, q5, q6, q7, q8, q9⟩, q10, q11, q12⟩
    refine ⟨⟨q2, q4, q6, q8, q12, q9⟩, ?_⟩
    split
    · exact q1 (by assumption)
    · split
      · exact ⟨q3.1, q3.2, q5⟩
      · split
        · exact ⟨q3.1, q3.2, q5⟩
        · split
          · exact q11 (by assumption)
          · split
            · exact ⟨q7, q10⟩
            · trivial
theorem text_ok {r : RepV} (h : checkR r = 0) : textS r = (joinC 32 (wordsS r), 0) := if_pos h
theorem text_no {r : RepV} (h : ¬ checkR r = 0) : textS r = ([], checkR r) := if_neg h
def NamesTo (l : List Bytes) (i : Nat) : Prop := ∀ x ∈ List.take i l, nameS x = true
theorem namesto_0 (l : List Bytes) : NamesTo l 0 := fun b hb => by simp at hb
theorem namesto_step {l : List Bytes} {i : Nat} (hi : i < l.length) (h : NamesTo l i) (hn : nameS (List.getD l i []) = true) : NamesTo l (i + 1) := by
  intro b hb
  rw [Lib.take_succ [] l i hi] at hb
  rcases List.mem_append.1 hb with q | q
  · exact h b q
  · rw [List.mem_singleton.1 q]; exact hn
theorem namesto_end {l : List Bytes} {i : Nat} (hi : l.length ≤ i) (h : NamesTo l i) : ∀ x ∈ l, nameS x = true := by
  unfold NamesTo at h; rwa [List.take_of_length_le hi] at h
theorem check_name {r : RepV} {i : Nat} (h : ¬ 6 < r.kind) (hi : i < r.names.length) (hn : nameS (List.getD r.names i []) = false) : checkR r = 2 :=
  check_2 h fun q => by have := ((ref_check r).1 q).2.2.1 _ (Lib.getD_mem [] _ i hi); rw [hn] at this; cases this
end AL.Reply
