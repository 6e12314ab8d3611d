/- The proof library and the contracts that the law reaches: joined by a program. No condition. -/
import Derived.Test.YtlgmdlckjinfcaaGreatDoorTTa
namespace AL.Route
open Go Go.Proofs AL AL.Rune
set_option linter.unusedVariables false
set_option linter.unusedSimpArgs false
theorem f166_body : Tryz.f166.body = some (.seq (.region 0 (rg Tryz.f166 0) false) (.seq (.seq (.region 1 (rg Tryz.f166 1) false) (.cond (.tmp 19) (.seq (.region 2 (rg Tryz.f166 2) false) (.ret)) (.skip))) (.seq (.region 3 (rg Tryz.f166 3) false) (.seq (.seq (.region 4 (rg Tryz.f166 4) false) (.block 0 (.loop (.seq (.region 5 (rg Tryz.f166 5) false) (.seq (.cond (.tmp 23) (.skip) (.exit 0)) (.block 1 (.seq (.region 6 (rg Tryz.f166 6) false) (.seq (.seq (.region 7 (rg Tryz.f166 7) false) (.cond (.tmp 27) (.seq (.region 8 (rg Tryz.f166 8) false) (.ret)) (.skip))) (.region 9 (rg Tryz.f166 9) false))))))))) (.seq (.seq (.region 10 (rg Tryz.f166 10) false) (.cond (.tmp 31) (.seq (.region 11 (rg Tryz.f166 11) false) (.ret)) (.skip))) (.seq (.region 12 (rg Tryz.f166 12) false) (.ret))))))) := by kernel_rfl
set_option maxRecDepth 100000 in
set_option maxHeartbeats 8000000 in
theorem Part_c (s : Bytes) (hb : s.length ≤ 100000) : Pure Tryz.prog 166 [tc (st s)] (vc (i6 (partS s))) := by
 refine Pure.of_body Tryz.func166 f166_body (by kernel_rfl) Tryz.ntmps166 (by kernel_rfl) (by kernel_rfl) ?_
 refine gS [] [] 32 [(0, vc (st s))] [] trivial ?_
 refine gQ ?_
 refine gS [] [((decide (s = [])) = false) → allP [(decide (s = [])) = false], (decide (s = [])) = false → allP [(decide (s = [])) = false], (((decide (s = [])) || (decide (s = [46]))) = false) → allP [((decide (s = [])) || (decide (s = [46]))) = false], ((decide (s = [])) || (decide (s = [46]))) = false → allP [((decide (s = [])) || (decide (s = [46]))) = false], ((((decide (s = [])) || (decide (s = [46]))) || (decide (s = [46, 46]))) = false) → allP [(((decide (s = [])) || (decide (s = [46]))) || (decide (s = [46, 46]))) = false], (((decide (s = [])) || (decide (s = [46]))) || (decide (s = [46, 46]))) = false → allP [(((decide (s = [])) || (decide (s = [46]))) || (decide (s = [46, 46]))) = false]] 32 [(0, vc (st s)), (19, vc (bo ((((decide (s = [])) || (decide (s = [46]))) || (decide (s = [46, 46]))) || (decide (s = [45])))))] [] ⟨(fun hp => hp), (fun hp2 => (by first | exact hp2 | exact ⟨hp, hp2⟩)), (fun hp => hp), (fun hp2 => (by first | exact hp2 | exact ⟨hp, hp2⟩)), (fun hp => hp), (fun hp2 => (by first | exact hp2 | exact ⟨hp, hp2⟩))⟩ ?_
 refine gB (((((decide (s = [])) || (decide (s = [46]))) || (decide (s = [46, 46]))) || (decide (s = [45])))) (fun hc1 => ?_) fun hc1 => ?_
 ·
  try simp only [xT, xF, xO, xP] at hc1
  refine gS [] [] 32 [(2, vc (i6 4))] [] trivial ?_
  exact gT (vc (i6 4)) (by first | rw [part_1 (by simpa [or_assoc, and_assoc] using hc1)] | rw [part_2 (left_bad (by omega) hA (by assumption))])
 ·
  try simp only [xT, xF, xO, xP] at hc1
  refine AMx.skip ?_
  refine gS [] [] 32 [(0, vc (st s)), (3, vc (i6 0))] [] trivial ?_
  refine gQ ?_
  refine gS [] [] 32 [(3, vc (i6 0)), (21, vp 21 0)] [(21, AObj.iter s 0)] trivial ?_
  refine AMx.block ?_
  refine AMx.ent (s' := AS.lst 32 [(3, vc (i6 0)), (21, vp 21 0)] [(21, AObj.iter s 0)]) (ent_proj [3, 21] [21]) ?_
  refine AMx.loop (fun mm ss => ∃ (pos : Nat) (n : Nat), (pos ≤ s.length ∧ LeftAll s pos ∧ LeftN s pos n) ∧ mm = s.length - pos ∧ ss = AS.lst 32 [(3, vc (i6 (n : Int))), (21, vp 21 0)] [(21, AObj.iter s pos)]) ⟨0, 0, ?_, rfl, ?_⟩ ?_
  · exact ⟨Nat.zero_le _, left_0 s, leftN_0 s⟩
  · rfl
  rintro mm ss ⟨pos, n, ⟨hI, hA, hN⟩, rfl, rfl⟩
  refine gQ ?_
  rcases Nat.lt_or_ge pos (List.length s) with hn1 | hn1
  ·
   have hd1 := AL.Rune.dec_ok hn1
   refine gR [(0, CE.str [])] [pos < List.length s, ((pos : Nat) : Int) ≤ 9223372036854775807] 32 [(3, vc (i6 (n : Int))), (21, vp 21 0), (22, AV.tup [tc (bo true), tc (i6 (pos : Int)), tc (i3 ((decS s pos).1 : Int))]), (23, vc (bo true))] [(21, AObj.iter s (pos + (decS s pos).2))] ⟨(by omega), (show ((pos : Nat) : Int) ≤ 9223372036854775807 from (by omega))⟩ ?_
   refine gQ ?_
   refine gBt ?_
   refine AMx.skip ?_
   refine AMx.block ?_
   refine gS [] [] 32 [(3, vc (i6 (n : Int))), (5, vc (i3 ((decS s pos).1 : Int))), (21, vp 21 0)] [(21, AObj.iter s (pos + (decS s pos).2))] trivial ?_
   refine gQ ?_
   refine gS [(1, CE.call [] [] (vc (bo (runeOk ((decS s pos).1 : Int)))) [])] [Spec Tryz.prog 171 [tc (i3 ((decS s pos).1 : Int))] (ofH []) (vc (bo (runeOk ((decS s pos).1 : Int)))) (ofH [])] 32 [(3, vc (i6 (n : Int))), (21, vp 21 0), (27, vc (bo (!(runeOk ((decS s pos).1 : Int)))))] [(21, AObj.iter s (pos + (decS s pos).2))] (Rune_c ((decS s pos).1 : Int)) ?_
   refine gB (!(runeOk ((decS s pos).1 : Int))) (fun hc3 => ?_) fun hc3 => ?_
   ·
    try simp only [xT, xF, xN, xM] at hc3
    refine gS [] [] 32 [(2, vc (i6 4))] [] trivial ?_
    exact gT (vc (i6 4)) (by first | rw [part_1 (by simpa [or_assoc, and_assoc] using hc1)] | rw [part_2 (left_bad (by omega) hA (by assumption))])
   ·
    try simp only [xT, xF, xN, xM] at hc3
    refine AMx.skip ?_
    refine gR [] [InR .i64 ((n : Int) + 1)] 32 [(3, vc (i6 ((n : Int) + 1))), (21, vp 21 0)] [(21, AObj.iter s (pos + (decS s pos).2))] (show InR .i64 ((n : Int) + 1) from (inR64 (by omega) (by first | omega | (have hz := leftN_le hN; omega)))) ?_
    refine AMx.blk ?_
    refine AMx.ent_inv (s' := AS.lst 32 [(3, vc (i6 ((n : Int) + 1))), (21, vp 21 0)] [(21, AObj.iter s (pos + (decS s pos).2))]) (ent_proj [3, 21] [21]) ?_
    refine AMx.inv ⟨_, ?_, pos + (decS s pos).2, n + 1, ?_, rfl, ?_⟩
    rotate_left
    · exact ⟨by omega, left_ok (by omega) hA (by assumption), leftN_step (by omega) hN⟩
    · rfl
    · omega
  ·
   refine gR [] [List.length s ≤ pos] 32 [(3, vc (i6 (n : Int))), (21, vp 21 0), (22, AV.tup [tc (bo false)]), (23, vc (bo false))] [(21, AObj.iter s pos)] (show List.length s ≤ pos from (by omega)) ?_
   refine gQ ?_
   refine gBf ?_
   refine AMx.exit ?_
   refine AMx.code_exit ?_
   refine AMx.inv_exit ?_
   refine AMx.blk_exit ?_
   refine gQ ?_
   refine gS [] [] 32 [(31, vc (bo (decide (12 < (n : Int)))))] [] trivial ?_
   refine gC (12 < (n : Int)) (fun hc5 => ?_) fun hc5 => ?_
   ·
    refine gS [] [] 32 [(2, vc (i6 5))] [] trivial ?_
    exact gT (vc (i6 5)) (by rw [part_3 (by simpa [or_assoc, and_assoc] using hc1) (left_end (by omega) hA) (by have := leftN_end (by omega) hN; omega)])
   ·
    refine AMx.skip ?_
    refine gS [] [] 32 [(2, vc (i6 0))] [] trivial ?_
    exact gT (vc (i6 0)) (by rw [part_4 (by simpa [or_assoc, and_assoc] using hc1) (left_end (by omega) hA) (by have := leftN_end (by omega) hN; omega)])
theorem f104_body : Tryz.f104.body = some (.seq (.region 0 (rg Tryz.f104 0) false) (.seq (.seq (.region 1 (rg Tryz.f104 1) false) (.cond (.tmp 20) (.seq (.region 2 (rg Tryz.f104 2) false) (.ret)) (.skip))) (.seq (.region 3 (rg Tryz.f104 3) false) (.seq (.seq (.region 4 (rg Tryz.f104 4) false) (.block 0 (.loop (.seq (.seq (.region 5 (rg Tryz.f104 5) false) (.cond (.tmp 24) (.skip) (.exit 0))) (.block 1 (.seq (.region 6 (rg Tryz.f104 6) false) (.seq (.seq (.region 7 (rg Tryz.f104 7) false) (.cond (.tmp 33) (.seq (.region 8 (rg Tryz.f104 8) false) (.ret)) (.skip))) (.seq (.region 9 (rg Tryz.f104 9) false) (.region 10 (rg Tryz.f104 10) false))))))))) (.seq (.seq (.region 11 (rg Tryz.f104 11) false) (.cond (.tmp 40) (.seq (.region 12 (rg Tryz.f104 12) false) (.ret)) (.skip))) (.seq (.region 13 (rg Tryz.f104 13) false) (.ret))))))) := by kernel_rfl
set_option maxRecDepth 100000 in
set_option maxHeartbeats 8000000 in
theorem RPart_c (s : Bytes) (hb : s.length ≤ 100000) : Pure Tryz.prog 104 [tc (st s)] (vc (i6 (partS s))) := by
 refine Pure.of_body Tryz.func104 f104_body (by kernel_rfl) Tryz.ntmps104 (by kernel_rfl) (by kernel_rfl) ?_
 refine gS [] [] 41 [(0, vc (st s))] [] trivial ?_
 refine gQ ?_
 refine gS [] [((decide (s = [])) = false) → allP [(decide (s = [])) = false], (decide (s = [])) = false → allP [(decide (s = [])) = false], (((decide (s = [])) || (decide (s = [46]))) = false) → allP [((decide (s = [])) || (decide (s = [46]))) = false], ((decide (s = [])) || (decide (s = [46]))) = false → allP [((decide (s = [])) || (decide (s = [46]))) = false], ((((decide (s = [])) || (decide (s = [46]))) || (decide (s = [46, 46]))) = false) → allP [(((decide (s = [])) || (decide (s = [46]))) || (decide (s = [46, 46]))) = false], (((decide (s = [])) || (decide (s = [46]))) || (decide (s = [46, 46]))) = false → allP [(((decide (s = [])) || (decide (s = [46]))) || (decide (s = [46, 46]))) = false]] 41 [(0, vc (st s)), (20, vc (bo ((((decide (s = [])) || (decide (s = [46]))) || (decide (s = [46, 46]))) || (decide (s = [45])))))] [] ⟨(fun hp => hp), (fun hp2 => (by first | exact hp2 | exact ⟨hp, hp2⟩)), (fun hp => hp), (fun hp2 => (by first | exact hp2 | exact ⟨hp, hp2⟩)), (fun hp => hp), (fun hp2 => (by first | exact hp2 | exact ⟨hp, hp2⟩))⟩ ?_
 refine gB (((((decide (s = [])) || (decide (s = [46]))) || (decide (s = [46, 46]))) || (decide (s = [45])))) (fun hc1 => ?_) fun hc1 => ?_
 ·
  try simp only [xT, xF, xO, xP] at hc1
  refine gS [] [] 41 [(2, vc (i6 4))] [] trivial ?_
  exact gT (vc (i6 4)) (by first | rw [part_1 (by simpa [or_assoc, and_assoc] using hc1)] | rw [part_2 (left_bad (by omega) hA (by rw [← ok_next]; assumption))])
 ·
  try simp only [xT, xF, xO, xP] at hc1
  refine AMx.skip ?_
  refine gS [] [] 41 [(0, vc (st s)), (3, vc (i6 0))] [] trivial ?_
  refine gQ ?_
  refine gS [] [] 41 [(0, vc (st s)), (3, vc (i6 0)), (4, vc (i6 0))] [] trivial ?_
  refine AMx.block ?_
  refine AMx.ent (s' := AS.lst 41 [(0, vc (st s)), (3, vc (i6 0)), (4, vc (i6 0))] []) (ent_proj [0, 3, 4] []) ?_
  refine AMx.loop (fun mm ss => ∃ (pos : Nat) (n : Nat), (pos ≤ s.length ∧ LeftAll s pos ∧ LeftN s pos n) ∧ mm = s.length - pos ∧ ss = AS.lst 41 [(0, vc (st s)), (3, vc (i6 (n : Int))), (4, vc (i6 (pos : Int)))] []) ⟨0, 0, ?_, rfl, ?_⟩ ?_
  · exact ⟨Nat.zero_le _, left_0 s, leftN_0 s⟩
  · rfl
  rintro mm ss ⟨pos, n, ⟨hI, hA, hN⟩, rfl, rfl⟩
  refine gQ ?_
  refine gS [] [] 41 [(0, vc (st s)), (3, vc (i6 (n : Int))), (4, vc (i6 (pos : Int))), (24, vc (bo (decide ((pos : Int) < (List.length s : Int)))))] [] trivial ?_
  refine gC ((pos : Int) < (List.length s : Int)) (fun hc2 => ?_) fun hc2 => ?_
  ·
   refine AMx.skip ?_
   refine AMx.block ?_
   refine gS [(2, CE.call [] [] (AV.tup [tc (i6 ((nextS s pos).1)), tc (i6 ((nextS s pos).2))]) [])] [Spec Tryz.prog 133 [tc (st s), tc (i6 (pos : Int))] (ofH []) (AV.tup [tc (i6 ((nextS s pos).1)), tc (i6 ((nextS s pos).2))]) (ofH [])] 41 [(0, vc (st s)), (3, vc (i6 (n : Int))), (4, vc (i6 (pos : Int))), (5, vc (i6 ((nextS s pos).1))), (6, vc (i6 ((nextS s pos).2)))] [] (Next_c s pos (by omega) (by omega)) ?_
   refine gQ ?_
   refine gS [(1, CE.call [] [] (vc (bo (runeOk ((nextS s pos).1)))) [])] [Spec Tryz.prog 134 [tc (i6 ((nextS s pos).1))] (ofH []) (vc (bo (runeOk ((nextS s pos).1)))) (ofH [])] 41 [(0, vc (st s)), (3, vc (i6 (n : Int))), (4, vc (i6 (pos : Int))), (6, vc (i6 ((nextS s pos).2))), (33, vc (bo (!(runeOk ((nextS s pos).1)))))] [] (RRune_c ((nextS s pos).1)) ?_
   refine gB (!(runeOk ((nextS s pos).1))) (fun hc3 => ?_) fun hc3 => ?_
   ·
    try simp only [xT, xF, xN, xM] at hc3
    refine gS [] [] 41 [(2, vc (i6 4))] [] trivial ?_
    exact gT (vc (i6 4)) (by first | rw [part_1 (by simpa [or_assoc, and_assoc] using hc1)] | rw [part_2 (left_bad (by omega) hA (by rw [← ok_next]; assumption))])
   ·
    try simp only [xT, xF, xN, xM] at hc3
    refine AMx.skip ?_
    refine gS [] [InR .i64 ((n : Int) + 1)] 41 [(0, vc (st s)), (3, vc (i6 ((n : Int) + 1))), (4, vc (i6 (pos : Int))), (6, vc (i6 ((nextS s pos).2)))] [] (show InR .i64 ((n : Int) + 1) from (inR64 (by omega) (by first | omega | (have hz := leftN_le hN; omega) | (have hs := next_size (s := s) (i := pos) (by omega); have hd := dec_ok (s := s) (pos := pos) (by omega); omega)))) ?_
    refine gR [] [InR .i64 ((pos : Int) + ((nextS s pos).2))] 41 [(0, vc (st s)), (3, vc (i6 ((n : Int) + 1))), (4, vc (i6 ((pos : Int) + ((nextS s pos).2))))] [] (show InR .i64 ((pos : Int) + ((nextS s pos).2)) from (inR64 (by first | omega | (have hz := leftN_le hN; omega) | (have hs := next_size (s := s) (i := pos) (by omega); have hd := dec_ok (s := s) (pos := pos) (by omega); omega)) (by first | omega | (have hz := leftN_le hN; omega) | (have hs := next_size (s := s) (i := pos) (by omega); have hd := dec_ok (s := s) (pos := pos) (by omega); omega)))) ?_
    refine AMx.blk ?_
    refine AMx.ent_inv (s' := AS.lst 41 [(0, vc (st s)), (3, vc (i6 ((n : Int) + 1))), (4, vc (i6 ((pos : Int) + ((nextS s pos).2))))] []) (ent_proj [0, 3, 4] []) ?_
    refine AMx.inv ⟨_, ?_, pos + (decS s pos).2, n + 1, ?_, rfl, ?_⟩
    rotate_left
    · have hd := dec_ok (s := s) (pos := pos) (by omega); exact ⟨by omega, left_ok (by omega) hA (by rw [← ok_next]; assumption), leftN_step (by omega) hN⟩
    · rw [next_size (by omega)]; rfl
    · have hd := dec_ok (s := s) (pos := pos) (by omega); omega
  ·
   refine AMx.exit ?_
   refine AMx.code_exit ?_
   refine AMx.inv_exit ?_
   refine AMx.blk_exit ?_
   refine gQ ?_
   refine gS [] [] 41 [(40, vc (bo (decide (12 < (n : Int)))))] [] trivial ?_
   refine gC (12 < (n : Int)) (fun hc4 => ?_) fun hc4 => ?_
   ·
    refine gS [] [] 41 [(2, vc (i6 5))] [] trivial ?_
    exact gT (vc (i6 5)) (by rw [part_3 (by simpa [or_assoc, and_assoc] using hc1) (left_end (by omega) hA) (by have := leftN_end (by omega) hN; omega)])
   ·
    refine AMx.skip ?_
    refine gS [] [] 41 [(2, vc (i6 0))] [] trivial ?_
    exact gT (vc (i6 0)) (by rw [part_4 (by simpa [or_assoc, and_assoc] using hc1) (left_end (by omega) hA) (by have := leftN_end (by omega) hN; omega)])
end AL.Route
namespace Go.Proofs
open Go.Shelf
def Tryz.lays169_ren : Go.Shelf.Ren := ⟨fun | 169 => 121 | n => n, fun | 70 => 175 | 9 => 9 | 0 => 0 | 72 => 177 | 37 => 104 | 127 => 203 | 3 => 3 | 5 => 5 | n => n, fun | n => n⟩
theorem Tryz.lays169 : Go.Proofs.Lays.n169 Tryz.prog Tryz.lays169_ren := {
  mixed := by kernel_rfl
  f169 := Tryz.func121.trans (congrArg some (by kernel_rfl))
  t0 := Tryz.underlying0
  a0 := Tryz.isAgg0
  z0 := Tryz.sizeOf0
  v0 := Tryz.zeroValue0
  t3 := Tryz.underlying3
  a3 := Tryz.isAgg3
  z3 := Tryz.sizeOf3
  v3 := Tryz.zeroValue3
  t9 := Tryz.underlying9
  a9 := Tryz.isAgg9
  z9 := Tryz.sizeOf9
  v9 := Tryz.zeroValue9
  t37 := Tryz.underlying104
  a37 := Tryz.isAgg104
  z37 := Tryz.sizeOf104
  v37 := Tryz.zeroValue104
  t70 := Tryz.underlying175
  a70 := Tryz.isAgg175
  z70 := Tryz.sizeOf175
  v70 := Tryz.zeroValue175
  t72 := Tryz.underlying177
  a72 := Tryz.isAgg177
  z72 := Tryz.sizeOf177
  v72 := Tryz.zeroValue177
  t127 := Tryz.underlying203
  a127 := Tryz.isAgg203
  z127 := Tryz.sizeOf203
  v127 := Tryz.zeroValue203 }
theorem Tryz.Builder_Extra_169 : Builder.Extra Tryz.prog Tryz.lays169_ren := {
  sizeBuilder := by kernel_rfl
  liesBuilder := by kernel_rfl
  t5 := Tryz.underlying5
  a5 := Tryz.isAgg5
  z5 := Tryz.sizeOf5
  v5 := Tryz.zeroValue5
  infoByte := by kernel_rfl
  cellsByte := by kernel_rfl
  sizeByte := by kernel_rfl
  neB5 := by decide }
def Tryz.lays156_ren : Go.Shelf.Ren := ⟨fun | 156 => 88 | 165 => 122 | 166 => 123 | 169 => 121 | 240 => 141 | 241 => 143 | 276 => 156 | 277 => 158 | n => n, fun | 31 => 44 | 9 => 9 | 3 => 3 | 4 => 4 | 0 => 0 | 20 => 20 | 72 => 177 | 76 => 180 | 70 => 175 | 37 => 104 | 75 => 179 | 127 => 203 | 164 => 213 | 5 => 5 | 80 => 182 | n => n, fun | n => n⟩
theorem Tryz.lays156 : Go.Proofs.Lays.n156 Tryz.prog Tryz.lays156_ren := {
  mixed := by kernel_rfl
  f156 := Tryz.func88.trans (congrArg some (by kernel_rfl))
  f165 := Tryz.func122.trans (congrArg some (by kernel_rfl))
  f166 := Tryz.func123.trans (congrArg some (by kernel_rfl))
  f169 := Tryz.func121.trans (congrArg some (by kernel_rfl))
  f240 := Tryz.func141.trans (congrArg some (by kernel_rfl))
  f241 := Tryz.func143.trans (congrArg some (by kernel_rfl))
  f276 := Tryz.func156.trans (congrArg some (by kernel_rfl))
  f277 := Tryz.func158.trans (congrArg some (by kernel_rfl))
  t0 := Tryz.underlying0
  a0 := Tryz.isAgg0
  z0 := Tryz.sizeOf0
  v0 := Tryz.zeroValue0
  t3 := Tryz.underlying3
  a3 := Tryz.isAgg3
  z3 := Tryz.sizeOf3
  v3 := Tryz.zeroValue3
  t4 := Tryz.underlying4
  a4 := Tryz.isAgg4
  z4 := Tryz.sizeOf4
  v4 := Tryz.zeroValue4
  t9 := Tryz.underlying9
  a9 := Tryz.isAgg9
  z9 := Tryz.sizeOf9
  v9 := Tryz.zeroValue9
  t20 := Tryz.underlying20
  a20 := Tryz.isAgg20
  z20 := Tryz.sizeOf20
  v20 := Tryz.zeroValue20
  t31 := Tryz.underlying44
  a31 := Tryz.isAgg44
  z31 := Tryz.sizeOf44
  v31 := Tryz.zeroValue44
  t37 := Tryz.underlying104
  a37 := Tryz.isAgg104
  z37 := Tryz.sizeOf104
  v37 := Tryz.zeroValue104
  t70 := Tryz.underlying175
  a70 := Tryz.isAgg175
  z70 := Tryz.sizeOf175
  v70 := Tryz.zeroValue175
  t72 := Tryz.underlying177
  a72 := Tryz.isAgg177
  z72 := Tryz.sizeOf177
  v72 := Tryz.zeroValue177
  t75 := Tryz.underlying179
  a75 := Tryz.isAgg179
  z75 := Tryz.sizeOf179
  v75 := Tryz.zeroValue179
  t76 := Tryz.underlying180
  a76 := Tryz.isAgg180
  z76 := Tryz.sizeOf180
  v76 := Tryz.zeroValue180
  t127 := Tryz.underlying203
  a127 := Tryz.isAgg203
  z127 := Tryz.sizeOf203
  v127 := Tryz.zeroValue203
  t164 := Tryz.underlying213
  a164 := Tryz.isAgg213
  z164 := Tryz.sizeOf213
  v164 := Tryz.zeroValue213 }
theorem Tryz.Builder_Extra_156 : Builder.Extra Tryz.prog Tryz.lays156_ren := {
  sizeBuilder := by kernel_rfl
  liesBuilder := by kernel_rfl
  t5 := Tryz.underlying5
  a5 := Tryz.isAgg5
  z5 := Tryz.sizeOf5
  v5 := Tryz.zeroValue5
  infoByte := by kernel_rfl
  cellsByte := by kernel_rfl
  sizeByte := by kernel_rfl
  neB5 := by decide }
open Go.RowKit in
theorem Tryz.strings_Join_none (a : Option Addr) (c : Nat) (sep : ByteArray) (w : World) :
    Calls Tryz.prog 88 #[.slice a 0 c, .string sep] w fun e w' => e = .returned (.string ⟨#[]⟩) ∧ w' = w := Any.strings_Join_none Tryz.lays156 Tryz.Builder_Extra_156 a c sep w
open Go.RowKit in
theorem Tryz.strings_Join (bk o c : Nat) (xs : List ByteArray) (sep : ByteArray) (w : World) (hcells : ∀ (j : Nat) x, xs[j]? = some x → w.cell? ⟨bk, o + j, none⟩ = some (.string x)) (hbk : bk < w.heap.size) (hN : xs.length ≤ 140737488355328) (hcap : xs.length ≤ c) (hlen : (Lib.join (xs.map (·.data.toList)) sep.data.toList).length ≤ 140737488355328) :
    Calls Tryz.prog 88 #[.slice (some ⟨bk, o, none⟩) xs.length c, .string sep] w fun e w' => e = .returned (.string ⟨(Lib.join (xs.map (·.data.toList)) sep.data.toList).toArray⟩) ∧ Below w.heap.size w w' := Any.strings_Join Tryz.lays156 Tryz.Builder_Extra_156 bk o c xs sep w hcells hbk hN hcap hlen
def Tryz.lays103_ren : Go.Shelf.Ren := ⟨fun | 103 => 167 | 210 => 172 | 206 => 173 | n => n, fun | 9 => 9 | 4 => 4 | 24 => 211 | 3 => 3 | n => n, fun | n => n⟩
theorem Tryz.lays103 : Go.Proofs.Lays.n103 Tryz.prog Tryz.lays103_ren := {
  mixed := by kernel_rfl
  f103 := Tryz.func167.trans (congrArg some (by kernel_rfl))
  f206 := Tryz.func173.trans (congrArg some (by kernel_rfl))
  f210 := Tryz.func172.trans (congrArg some (by kernel_rfl))
  t3 := Tryz.underlying3
  a3 := Tryz.isAgg3
  z3 := Tryz.sizeOf3
  v3 := Tryz.zeroValue3
  t4 := Tryz.underlying4
  a4 := Tryz.isAgg4
  z4 := Tryz.sizeOf4
  v4 := Tryz.zeroValue4
  t9 := Tryz.underlying9
  a9 := Tryz.isAgg9
  z9 := Tryz.sizeOf9
  v9 := Tryz.zeroValue9
  t24 := Tryz.underlying211
  a24 := Tryz.isAgg211
  z24 := Tryz.sizeOf211
  v24 := Tryz.zeroValue211 }
open Go.RowKit in
theorem Tryz.strings_CutPrefix (s p : ByteArray) (w : World) :
    Calls Tryz.prog 167 #[.string s, .string p] w fun e w' => e = .returned (.tuple #[.string ⟨(Lib.trimPrefix s.data.toList p.data.toList).toArray⟩, .bool (Lib.hasPrefix s.data.toList p.data.toList)]) ∧ w' = w := Any.strings_CutPrefix Tryz.lays103 s p w
open Go.RowKit in
theorem Tryz.Builder_String_any_k (B b : Nat) (l : List UInt8) (w : World) (h : Lib.IsBuilderF 177 5 B b (Lib.byteCells l) w) (hBw : B ≤ w.heap.size) :
    Calls Tryz.prog 121 #[.pointer (some ⟨b, 0, none⟩)] w fun e w' => e = .returned (.string ⟨l.toArray⟩) ∧ (Lib.IsBuilderF 177 5 B b (Lib.byteCells l) w' ∧ Below B w w' ∧ Lib.OthersKept 5 (some b) w w') := Any.Builder_String_any_k Tryz.lays169 Tryz.Builder_Extra_169 B b l w h hBw
def Tryz.lays219_ren : Go.Shelf.Ren := ⟨fun | 219 => 149 | 217 => 162 | 225 => 163 | 224 => 164 | 267 => 165 | 266 => 169 | 314 => 170 | n => n, fun | 9 => 9 | 3 => 3 | 4 => 4 | 5 => 5 | 46 => 129 | 146 => 220 | 51 => 171 | n => n, fun | 1 => 0 | n => n⟩
theorem Tryz.lays219 : Go.Proofs.Lays.n219 Tryz.prog Tryz.lays219_ren := {
  mixed := by kernel_rfl
  f217 := Tryz.func162.trans (congrArg some (by kernel_rfl))
  f219 := Tryz.func149.trans (congrArg some (by kernel_rfl))
  f224 := Tryz.func164.trans (congrArg some (by kernel_rfl))
  f225 := Tryz.func163.trans (congrArg some (by kernel_rfl))
  f266 := Tryz.func169.trans (congrArg some (by kernel_rfl))
  f267 := Tryz.func165.trans (congrArg some (by kernel_rfl))
  f314 := Tryz.func170.trans (congrArg some (by kernel_rfl))
  t3 := Tryz.underlying3
  a3 := Tryz.isAgg3
  z3 := Tryz.sizeOf3
  v3 := Tryz.zeroValue3
  t4 := Tryz.underlying4
  a4 := Tryz.isAgg4
  z4 := Tryz.sizeOf4
  v4 := Tryz.zeroValue4
  t5 := Tryz.underlying5
  a5 := Tryz.isAgg5
  z5 := Tryz.sizeOf5
  v5 := Tryz.zeroValue5
  t9 := Tryz.underlying9
  a9 := Tryz.isAgg9
  z9 := Tryz.sizeOf9
  v9 := Tryz.zeroValue9
  t46 := Tryz.underlying129
  a46 := Tryz.isAgg129
  z46 := Tryz.sizeOf129
  v46 := Tryz.zeroValue129
  t51 := Tryz.underlying171
  a51 := Tryz.isAgg171
  z51 := Tryz.sizeOf171
  v51 := Tryz.zeroValue171
  t146 := Tryz.underlying220
  a146 := Tryz.isAgg220
  z146 := Tryz.sizeOf220
  v146 := Tryz.zeroValue220
  g1 := by kernel_rfl }
open Go.RowKit Go.Lib in
theorem Tryz.stringslite_Index_one (s : ByteArray) (c : UInt8) (w : World) :
    Calls Tryz.prog 149 #[.string s, .string ⟨#[c]⟩] w fun e w' => e = .returned (.int .i64 (Lib.indexByte s.data.toList c)) ∧ w' = w := Any.stringslite_Index_one Tryz.lays219 s c w
def Tryz.lays143_ren : Go.Shelf.Ren := ⟨fun | 143 => 148 | 219 => 149 | 217 => 162 | 225 => 163 | 224 => 164 | 267 => 165 | 266 => 169 | 314 => 170 | n => n, fun | 9 => 9 | 3 => 3 | 4 => 4 | 5 => 5 | 46 => 129 | 146 => 220 | 51 => 171 | n => n, fun | 1 => 0 | n => n⟩
theorem Tryz.lays143 : Go.Proofs.Lays.n143 Tryz.prog Tryz.lays143_ren := {
  mixed := by kernel_rfl
  f143 := Tryz.func148.trans (congrArg some (by kernel_rfl))
  f217 := Tryz.func162.trans (congrArg some (by kernel_rfl))
  f219 := Tryz.func149.trans (congrArg some (by kernel_rfl))
  f224 := Tryz.func164.trans (congrArg some (by kernel_rfl))
  f225 := Tryz.func163.trans (congrArg some (by kernel_rfl))
  f266 := Tryz.func169.trans (congrArg some (by kernel_rfl))
  f267 := Tryz.func165.trans (congrArg some (by kernel_rfl))
  f314 := Tryz.func170.trans (congrArg some (by kernel_rfl))
  t3 := Tryz.underlying3
  a3 := Tryz.isAgg3
  z3 := Tryz.sizeOf3
  v3 := Tryz.zeroValue3
  t4 := Tryz.underlying4
  a4 := Tryz.isAgg4
  z4 := Tryz.sizeOf4
  v4 := Tryz.zeroValue4
  t5 := Tryz.underlying5
  a5 := Tryz.isAgg5
  z5 := Tryz.sizeOf5
  v5 := Tryz.zeroValue5
  t9 := Tryz.underlying9
  a9 := Tryz.isAgg9
  z9 := Tryz.sizeOf9
  v9 := Tryz.zeroValue9
  t46 := Tryz.underlying129
  a46 := Tryz.isAgg129
  z46 := Tryz.sizeOf129
  v46 := Tryz.zeroValue129
  t51 := Tryz.underlying171
  a51 := Tryz.isAgg171
  z51 := Tryz.sizeOf171
  v51 := Tryz.zeroValue171
  t146 := Tryz.underlying220
  a146 := Tryz.isAgg220
  z146 := Tryz.sizeOf220
  v146 := Tryz.zeroValue220
  g1 := by kernel_rfl }
open Go.RowKit Go.Lib in
theorem Tryz.strings_Index_one (s : ByteArray) (c : UInt8) (w : World) :
    Calls Tryz.prog 148 #[.string s, .string ⟨#[c]⟩] w fun e w' => e = .returned (.int .i64 (Lib.indexByte s.data.toList c)) ∧ w' = w := Any.strings_Index_one Tryz.lays143 s c w
def Tryz.lays138_ren : Go.Shelf.Ren := ⟨fun | 138 => 147 | 195 => 159 | 218 => 161 | 143 => 148 | 219 => 149 | 217 => 162 | 225 => 163 | 224 => 164 | 267 => 165 | 266 => 169 | 314 => 170 | n => n, fun | 9 => 9 | 3 => 3 | 4 => 4 | 5 => 5 | 0 => 0 | 46 => 129 | 146 => 220 | 51 => 171 | n => n, fun | 1 => 0 | n => n⟩
theorem Tryz.lays138 : Go.Proofs.Lays.n138 Tryz.prog Tryz.lays138_ren := {
  mixed := by kernel_rfl
  f138 := Tryz.func147.trans (congrArg some (by kernel_rfl))
  f143 := Tryz.func148.trans (congrArg some (by kernel_rfl))
  f195 := Tryz.func159.trans (congrArg some (by kernel_rfl))
  f217 := Tryz.func162.trans (congrArg some (by kernel_rfl))
  f218 := Tryz.func161.trans (congrArg some (by kernel_rfl))
  f219 := Tryz.func149.trans (congrArg some (by kernel_rfl))
  f224 := Tryz.func164.trans (congrArg some (by kernel_rfl))
  f225 := Tryz.func163.trans (congrArg some (by kernel_rfl))
  f266 := Tryz.func169.trans (congrArg some (by kernel_rfl))
  f267 := Tryz.func165.trans (congrArg some (by kernel_rfl))
  f314 := Tryz.func170.trans (congrArg some (by kernel_rfl))
  t0 := Tryz.underlying0
  a0 := Tryz.isAgg0
  z0 := Tryz.sizeOf0
  v0 := Tryz.zeroValue0
  t3 := Tryz.underlying3
  a3 := Tryz.isAgg3
  z3 := Tryz.sizeOf3
  v3 := Tryz.zeroValue3
  t4 := Tryz.underlying4
  a4 := Tryz.isAgg4
  z4 := Tryz.sizeOf4
  v4 := Tryz.zeroValue4
  t5 := Tryz.underlying5
  a5 := Tryz.isAgg5
  z5 := Tryz.sizeOf5
  v5 := Tryz.zeroValue5
  t9 := Tryz.underlying9
  a9 := Tryz.isAgg9
  z9 := Tryz.sizeOf9
  v9 := Tryz.zeroValue9
  t46 := Tryz.underlying129
  a46 := Tryz.isAgg129
  z46 := Tryz.sizeOf129
  v46 := Tryz.zeroValue129
  t51 := Tryz.underlying171
  a51 := Tryz.isAgg171
  z51 := Tryz.sizeOf171
  v51 := Tryz.zeroValue171
  t146 := Tryz.underlying220
  a146 := Tryz.isAgg220
  z146 := Tryz.sizeOf220
  v146 := Tryz.zeroValue220
  g1 := by kernel_rfl }
open Go.RowKit Go.Lib in
theorem Tryz.strings_Count_one (s : ByteArray) (c : UInt8) (w : World) :
    Calls Tryz.prog 147 #[.string s, .string ⟨#[c]⟩] w fun e w' => e = .returned (.int .i64 (Lib.countByte s.data.toList c)) ∧ w' = w := Any.strings_Count_one Tryz.lays138 s c w
def Tryz.lays190_ren : Go.Shelf.Ren := ⟨fun | 190 => 47 | 125 => 79 | 258 => 78 | 128 => 115 | 129 => 116 | 302 => 106 | 303 => 107 | 304 => 108 | 305 => 109 | 306 => 110 | 307 => 111 | 308 => 112 | 309 => 113 | 310 => 114 | 333 => 135 | 329 => 136 | 330 => 137 | 334 => 138 | 335 => 139 | 336 => 105 | 344 => 154 | n => n, fun | 31 => 44 | 9 => 9 | 3 => 3 | 46 => 129 | 0 => 0 | 51 => 171 | 53 => 140 | 4 => 4 | 183 => 165 | 182 => 164 | 131 => 86 | 5 => 5 | 218 => 196 | 222 => 200 | 228 => 209 | 229 => 193 | n => n, fun | n => n⟩
theorem Tryz.lays190 : Go.Proofs.Lays.n190 Tryz.prog Tryz.lays190_ren := {
  mixed := by kernel_rfl
  f125 := Tryz.func79.trans (congrArg some (by kernel_rfl))
  f128 := Tryz.func115.trans (congrArg some (by kernel_rfl))
  f129 := Tryz.func116.trans (congrArg some (by kernel_rfl))
  f190 := Tryz.func47.trans (congrArg some (by kernel_rfl))
  f258 := Tryz.func78.trans (congrArg some (by kernel_rfl))
  f302 := Tryz.func106.trans (congrArg some (by kernel_rfl))
  f303 := Tryz.func107.trans (congrArg some (by kernel_rfl))
  f304 := Tryz.func108.trans (congrArg some (by kernel_rfl))
  f305 := Tryz.func109.trans (congrArg some (by kernel_rfl))
  f306 := Tryz.func110.trans (congrArg some (by kernel_rfl))
  f307 := Tryz.func111.trans (congrArg some (by kernel_rfl))
  f308 := Tryz.func112.trans (congrArg some (by kernel_rfl))
  f309 := Tryz.func113.trans (congrArg some (by kernel_rfl))
  f310 := Tryz.func114.trans (congrArg some (by kernel_rfl))
  f329 := Tryz.func136.trans (congrArg some (by kernel_rfl))
  f330 := Tryz.func137.trans (congrArg some (by kernel_rfl))
  f333 := Tryz.func135.trans (congrArg some (by kernel_rfl))
  f334 := Tryz.func138.trans (congrArg some (by kernel_rfl))
  f335 := Tryz.func139.trans (congrArg some (by kernel_rfl))
  f336 := Tryz.func105.trans (congrArg some (by kernel_rfl))
  f344 := Tryz.func154.trans (congrArg some (by kernel_rfl))
  t0 := Tryz.underlying0
  a0 := Tryz.isAgg0
  z0 := Tryz.sizeOf0
  v0 := Tryz.zeroValue0
  t3 := Tryz.underlying3
  a3 := Tryz.isAgg3
  z3 := Tryz.sizeOf3
  v3 := Tryz.zeroValue3
  t4 := Tryz.underlying4
  a4 := Tryz.isAgg4
  z4 := Tryz.sizeOf4
  v4 := Tryz.zeroValue4
  t5 := Tryz.underlying5
  a5 := Tryz.isAgg5
  z5 := Tryz.sizeOf5
  v5 := Tryz.zeroValue5
  t9 := Tryz.underlying9
  a9 := Tryz.isAgg9
  z9 := Tryz.sizeOf9
  v9 := Tryz.zeroValue9
  t31 := Tryz.underlying44
  a31 := Tryz.isAgg44
  z31 := Tryz.sizeOf44
  v31 := Tryz.zeroValue44
  t46 := Tryz.underlying129
  a46 := Tryz.isAgg129
  z46 := Tryz.sizeOf129
  v46 := Tryz.zeroValue129
  t51 := Tryz.underlying171
  a51 := Tryz.isAgg171
  z51 := Tryz.sizeOf171
  v51 := Tryz.zeroValue171
  t53 := Tryz.underlying140
  a53 := Tryz.isAgg140
  z53 := Tryz.sizeOf140
  v53 := Tryz.zeroValue140
  t131 := Tryz.underlying86
  a131 := Tryz.isAgg86
  z131 := Tryz.sizeOf86
  v131 := Tryz.zeroValue86
  t182 := Tryz.underlying164
  a182 := Tryz.isAgg164
  z182 := Tryz.sizeOf164
  v182 := Tryz.zeroValue164
  t183 := Tryz.underlying165
  a183 := Tryz.isAgg165
  z183 := Tryz.sizeOf165
  v183 := Tryz.zeroValue165
  t218 := Tryz.underlying196
  a218 := Tryz.isAgg196
  z218 := Tryz.sizeOf196
  v218 := Tryz.zeroValue196
  t222 := Tryz.underlying200
  a222 := Tryz.isAgg200
  z222 := Tryz.sizeOf200
  v222 := Tryz.zeroValue200
  t228 := Tryz.underlying209
  a228 := Tryz.isAgg209
  z228 := Tryz.sizeOf209
  v228 := Tryz.zeroValue209
  t229 := Tryz.underlying193
  a229 := Tryz.isAgg193
  z229 := Tryz.sizeOf193
  v229 := Tryz.zeroValue193 }
open Go.Sort Go.RowKit in
theorem Tryz.slices_Sort_string (blk off cap : Nat) (ss : List (List UInt8)) (w : World) (hH : Holds encStr w blk off ss.toArray) (hblk : blk < w.heap.size) (hsz : ss.length < 4611686018427387904) :
    Calls Tryz.prog 47 #[.slice (some ⟨blk, off, none⟩) ss.length cap] w fun e w' =>
      e = .returned (.tuple #[]) ∧ ∃ n os, w' = grow (putRow encStr (Sort.ahead w n) blk off (ss.mergeSort fun x y => decide (x ≤ y)).toArray) os := Any.slices_Sort_string Tryz.lays190 blk off cap ss w hH hblk hsz
def Tryz.lays260_ren : Go.Shelf.Ren := ⟨fun | 260 => 168 | n => n, fun | 9 => 9 | 21 => 21 | 3 => 3 | 4 => 4 | 5 => 5 | 119 => 223 | 0 => 0 | 46 => 129 | 139 => 226 | 138 => 225 | n => n, fun | 3 => 1 | 4 => 2 | n => n⟩
theorem Tryz.lays260 : Go.Proofs.Lays.n260 Tryz.prog Tryz.lays260_ren := {
  mixed := by kernel_rfl
  f260 := Tryz.func168.trans (congrArg some (by kernel_rfl))
  t0 := Tryz.underlying0
  a0 := Tryz.isAgg0
  z0 := Tryz.sizeOf0
  v0 := Tryz.zeroValue0
  t3 := Tryz.underlying3
  a3 := Tryz.isAgg3
  z3 := Tryz.sizeOf3
  v3 := Tryz.zeroValue3
  t4 := Tryz.underlying4
  a4 := Tryz.isAgg4
  z4 := Tryz.sizeOf4
  v4 := Tryz.zeroValue4
  t5 := Tryz.underlying5
  a5 := Tryz.isAgg5
  z5 := Tryz.sizeOf5
  v5 := Tryz.zeroValue5
  t9 := Tryz.underlying9
  a9 := Tryz.isAgg9
  z9 := Tryz.sizeOf9
  v9 := Tryz.zeroValue9
  t21 := Tryz.underlying21
  a21 := Tryz.isAgg21
  z21 := Tryz.sizeOf21
  v21 := Tryz.zeroValue21
  t46 := Tryz.underlying129
  a46 := Tryz.isAgg129
  z46 := Tryz.sizeOf129
  v46 := Tryz.zeroValue129
  t119 := Tryz.underlying223
  a119 := Tryz.isAgg223
  z119 := Tryz.sizeOf223
  t138 := Tryz.underlying225
  a138 := Tryz.isAgg225
  z138 := Tryz.sizeOf225
  v138 := Tryz.zeroValue225
  t139 := Tryz.underlying226
  a139 := Tryz.isAgg226
  z139 := Tryz.sizeOf226
  v139 := Tryz.zeroValue226
  g3 := by kernel_rfl
  g4 := by kernel_rfl }
open Go.RowKit Go.Sort in
theorem Tryz.slices_Sort_string_none (p : Option Addr) (cap : Nat) (w : World) :
    Calls Tryz.prog 47 #[.slice p 0 cap] w fun e w' => e = .returned (.tuple #[]) ∧ w' = w := Any.slices_Sort_string_none Tryz.lays190 p cap w
end Go.Proofs
namespace AL.Route
open Go Go.Proofs Go.RowKit AL AL.Rune
set_option linter.unusedVariables false
set_option linter.unusedSimpArgs false
theorem Count_c (s : Bytes) : Pure Tryz.prog 147 [tc (st s), tc (st [47])] (vc (i6 ((s.count 47 : Nat) : Int))) := by
  refine Pure.of_calls ⟨_, Tryz.func147, by kernel_rfl, by kernel_rfl⟩ fun Γ w cargs hm => ?_
  obtain ⟨u, v, rfl, ⟨rfl, hu⟩, ⟨rfl, hv⟩⟩ := args2 hm
  refine (Tryz.strings_Count_one (ba s) 47 w).mono ?_
  rintro e w' ⟨rfl, rfl⟩
  have h1 : s.count 47 ≤ s.length := List.count_le_length
  simp only [maxLen] at hu
  exact ⟨_, rfl, rfl, rfl, inR64 (by omega) (by omega)⟩
theorem index_rng (s : Bytes) : -1 ≤ Go.Lib.indexByte s 47 ∧ Go.Lib.indexByte s 47 < (s.length : Int) := by
  refine ⟨Go.Lib.indexByte_ge s 47, ?_⟩
  by_cases h : 0 ≤ Go.Lib.indexByte s 47
  · have := (index_some h).1; omega
  · omega
theorem Index_c (s : Bytes) : Pure Tryz.prog 148 [tc (st s), tc (st [47])] (vc (i6 (Go.Lib.indexByte s 47))) := by
  refine Pure.of_calls ⟨_, Tryz.func148, by kernel_rfl, by kernel_rfl⟩ fun Γ w cargs hm => ?_
  obtain ⟨u, v, rfl, ⟨rfl, hu⟩, ⟨rfl, hv⟩⟩ := args2 hm
  refine (Tryz.strings_Index_one (ba s) 47 w).mono ?_
  rintro e w' ⟨rfl, rfl⟩
  have := index_rng s
  simp only [maxLen] at hu
  exact ⟨_, rfl, rfl, rfl, inR64 (by omega) (by omega)⟩
end AL.Route
namespace AL.Route
open Go Go.Proofs AL AL.Rune
set_option linter.unusedVariables false
set_option linter.unusedSimpArgs false
theorem f103_body : Tryz.f103.body = some (.seq (.region 0 (rg Tryz.f103 0) false) (.seq (.region 1 (rg Tryz.f103 1) false) (.seq (.region 2 (rg Tryz.f103 2) false) (.seq (.seq (.region 3 (rg Tryz.f103 3) false) (.block 0 (.loop (.seq (.seq (.region 4 (rg Tryz.f103 4) false) (.cond (.tmp 9) (.skip) (.exit 0))) (.seq (.block 1 (.seq (.region 6 (rg Tryz.f103 6) false) (.cond (.tmp 21) (.seq (.region 7 (rg Tryz.f103 7) false) (.region 8 (rg Tryz.f103 8) false)) (.skip)))) (.region 5 (rg Tryz.f103 5) false)))))) (.seq (.region 9 (rg Tryz.f103 9) false) (.ret)))))) := by kernel_rfl
set_option maxRecDepth 100000 in
set_option maxHeartbeats 8000000 in
theorem Pieces_c (s : Bytes) (hb : s.length ≤ 100000) : Pure Tryz.prog 103 [tc (st s)] (vc (AL.Fnv.slS (piecesS s))) := by
 refine Pure.of_body Tryz.func103 f103_body (by kernel_rfl) Tryz.ntmps103 (by kernel_rfl) (by kernel_rfl) ?_
 refine gS [] [] 32 [(0, vc (st s))] [] trivial ?_
 refine gS [] [] 32 [(0, vc (st s)), (3, vc (SC.nilsl))] [] trivial ?_
 refine gS [] [] 32 [(0, vc (st s)), (3, vc (SC.nilsl)), (4, vc (i6 0))] [] trivial ?_
 refine gQ ?_
 refine gS [] [] 32 [(0, vc (st s)), (3, vc (SC.nilsl)), (4, vc (i6 0)), (5, vc (i6 0))] [] trivial ?_
 refine AMx.block ?_
 refine AMx.ent (s' := AS.lst 32 [(0, vc (st s)), (3, vo 3), (4, vc (i6 0)), (5, vc (i6 0))] [(3, AObj.grow 9 1 Bytes [] AL.Fnv.rowS [])]) (ent_adopt (t := 3) (d := 3) 9 1 Bytes [] AL.Fnv.rowS (by kernel_rfl) (by kernel_rfl) (by kernel_rfl) (by kernel_rfl)) ?_
 refine AMx.ent (s' := AS.lst 32 [(0, vc (st s)), (3, vo 3), (4, vc (i6 0)), (5, vc (i6 0))] [(3, AObj.grow 9 1 Bytes [] AL.Fnv.rowS [])]) (ent_proj [0, 3, 4, 5] [3]) ?_
 refine AMx.loop (fun mm ss => ∃ (i : Nat) (f : Nat) (o : List Bytes), (PInv s i f o) ∧ mm = s.length + 1 - i ∧ ss = AS.lst 32 [(0, vc (st s)), (3, vo 3), (4, vc (i6 (f : Int))), (5, vc (i6 (i : Int)))] [(3, AObj.grow 9 1 Bytes [] AL.Fnv.rowS o)]) ⟨0, 0, [], ?_, rfl, ?_⟩ ?_
 · exact pinv_0 s
 · rfl
 rintro mm ss ⟨i, f, o, hP, rfl, rfl⟩
 refine gQ ?_
 refine gS [] [] 32 [(0, vc (st s)), (3, vo 3), (4, vc (i6 (f : Int))), (5, vc (i6 (i : Int))), (9, vc (bo (decide ((i : Int) ≤ (List.length s : Int)))))] [(3, AObj.grow 9 1 Bytes [] AL.Fnv.rowS o)] trivial ?_
 refine gC ((i : Int) ≤ (List.length s : Int)) (fun hc1 => ?_) fun hc1 => ?_
 ·
  refine AMx.skip ?_
  refine gQ ?_
  refine AMx.block ?_
  refine gS [] [((decide ((i : Int) = (List.length s : Int))) = false) → allP [(decide ((i : Int) = (List.length s : Int))) = false, (decide ((i : Int) = (List.length s : Int))) = false, (0 : Int) ≤ (i : Int), (i : Int) < List.length s], ((decide ((i : Int) = (List.length s : Int))) = false) → allP [(decide ((i : Int) = (List.length s : Int))) = false], (decide ((i : Int) = (List.length s : Int))) = false → allP [(decide ((i : Int) = (List.length s : Int))) = false]] 32 [(0, vc (st s)), (3, vo 3), (4, vc (i6 (f : Int))), (5, vc (i6 (i : Int))), (21, vc (bo ((decide ((i : Int) = (List.length s : Int))) || (decide (((List.getD s i 0).toNat : Int) = 47)))))] [(3, AObj.grow 9 1 Bytes [] AL.Fnv.rowS o)] ⟨(fun hp => by have hq := hp; (try simp only [xT, xF, xA, xO, xB, xP, xN, xM, Bool.not_eq_true, Bool.not_eq_false] at hq); exact ⟨hp, hp, (by omega), (show (i : Int) < List.length s from (by omega))⟩), (fun hp => hp), (fun hp2 => (by first | exact hp2 | exact ⟨hp, hp2⟩))⟩ ?_
  refine gB (((decide ((i : Int) = (List.length s : Int))) || (decide (((List.getD s i 0).toNat : Int) = 47)))) (fun hc2 => ?_) fun hc2 => ?_
  ·
   try simp only [xT, xF, xO, xP] at hc2
   refine gS [(5, CE.obj (AObj.grow 9 1 Bytes [] AL.Fnv.rowS [List.drop f (List.take i s)])), (6, CE.obj (AObj.grow 9 1 Bytes [] AL.Fnv.rowS (o ++ [List.drop f (List.take i s)])))] [0 ≤ (i : Int), (i : Int) ≤ List.length s, 0 ≤ (f : Int), (f : Int) ≤ (i : Int), flat 1 AL.Fnv.rowS [List.drop f (List.take i s)] = [.s (st (List.drop f (List.take i s)))], List.length ([List.drop f (List.take i s)] : List Bytes) = 1, AppC (flat 1 AL.Fnv.rowS [List.drop f (List.take i s)]) (List.length ([List.drop f (List.take i s)] : List Bytes)) 16 (AObj.grow 9 1 Bytes [] AL.Fnv.rowS o) (AObj.grow 9 1 Bytes [] AL.Fnv.rowS (o ++ [List.drop f (List.take i s)]))] 32 [(0, vc (st s)), (3, vo 28), (5, vc (i6 (i : Int)))] [(28, AObj.grow 9 1 Bytes [] AL.Fnv.rowS (o ++ [List.drop f (List.take i s)]))] ⟨(by omega), (by omega), (by omega), (by first | omega | (have hz := pinv_len hP; omega)), rfl, rfl, (⟨_, rfl, rfl, rfl, by have hz := pinv_len hP; simp only [List.length_cons, List.length_nil]; omega, by have hz := pinv_len hP; simp only [maxLen, List.length_cons, List.length_nil]; omega⟩)⟩ ?_
   refine gR [] [InR .i64 ((i : Int) + 1)] 32 [(0, vc (st s)), (3, vo 28), (4, vc (i6 ((i : Int) + 1))), (5, vc (i6 (i : Int)))] [(28, AObj.grow 9 1 Bytes [] AL.Fnv.rowS (o ++ [List.drop f (List.take i s)]))] (show InR .i64 ((i : Int) + 1) from (inR64 (by omega) (by omega))) ?_
   refine AMx.blk ?_
   refine gR [] [InR .i64 ((i : Int) + 1)] 32 [(0, vc (st s)), (3, vo 28), (4, vc (i6 ((i : Int) + 1))), (5, vc (i6 ((i : Int) + 1)))] [(28, AObj.grow 9 1 Bytes [] AL.Fnv.rowS (o ++ [List.drop f (List.take i s)]))] (show InR .i64 ((i : Int) + 1) from (inR64 (by omega) (by omega))) ?_
   refine AMx.ent_inv (s' := AS.lst 32 [(0, vc (st s)), (3, vo 3), (4, vc (i6 ((i : Int) + 1))), (5, vc (i6 ((i : Int) + 1)))] [(3, AObj.grow 9 1 Bytes [] AL.Fnv.rowS (o ++ [List.drop f (List.take i s)]))]) (ent_swap 28 3 (by kernel_rfl) (by kernel_rfl)) ?_
   refine AMx.ent_inv (s' := AS.lst 32 [(0, vc (st s)), (3, vo 3), (4, vc (i6 ((i : Int) + 1))), (5, vc (i6 ((i : Int) + 1)))] [(3, AObj.grow 9 1 Bytes [] AL.Fnv.rowS (o ++ [List.drop f (List.take i s)]))]) (ent_proj [0, 3, 4, 5] [3]) ?_
   refine AMx.inv ⟨_, ?_, i + 1, i + 1, o ++ [List.drop f (List.take i s)], ?_, rfl, ?_⟩
   rotate_left
   · exact pinv_hit hP (by omega) (by omega)
   · rfl
   · omega
  ·
   try simp only [xT, xF, xO, xP] at hc2
   refine AMx.skip ?_
   refine AMx.blk ?_
   refine gR [] [InR .i64 ((i : Int) + 1)] 32 [(0, vc (st s)), (3, vo 3), (4, vc (i6 (f : Int))), (5, vc (i6 ((i : Int) + 1)))] [(3, AObj.grow 9 1 Bytes [] AL.Fnv.rowS o)] (show InR .i64 ((i : Int) + 1) from (inR64 (by omega) (by omega))) ?_
   refine AMx.ent_inv (s' := AS.lst 32 [(0, vc (st s)), (3, vo 3), (4, vc (i6 (f : Int))), (5, vc (i6 ((i : Int) + 1)))] [(3, AObj.grow 9 1 Bytes [] AL.Fnv.rowS o)]) (ent_proj [0, 3, 4, 5] [3]) ?_
   refine AMx.inv ⟨_, ?_, i + 1, f, o, ?_, rfl, ?_⟩
   rotate_left
   · exact pinv_not hP (by omega) (by omega)
   · rfl
   · omega
 ·
  refine AMx.exit ?_
  refine AMx.code_exit ?_
  refine AMx.inv_exit ?_
  refine AMx.blk_exit ?_
  refine gS [] [] 32 [(2, vo 3)] [(3, AObj.grow 9 1 Bytes [] AL.Fnv.rowS o)] trivial ?_
  refine AMx.ent (s' := AS.lst 32 [(2, vc (AL.Fnv.slS o))] []) (ent_freeze (id := 3) (T := 9) (by kernel_rfl)) ?_
  exact gT (vc (AL.Fnv.slS o)) (by rw [pinv_end hP (by omega)])
theorem f127_body : Tryz.f127.body = some (.seq (.region 0 (rg Tryz.f127 0) false) (.seq (.seq (.region 1 (rg Tryz.f127 1) false) (.cond (.tmp 13) (.seq (.region 2 (rg Tryz.f127 2) false) (.ret)) (.skip))) (.seq (.seq (.region 3 (rg Tryz.f127 3) false) (.cond (.tmp 15) (.seq (.region 4 (rg Tryz.f127 4) false) (.ret)) (.skip))) (.seq (.seq (.region 5 (rg Tryz.f127 5) false) (.cond (.tmp 20) (.region 6 (rg Tryz.f127 6) false) (.skip))) (.seq (.region 7 (rg Tryz.f127 7) false) (.seq (.region 8 (rg Tryz.f127 8) false) (.seq (.region 9 (rg Tryz.f127 9) false) (.seq (.region 10 (rg Tryz.f127 10) false) (.seq (.block 0 (.loop (.seq (.seq (.region 11 (rg Tryz.f127 11) false) (.cond (.tmp 36) (.skip) (.exit 0))) (.block 1 (.seq (.region 12 (rg Tryz.f127 12) false) (.seq (.seq (.region 13 (rg Tryz.f127 13) false) (.cond (.tmp 41) (.exit 0) (.skip))) (.seq (.region 14 (rg Tryz.f127 14) false) (.seq (.region 15 (rg Tryz.f127 15) false) (.region 16 (rg Tryz.f127 16) false))))))))) (.seq (.region 17 (rg Tryz.f127 17) false) (.seq (.region 18 (rg Tryz.f127 18) false) (.ret)))))))))))) := by kernel_rfl
set_option maxRecDepth 100000 in
set_option maxHeartbeats 8000000 in
theorem genSplit_c (s : Bytes) (hb : s.length ≤ 100000) : Pure Tryz.prog 127 [tc (st s), tc (st [47]), tc (i6 0), tc (i6 (-1))] (vc (AL.Fnv.slS (piecesS s))) := by
 refine Pure.of_body Tryz.func127 f127_body (by kernel_rfl) Tryz.ntmps127 (by kernel_rfl) (by kernel_rfl) ?_
 have hn := split_n s
 have hcn : List.count (47 : UInt8) s ≤ s.length := List.count_le_length
 refine gS [] [] 66 [(0, vc (st s)), (1, vc (st [47])), (2, vc (i6 0)), (3, vc (i6 (-1)))] [] trivial ?_
 refine gQ ?_
 refine gS [] [] 66 [(0, vc (st s)), (1, vc (st [47])), (2, vc (i6 0)), (3, vc (i6 (-1))), (13, vc (bo false))] [] trivial ?_
 refine gBf ?_
 refine AMx.skip ?_
 refine gQ ?_
 refine gS [] [] 66 [(0, vc (st s)), (1, vc (st [47])), (2, vc (i6 0)), (3, vc (i6 (-1))), (15, vc (bo false))] [] trivial ?_
 refine gBf ?_
 refine AMx.skip ?_
 refine gQ ?_
 refine gS [] [] 66 [(0, vc (st s)), (1, vc (st [47])), (2, vc (i6 0)), (3, vc (i6 (-1))), (20, vc (bo true))] [] trivial ?_
 refine gBt ?_
 refine gR [(2, CE.call [] [] (vc (i6 ((List.count (47 : UInt8) s : Nat) : Int))) [])] [Spec Tryz.prog 147 [tc (st s), tc (st [47])] (ofH []) (vc (i6 ((List.count (47 : UInt8) s : Nat) : Int))) (ofH []), InR .i64 (((List.count (47 : UInt8) s : Nat) : Int) + 1)] 66 [(0, vc (st s)), (1, vc (st [47])), (2, vc (i6 0)), (3, vc (i6 (((List.count (47 : UInt8) s : Nat) : Int) + 1)))] [] ⟨(Count_c s), (show InR .i64 (((List.count (47 : UInt8) s : Nat) : Int) + 1) from (inR64 (by omega) (by omega)))⟩ ?_
 refine gS [] [InR .i64 ((List.length s : Int) + 1)] 66 [(0, vc (st s)), (1, vc (st [47])), (2, vc (i6 0)), (3, vc (i6 (min (((List.count (47 : UInt8) s : Nat) : Int) + 1) ((List.length s : Int) + 1))))] [] (show InR .i64 ((List.length s : Int) + 1) from (inR64 (by omega) (by omega))) ?_
 refine gS [(1, CE.obj (AObj.grow 9 1 Bytes [] AL.Fnv.rowS (List.replicate (min (((List.count (47 : UInt8) s : Nat) : Int) + 1) ((List.length s : Int) + 1)).toNat [])))] [0 ≤ min (((List.count (47 : UInt8) s : Nat) : Int) + 1) ((List.length s : Int) + 1), min (((List.count (47 : UInt8) s : Nat) : Int) + 1) ((List.length s : Int) + 1) ≤ min (((List.count (47 : UInt8) s : Nat) : Int) + 1) ((List.length s : Int) + 1), (16 : Int) * (min (((List.count (47 : UInt8) s : Nat) : Int) + 1) ((List.length s : Int) + 1)) ≤ 281474976710656, min (((List.count (47 : UInt8) s : Nat) : Int) + 1) ((List.length s : Int) + 1) ≤ 9223372036854775807, MakeC (min (((List.count (47 : UInt8) s : Nat) : Int) + 1) ((List.length s : Int) + 1)).toNat [.s (st [])] (AObj.grow 9 1 Bytes [] AL.Fnv.rowS (List.replicate (min (((List.count (47 : UInt8) s : Nat) : Int) + 1) ((List.length s : Int) + 1)).toNat []))] 66 [(0, vc (st s)), (1, vc (st [47])), (2, vc (i6 0)), (3, vc (i6 (min (((List.count (47 : UInt8) s : Nat) : Int) + 1) ((List.length s : Int) + 1)))), (9, vo 31)] [(31, AObj.grow 9 1 Bytes [] AL.Fnv.rowS (List.replicate (min (((List.count (47 : UInt8) s : Nat) : Int) + 1) ((List.length s : Int) + 1)).toNat []))] ⟨(by omega), (by omega), (by omega), (by omega), (⟨_, rfl, rfl⟩)⟩ ?_
 refine gS [] [InR .i64 ((min (((List.count (47 : UInt8) s : Nat) : Int) + 1) ((List.length s : Int) + 1)) - 1)] 66 [(0, vc (st s)), (1, vc (st [47])), (2, vc (i6 0)), (3, vc (i6 ((min (((List.count (47 : UInt8) s : Nat) : Int) + 1) ((List.length s : Int) + 1)) - 1))), (9, vo 31)] [(31, AObj.grow 9 1 Bytes [] AL.Fnv.rowS (List.replicate (min (((List.count (47 : UInt8) s : Nat) : Int) + 1) ((List.length s : Int) + 1)).toNat []))] (show InR .i64 ((min (((List.count (47 : UInt8) s : Nat) : Int) + 1) ((List.length s : Int) + 1)) - 1) from (inR64 (by omega) (by omega))) ?_
 refine gS [] [] 66 [(0, vc (st s)), (1, vc (st [47])), (2, vc (i6 0)), (3, vc (i6 ((min (((List.count (47 : UInt8) s : Nat) : Int) + 1) ((List.length s : Int) + 1)) - 1))), (9, vo 31), (10, vc (i6 0))] [(31, AObj.grow 9 1 Bytes [] AL.Fnv.rowS (List.replicate (min (((List.count (47 : UInt8) s : Nat) : Int) + 1) ((List.length s : Int) + 1)).toNat []))] trivial ?_
 refine gQ ?_
 refine AMx.block ?_
 refine AMx.ent (s' := AS.lst 66 [(0, vc (st s)), (1, vc (st [47])), (2, vc (i6 0)), (3, vc (i6 ((min (((List.count (47 : UInt8) s : Nat) : Int) + 1) ((List.length s : Int) + 1)) - 1))), (9, vo 31), (10, vc (i6 0))] [(31, AObj.grow 9 1 Bytes [] AL.Fnv.rowS (List.replicate (min (((List.count (47 : UInt8) s : Nat) : Int) + 1) ((List.length s : Int) + 1)).toNat []))]) (ent_proj [0, 1, 2, 3, 9, 10] [31]) ?_
 refine AMx.loop (fun mm ss => ∃ (o : List Bytes) (c : Bytes), (piecesS s = o ++ piecesS c ∧ c.length ≤ s.length) ∧ mm = c.length ∧ ss = AS.lst 66 [(0, vc (st c)), (1, vc (st [47])), (2, vc (i6 0)), (3, vc (i6 ((min (((List.count (47 : UInt8) s : Nat) : Int) + 1) ((List.length s : Int) + 1)) - 1))), (9, vo 31), (10, vc (i6 (List.length o : Int)))] [(31, AObj.grow 9 1 Bytes [] AL.Fnv.rowS (o ++ List.replicate (piecesS c).length []))]) ⟨[], s, ?_, rfl, ?_⟩ ?_
 · exact ⟨rfl, Nat.le_refl _⟩
 · rw [hn]; rfl
 rintro mm ss ⟨o, c, ⟨hP, hL⟩, rfl, rfl⟩
 refine gQ ?_
 refine gS [] [] 66 [(0, vc (st c)), (1, vc (st [47])), (2, vc (i6 0)), (3, vc (i6 ((min (((List.count (47 : UInt8) s : Nat) : Int) + 1) ((List.length s : Int) + 1)) - 1))), (9, vo 31), (10, vc (i6 (List.length o : Int))), (36, vc (bo (decide ((List.length o : Int) < (min (((List.count (47 : UInt8) s : Nat) : Int) + 1) ((List.length s : Int) + 1)) - 1))))] [(31, AObj.grow 9 1 Bytes [] AL.Fnv.rowS (o ++ List.replicate (piecesS c).length []))] trivial ?_
 refine gC ((List.length o : Int) < (min (((List.count (47 : UInt8) s : Nat) : Int) + 1) ((List.length s : Int) + 1)) - 1) (fun hc4 => ?_) fun hc4 => ?_
 ·
  refine AMx.skip ?_
  refine AMx.block ?_
  refine gS [(2, CE.call [] [] (vc (i6 (Go.Lib.indexByte c 47))) [])] [Spec Tryz.prog 148 [tc (st c), tc (st [47])] (ofH []) (vc (i6 (Go.Lib.indexByte c 47))) (ofH [])] 66 [(0, vc (st c)), (1, vc (st [47])), (2, vc (i6 0)), (3, vc (i6 ((min (((List.count (47 : UInt8) s : Nat) : Int) + 1) ((List.length s : Int) + 1)) - 1))), (9, vo 31), (10, vc (i6 (List.length o : Int))), (11, vc (i6 (Go.Lib.indexByte c 47)))] [(31, AObj.grow 9 1 Bytes [] AL.Fnv.rowS (o ++ List.replicate (piecesS c).length []))] (Index_c c) ?_
  refine gQ ?_
  refine gS [] [] 66 [(0, vc (st c)), (1, vc (st [47])), (2, vc (i6 0)), (3, vc (i6 ((min (((List.count (47 : UInt8) s : Nat) : Int) + 1) ((List.length s : Int) + 1)) - 1))), (9, vo 31), (10, vc (i6 (List.length o : Int))), (11, vc (i6 (Go.Lib.indexByte c 47))), (41, vc (bo (decide (Go.Lib.indexByte c 47 < 0))))] [(31, AObj.grow 9 1 Bytes [] AL.Fnv.rowS (o ++ List.replicate (piecesS c).length []))] trivial ?_
  refine gC (Go.Lib.indexByte c 47 < 0) (fun hc5 => ?_) fun hc5 => ?_
  ·
   refine AMx.exit ?_
   refine AMx.code_exit ?_
   refine AMx.blk_pass rfl ?_
   refine AMx.inv_exit ?_
   refine AMx.blk_exit ?_
   refine gS [(4, CE.obj (AObj.grow 9 1 Bytes [] AL.Fnv.rowS (List.set (o ++ List.replicate (piecesS c).length []) (List.length o) c)))] [(0 : Int) ≤ (List.length o : Int), (List.length o : Int) < List.length (o ++ List.replicate (piecesS c).length [] : List Bytes), StoreC (List.length o) 0 [.s (st c)] (AObj.grow 9 1 Bytes [] AL.Fnv.rowS (o ++ List.replicate (piecesS c).length [])) (AObj.grow 9 1 Bytes [] AL.Fnv.rowS (List.set (o ++ List.replicate (piecesS c).length []) (List.length o) c))] 66 [(9, vo 31), (10, vc (i6 (List.length o : Int)))] [(31, AObj.grow 9 1 Bytes [] AL.Fnv.rowS (List.set (o ++ List.replicate (piecesS c).length []) (List.length o) c))] ⟨(by omega), (by first | omega | (have hx := index_rng c; first | omega | (simp only [List.length_cons, List.length_nil]; omega) | (have hz := split_le hP; first | omega | (simp only [List.length_append, List.length_replicate, List.length_set]; omega)))), (⟨c, rfl, by first | omega | (have hx := index_rng c; first | omega | (simp only [List.length_cons, List.length_nil]; omega) | (have hz := split_le hP; first | omega | (simp only [List.length_append, List.length_replicate, List.length_set]; omega))), rfl⟩)⟩ ?_
   refine gS [] [InR .i64 ((List.length o : Int) + 1), 0 ≤ (List.length o : Int) + 1, (List.length o : Int) + 1 ≤ (List.length (List.set (o ++ List.replicate (piecesS c).length []) (List.length o) c : List Bytes) : Int)] 66 [(8, vo 65)] [(65, AObj.grow 9 1 Bytes [] AL.Fnv.rowS (List.take ((List.length o) + 1) (List.set (o ++ List.replicate (piecesS c).length []) (List.length o) c)))] ⟨(inR64 (by omega) (by omega)), (by omega), (show (List.length o : Int) + 1 ≤ (List.length (List.set (o ++ List.replicate (piecesS c).length []) (List.length o) c : List Bytes) : Int) from (by first | omega | (have hx := index_rng c; first | omega | (simp only [List.length_cons, List.length_nil]; omega) | (have hz := split_le hP; first | omega | (simp only [List.length_append, List.length_replicate, List.length_set]; omega)))))⟩ ?_
   refine AMx.ent (s' := AS.lst 66 [(8, vc (AL.Fnv.slS (List.take ((List.length o) + 1) (List.set (o ++ List.replicate (piecesS c).length []) (List.length o) c))))] []) (ent_freeze (id := 65) (T := 9) (by kernel_rfl)) ?_
   exact gT (vc (AL.Fnv.slS (List.take ((List.length o) + 1) (List.set (o ++ List.replicate (piecesS c).length []) (List.length o) c)))) (by rw [split_end hP (by first | exact index_none (by omega) | exact split_last hP (by omega))])
  ·
   refine AMx.skip ?_
   refine gS [(8, CE.obj (AObj.grow 9 1 Bytes [] AL.Fnv.rowS (List.set (o ++ List.replicate (piecesS c).length []) (List.length o) (List.take ((Go.Lib.indexByte c 47) + 0).toNat c))))] [InR .i64 ((Go.Lib.indexByte c 47) + 0), 0 ≤ (Go.Lib.indexByte c 47) + 0, (Go.Lib.indexByte c 47) + 0 ≤ List.length c, (0 : Int) ≤ (List.length o : Int), (List.length o : Int) < List.length (o ++ List.replicate (piecesS c).length [] : List Bytes), StoreC (List.length o) 0 [.s (st (List.take ((Go.Lib.indexByte c 47) + 0).toNat c))] (AObj.grow 9 1 Bytes [] AL.Fnv.rowS (o ++ List.replicate (piecesS c).length [])) (AObj.grow 9 1 Bytes [] AL.Fnv.rowS (List.set (o ++ List.replicate (piecesS c).length []) (List.length o) (List.take ((Go.Lib.indexByte c 47) + 0).toNat c)))] 66 [(0, vc (st c)), (1, vc (st [47])), (2, vc (i6 0)), (3, vc (i6 ((min (((List.count (47 : UInt8) s : Nat) : Int) + 1) ((List.length s : Int) + 1)) - 1))), (9, vo 31), (10, vc (i6 (List.length o : Int))), (11, vc (i6 (Go.Lib.indexByte c 47)))] [(31, AObj.grow 9 1 Bytes [] AL.Fnv.rowS (List.set (o ++ List.replicate (piecesS c).length []) (List.length o) (List.take ((Go.Lib.indexByte c 47) + 0).toNat c)))] ⟨(inR64 (by omega) (by first | omega | (have hx := index_rng c; first | omega | (simp only [List.length_cons, List.length_nil]; omega) | (have hz := split_le hP; first | omega | (simp only [List.length_append, List.length_replicate, List.length_set]; omega))))), (by omega), (by first | omega | (have hx := index_rng c; first | omega | (simp only [List.length_cons, List.length_nil]; omega) | (have hz := split_le hP; first | omega | (simp only [List.length_append, List.length_replicate, List.length_set]; omega)))), (by omega), (by first | omega | (have hx := index_rng c; first | omega | (simp only [List.length_cons, List.length_nil]; omega) | (have hz := split_le hP; first | omega | (simp only [List.length_append, List.length_replicate, List.length_set]; omega)))), (⟨List.take ((Go.Lib.indexByte c 47) + 0).toNat c, rfl, by first | omega | (have hx := index_rng c; first | omega | (simp only [List.length_cons, List.length_nil]; omega) | (have hz := split_le hP; first | omega | (simp only [List.length_append, List.length_replicate, List.length_set]; omega))), rfl⟩)⟩ ?_
   refine gS [] [InR .i64 ((Go.Lib.indexByte c 47) + (List.length ([47] : List UInt8) : Int)), 0 ≤ (Go.Lib.indexByte c 47) + (List.length ([47] : List UInt8) : Int), (Go.Lib.indexByte c 47) + (List.length ([47] : List UInt8) : Int) ≤ List.length c] 66 [(0, vc (st (List.drop ((Go.Lib.indexByte c 47) + (List.length ([47] : List UInt8) : Int)).toNat c))), (1, vc (st [47])), (2, vc (i6 0)), (3, vc (i6 ((min (((List.count (47 : UInt8) s : Nat) : Int) + 1) ((List.length s : Int) + 1)) - 1))), (9, vo 31), (10, vc (i6 (List.length o : Int)))] [(31, AObj.grow 9 1 Bytes [] AL.Fnv.rowS (List.set (o ++ List.replicate (piecesS c).length []) (List.length o) (List.take ((Go.Lib.indexByte c 47) + 0).toNat c)))] ⟨(inR64 (by omega) (by first | omega | (have hx := index_rng c; first | omega | (simp only [List.length_cons, List.length_nil]; omega) | (have hz := split_le hP; first | omega | (simp only [List.length_append, List.length_replicate, List.length_set]; omega))))), (by omega), (show (Go.Lib.indexByte c 47) + (List.length ([47] : List UInt8) : Int) ≤ List.length c from (by first | omega | (have hx := index_rng c; first | omega | (simp only [List.length_cons, List.length_nil]; omega) | (have hz := split_le hP; first | omega | (simp only [List.length_append, List.length_replicate, List.length_set]; omega)))))⟩ ?_
   refine gR [] [InR .i64 ((List.length o : Int) + 1)] 66 [(0, vc (st (List.drop ((Go.Lib.indexByte c 47) + (List.length ([47] : List UInt8) : Int)).toNat c))), (1, vc (st [47])), (2, vc (i6 0)), (3, vc (i6 ((min (((List.count (47 : UInt8) s : Nat) : Int) + 1) ((List.length s : Int) + 1)) - 1))), (9, vo 31), (10, vc (i6 ((List.length o : Int) + 1)))] [(31, AObj.grow 9 1 Bytes [] AL.Fnv.rowS (List.set (o ++ List.replicate (piecesS c).length []) (List.length o) (List.take ((Go.Lib.indexByte c 47) + 0).toNat c)))] (show InR .i64 ((List.length o : Int) + 1) from (inR64 (by omega) (by omega))) ?_
   refine AMx.blk ?_
   refine AMx.ent_inv (s' := AS.lst 66 [(0, vc (st (List.drop ((Go.Lib.indexByte c 47) + (List.length ([47] : List UInt8) : Int)).toNat c))), (1, vc (st [47])), (2, vc (i6 0)), (3, vc (i6 ((min (((List.count (47 : UInt8) s : Nat) : Int) + 1) ((List.length s : Int) + 1)) - 1))), (9, vo 31), (10, vc (i6 ((List.length o : Int) + 1)))] [(31, AObj.grow 9 1 Bytes [] AL.Fnv.rowS (List.set (o ++ List.replicate (piecesS c).length []) (List.length o) (List.take ((Go.Lib.indexByte c 47) + 0).toNat c)))]) (ent_proj [0, 1, 2, 3, 9, 10] [31]) ?_
   refine AMx.inv ⟨_, ?_, o ++ [List.take (Go.Lib.indexByte c 47).toNat c], List.drop ((Go.Lib.indexByte c 47).toNat + 1) c, ?_, rfl, ?_⟩
   rotate_left
   · exact ⟨split_inv hP (by omega), by rw [List.length_drop]; omega⟩
   · rw [show (Go.Lib.indexByte c 47 + (0 : Int)).toNat = (Go.Lib.indexByte c 47).toNat by omega, show (Go.Lib.indexByte c 47 + (List.length ([47] : List UInt8) : Int)).toNat = (Go.Lib.indexByte c 47).toNat + 1 by simp only [List.length_cons, List.length_nil]; omega, split_step (by omega), List.length_append]; rfl
   · have hx := index_some (s := c) (by omega); rw [List.length_drop]; omega
 ·
  refine AMx.exit ?_
  refine AMx.code_exit ?_
  refine AMx.inv_exit ?_
  refine AMx.blk_exit ?_
  refine gS [(4, CE.obj (AObj.grow 9 1 Bytes [] AL.Fnv.rowS (List.set (o ++ List.replicate (piecesS c).length []) (List.length o) c)))] [(0 : Int) ≤ (List.length o : Int), (List.length o : Int) < List.length (o ++ List.replicate (piecesS c).length [] : List Bytes), StoreC (List.length o) 0 [.s (st c)] (AObj.grow 9 1 Bytes [] AL.Fnv.rowS (o ++ List.replicate (piecesS c).length [])) (AObj.grow 9 1 Bytes [] AL.Fnv.rowS (List.set (o ++ List.replicate (piecesS c).length []) (List.length o) c))] 66 [(9, vo 31), (10, vc (i6 (List.length o : Int)))] [(31, AObj.grow 9 1 Bytes [] AL.Fnv.rowS (List.set (o ++ List.replicate (piecesS c).length []) (List.length o) c))] ⟨(by omega), (by first | omega | (have hx := index_rng c; first | omega | (simp only [List.length_cons, List.length_nil]; omega) | (have hz := split_le hP; first | omega | (simp only [List.length_append, List.length_replicate, List.length_set]; omega)))), (⟨c, rfl, by first | omega | (have hx := index_rng c; first | omega | (simp only [List.length_cons, List.length_nil]; omega) | (have hz := split_le hP; first | omega | (simp only [List.length_append, List.length_replicate, List.length_set]; omega))), rfl⟩)⟩ ?_
  refine gS [] [InR .i64 ((List.length o : Int) + 1), 0 ≤ (List.length o : Int) + 1, (List.length o : Int) + 1 ≤ (List.length (List.set (o ++ List.replicate (piecesS c).length []) (List.length o) c : List Bytes) : Int)] 66 [(8, vo 65)] [(65, AObj.grow 9 1 Bytes [] AL.Fnv.rowS (List.take ((List.length o) + 1) (List.set (o ++ List.replicate (piecesS c).length []) (List.length o) c)))] ⟨(inR64 (by omega) (by first | omega | (have hx := index_rng c; first | omega | (simp only [List.length_cons, List.length_nil]; omega) | (have hz := split_le hP; first | omega | (simp only [List.length_append, List.length_replicate, List.length_set]; omega))))), (by omega), (show (List.length o : Int) + 1 ≤ (List.length (List.set (o ++ List.replicate (piecesS c).length []) (List.length o) c : List Bytes) : Int) from (by first | omega | (have hx := index_rng c; first | omega | (simp only [List.length_cons, List.length_nil]; omega) | (have hz := split_le hP; first | omega | (simp only [List.length_append, List.length_replicate, List.length_set]; omega)))))⟩ ?_
  refine AMx.ent (s' := AS.lst 66 [(8, vc (AL.Fnv.slS (List.take ((List.length o) + 1) (List.set (o ++ List.replicate (piecesS c).length []) (List.length o) c))))] []) (ent_freeze (id := 65) (T := 9) (by kernel_rfl)) ?_
  exact gT (vc (AL.Fnv.slS (List.take ((List.length o) + 1) (List.set (o ++ List.replicate (piecesS c).length []) (List.length o) c)))) (by rw [split_end hP (by first | exact index_none (by omega) | exact split_last hP (by omega))])
end AL.Route
namespace AL.Route
open Go Go.Proofs AL AL.Rune
set_option linter.unusedVariables false
set_option linter.unusedSimpArgs false
theorem f94_body : Tryz.f94.body = some (.seq (.region 0 (rg Tryz.f94 0) false) (.seq (.region 1 (rg Tryz.f94 1) false) (.ret))) := by kernel_rfl
set_option maxRecDepth 100000 in
set_option maxHeartbeats 8000000 in
theorem Split_c (s : Bytes) (hb : s.length ≤ 100000) : Pure Tryz.prog 94 [tc (st s), tc (st [47])] (vc (AL.Fnv.slS (piecesS s))) := by
 refine Pure.of_body Tryz.func94 f94_body (by kernel_rfl) Tryz.ntmps94 (by kernel_rfl) (by kernel_rfl) ?_
 refine gS [] [] 8 [(0, vc (st s)), (1, vc (st [47]))] [] trivial ?_
 refine gS [(2, CE.call [] [] (vc (AL.Fnv.slS (piecesS s))) [])] [Spec Tryz.prog 127 [tc (st s), tc (st [47]), tc (i6 0), tc (i6 (-1))] (ofH []) (vc (AL.Fnv.slS (piecesS s))) (ofH [])] 8 [(4, vc (AL.Fnv.slS (piecesS s)))] [] (genSplit_c s (by omega)) ?_
 exact gT (vc (AL.Fnv.slS (piecesS s))) rfl
theorem f151_body : Tryz.f151.body = some (.seq (.region 0 (rg Tryz.f151 0) false) (.seq (.region 1 (rg Tryz.f151 1) false) (.seq (.seq (.region 2 (rg Tryz.f151 2) false) (.block 0 (.loop (.seq (.region 3 (rg Tryz.f151 3) false) (.seq (.cond (.tmp 9) (.skip) (.exit 0)) (.seq (.block 1 (.seq (.region 4 (rg Tryz.f151 4) false) (.seq (.region 5 (rg Tryz.f151 5) false) (.block 2 (.seq (.region 6 (rg Tryz.f151 6) false) (.cond (.tmp 14) (.seq (.region 7 (rg Tryz.f151 7) false) (.ret)) (.seq (.region 8 (rg Tryz.f151 8) false) (.cond (.tmp 16) (.region 9 (rg Tryz.f151 9) false) (.skip))))))))) (.region 10 (rg Tryz.f151 10) false))))))) (.seq (.seq (.region 11 (rg Tryz.f151 11) false) (.cond (.tmp 25) (.seq (.region 12 (rg Tryz.f151 12) false) (.ret)) (.skip))) (.seq (.region 13 (rg Tryz.f151 13) false) (.ret)))))) := by kernel_rfl
set_option maxRecDepth 100000 in
set_option maxHeartbeats 8000000 in
theorem graded_c (l : List Bytes) (hb : ∀ p ∈ l, p.length ≤ 100000) : Pure Tryz.prog 151 [tc (AL.Fnv.slS l)] (vc (i6 (gradedS l))) := by
 refine Pure.of_body Tryz.func151 f151_body (by kernel_rfl) Tryz.ntmps151 (by kernel_rfl) (by kernel_rfl) ?_
 refine AMx.sl 0 (l := l) rfl (fun hl => ?_)
 simp only [maxLen] at hl
 refine gS [] [] 27 [(0, vc (AL.Fnv.slS l))] [] trivial ?_
 refine gS [] [] 27 [(0, vc (AL.Fnv.slS l)), (3, vc (i6 0))] [] trivial ?_
 refine gQ ?_
 refine gS [] [] 27 [(0, vc (AL.Fnv.slS l)), (3, vc (i6 0)), (6, vc (AL.Fnv.slS l)), (7, vc (i6 (List.length l : Int))), (8, vc (i6 0))] [] trivial ?_
 refine AMx.block ?_
 refine AMx.ent (s' := AS.lst 27 [(0, vc (AL.Fnv.slS l)), (3, vc (i6 0)), (6, vc (AL.Fnv.slS l)), (7, vc (i6 (List.length l : Int))), (8, vc (i6 0))] []) (ent_proj [0, 3, 6, 7, 8] []) ?_
 refine AMx.loop (fun mm ss => ∃ (k : Nat), (k ≤ l.length ∧ ∀ i, i < k → ¬ partS (List.getD l i []) = 4) ∧ mm = l.length - k ∧ ss = AS.lst 27 [(0, vc (AL.Fnv.slS l)), (3, vc (i6 (worstS (List.take k l)))), (6, vc (AL.Fnv.slS l)), (7, vc (i6 (List.length l : Int))), (8, vc (i6 (k : Int)))] []) ⟨0, ?_, rfl, ?_⟩ ?_
 · exact ⟨Nat.zero_le _, fun i hi => by omega⟩
 · rfl
 rintro mm ss ⟨k, ⟨hI, hN⟩, rfl, rfl⟩
 refine gS [] [] 27 [(0, vc (AL.Fnv.slS l)), (3, vc (i6 (worstS (List.take k l)))), (6, vc (AL.Fnv.slS l)), (7, vc (i6 (List.length l : Int))), (8, vc (i6 (k : Int))), (9, vc (bo (decide ((k : Int) < (List.length l : Int)))))] [] trivial ?_
 refine gQ ?_
 refine gC ((k : Int) < (List.length l : Int)) (fun hc1 => ?_) fun hc1 => ?_
 ·
  refine AMx.skip ?_
  refine gQ ?_
  refine AMx.block ?_
  refine gS [] [(0 : Int) ≤ (k : Int), (k : Int) < List.length l] 27 [(0, vc (AL.Fnv.slS l)), (3, vc (i6 (worstS (List.take k l)))), (5, vc (st (List.getD l k []))), (6, vc (AL.Fnv.slS l)), (7, vc (i6 (List.length l : Int))), (8, vc (i6 (k : Int)))] [] ⟨(by omega), (show (k : Int) < List.length l from (by omega))⟩ ?_
  refine gS [(1, CE.call [] [] (vc (i6 (partS (List.getD l k [])))) [])] [Spec Tryz.prog 166 [tc (st (List.getD l k []))] (ofH []) (vc (i6 (partS (List.getD l k [])))) (ofH [])] 27 [(0, vc (AL.Fnv.slS l)), (3, vc (i6 (worstS (List.take k l)))), (6, vc (AL.Fnv.slS l)), (7, vc (i6 (List.length l : Int))), (8, vc (i6 (k : Int))), (13, vc (i6 (partS (List.getD l k []))))] [] (Part_c (List.getD l k []) (hb _ (AL.Lib.getD_mem [] l k (by omega)))) ?_
  refine AMx.block ?_
  refine gS [] [] 27 [(0, vc (AL.Fnv.slS l)), (3, vc (i6 (worstS (List.take k l)))), (6, vc (AL.Fnv.slS l)), (7, vc (i6 (List.length l : Int))), (8, vc (i6 (k : Int))), (13, vc (i6 (partS (List.getD l k [])))), (14, vc (bo (decide (partS (List.getD l k []) = 4))))] [] trivial ?_
  refine gC (partS (List.getD l k []) = 4) (fun hc2 => ?_) fun hc2 => ?_
  ·
   refine gS [] [] 27 [(2, vc (i6 4))] [] trivial ?_
   exact gT (vc (i6 4)) (by rw [graded_hit (k := k) (by omega) (by assumption)])
  ·
   refine gS [] [] 27 [(0, vc (AL.Fnv.slS l)), (3, vc (i6 (worstS (List.take k l)))), (6, vc (AL.Fnv.slS l)), (7, vc (i6 (List.length l : Int))), (8, vc (i6 (k : Int))), (16, vc (bo (decide (partS (List.getD l k []) = 5))))] [] trivial ?_
   refine gC (partS (List.getD l k []) = 5) (fun hc3 => ?_) fun hc3 => ?_
   ·
    refine gR [] [] 27 [(0, vc (AL.Fnv.slS l)), (3, vc (i6 5)), (6, vc (AL.Fnv.slS l)), (7, vc (i6 (List.length l : Int))), (8, vc (i6 (k : Int)))] [] trivial ?_
    refine AMx.blk ?_
    refine AMx.blk ?_
    refine gR [] [InR .i64 ((k : Int) + 1)] 27 [(0, vc (AL.Fnv.slS l)), (3, vc (i6 5)), (6, vc (AL.Fnv.slS l)), (7, vc (i6 (List.length l : Int))), (8, vc (i6 ((k : Int) + 1)))] [] (show InR .i64 ((k : Int) + 1) from (inR64 (by omega) (by omega))) ?_
    refine AMx.ent_inv (s' := AS.lst 27 [(0, vc (AL.Fnv.slS l)), (3, vc (i6 5)), (6, vc (AL.Fnv.slS l)), (7, vc (i6 (List.length l : Int))), (8, vc (i6 ((k : Int) + 1)))] []) (ent_proj [0, 3, 6, 7, 8] []) ?_
    refine AMx.inv ⟨_, ?_, k + 1, ?_, rfl, ?_⟩
    rotate_left
    · exact ⟨by omega, fun i hi => by rcases Nat.lt_or_ge i k with q | q; exact hN i q; rw [show i = k by omega]; assumption⟩
    · rw [worst_step l k (by omega), if_pos (by assumption)]; rfl
    · omega
   ·
    refine AMx.skip ?_
    refine AMx.blk ?_
    refine AMx.blk ?_
    refine gR [] [InR .i64 ((k : Int) + 1)] 27 [(0, vc (AL.Fnv.slS l)), (3, vc (i6 (worstS (List.take k l)))), (6, vc (AL.Fnv.slS l)), (7, vc (i6 (List.length l : Int))), (8, vc (i6 ((k : Int) + 1)))] [] (show InR .i64 ((k : Int) + 1) from (inR64 (by omega) (by omega))) ?_
    refine AMx.ent_inv (s' := AS.lst 27 [(0, vc (AL.Fnv.slS l)), (3, vc (i6 (worstS (List.take k l)))), (6, vc (AL.Fnv.slS l)), (7, vc (i6 (List.length l : Int))), (8, vc (i6 ((k : Int) + 1)))] []) (ent_proj [0, 3, 6, 7, 8] []) ?_
    refine AMx.inv ⟨_, ?_, k + 1, ?_, rfl, ?_⟩
    rotate_left
    · exact ⟨by omega, fun i hi => by rcases Nat.lt_or_ge i k with q | q; exact hN i q; rw [show i = k by omega]; assumption⟩
    · rw [worst_step l k (by omega), if_neg (by assumption)]; rfl
    · omega
 ·
  refine AMx.exit ?_
  refine AMx.code_exit ?_
  refine AMx.inv_exit ?_
  refine AMx.blk_exit ?_
  rw [show List.take k l = l from List.take_of_length_le (by omega)]
  refine gQ ?_
  refine gS [] [((decide (worstS l = 0)) = true) → allP [(decide (worstS l = 0)) = true], ((decide (worstS l = 0)) = true) → allP [(decide (worstS l = 0)) = true], (decide (worstS l = 0)) = true → allP [(decide (worstS l = 0)) = true]] 27 [(3, vc (i6 (worstS l))), (25, vc (bo ((decide (worstS l = 0)) && (decide (6 < (List.length l : Int))))))] [] ⟨(fun hp => hp), (fun hp => hp), (fun hp2 => (by first | exact hp2 | exact ⟨hp, hp2⟩))⟩ ?_
  refine gB (((decide (worstS l = 0)) && (decide (6 < (List.length l : Int))))) (fun hc4 => ?_) fun hc4 => ?_
  ·
   try simp only [xT, xF, xA, xB] at hc4
   refine gS [] [] 27 [(2, vc (i6 24))] [] trivial ?_
   exact gT (vc (i6 24)) (by rw [graded_end (fun i hi => hN i (by omega)), if_pos (by omega), if_pos (by omega)])
  ·
   try simp only [xT, xF, xA, xB] at hc4
   refine AMx.skip ?_
   refine gS [] [] 27 [(2, vc (i6 (worstS l)))] [] trivial ?_
   exact gT (vc (i6 (worstS l))) (by rw [graded_end (fun i hi => hN i (by omega))]; by_cases hw : worstS l = 0; rw [hw, if_pos rfl, if_neg (by omega)]; rw [if_neg hw])
theorem f131_body : Tryz.f131.body = some (.seq (.region 0 (rg Tryz.f131 0) false) (.seq (.seq (.region 1 (rg Tryz.f131 1) false) (.cond (.tmp 8) (.seq (.region 2 (rg Tryz.f131 2) false) (.ret)) (.skip))) (.seq (.region 3 (rg Tryz.f131 3) false) (.seq (.seq (.region 4 (rg Tryz.f131 4) false) (.seq (.region 5 (rg Tryz.f131 5) false) (.cond (.tmp 14) (.seq (.region 6 (rg Tryz.f131 6) false) (.ret)) (.skip)))) (.seq (.region 7 (rg Tryz.f131 7) false) (.ret)))))) := by kernel_rfl
set_option maxRecDepth 100000 in
set_option maxHeartbeats 8000000 in
theorem Parts_c (s : Bytes) : Pure Tryz.prog 131 [tc (st s)] (AV.tup [tc (AL.Fnv.slS ((partsS s).1)), tc (i6 ((partsS s).2))]) := by
 refine Pure.of_body Tryz.func131 f131_body (by kernel_rfl) Tryz.ntmps131 (by kernel_rfl) (by kernel_rfl) ?_
 refine gS [] [] 17 [(0, vc (st s))] [] trivial ?_
 refine gQ ?_
 refine gS [] [] 17 [(0, vc (st s)), (8, vc (bo (decide (64 < (List.length s : Int)))))] [] trivial ?_
 refine gC (64 < (List.length s : Int)) (fun hc1 => ?_) fun hc1 => ?_
 ·
  refine gS [] [] 17 [(2, vc (SC.nilsl)), (3, vc (i6 5))] [] trivial ?_
  refine AMx.ent (ent_weak 2 (v' := vc (AL.Fnv.slS [])) (by kernel_rfl) (AV.le_t (TV.le_c AC.le_nil))) ?_
  exact gT (AV.tup [tc (AL.Fnv.slS []), tc (i6 5)]) (by rw [show partsS s = ([], 5) from by first | rw [parts_no (by rw [check_big (by omega)]; decide), check_big (by omega)] | (have hk := check_small (s := s) (by omega); first | rw [parts_no (by omega), hk] | rw [parts_ok (by omega)])])
 ·
  refine AMx.skip ?_
  refine gS [(1, CE.call [] [] (vc (AL.Fnv.slS (piecesS s))) [])] [Spec Tryz.prog 94 [tc (st s), tc (st [47])] (ofH []) (vc (AL.Fnv.slS (piecesS s))) (ofH [])] 17 [(4, vc (AL.Fnv.slS (piecesS s)))] [] (Split_c s (by omega)) ?_
  refine gQ ?_
  refine gS [(1, CE.call [] [] (vc (i6 (gradedS (piecesS s)))) [])] [Spec Tryz.prog 151 [tc (AL.Fnv.slS (piecesS s))] (ofH []) (vc (i6 (gradedS (piecesS s)))) (ofH [])] 17 [(4, vc (AL.Fnv.slS (piecesS s))), (5, vc (i6 (gradedS (piecesS s))))] [] (graded_c (piecesS s) (fun p hp => Nat.le_trans (piece_le hp) (by omega))) ?_
  refine gS [] [] 17 [(4, vc (AL.Fnv.slS (piecesS s))), (5, vc (i6 (gradedS (piecesS s)))), (14, vc (bo (!decide (gradedS (piecesS s) = 0))))] [] trivial ?_
  refine gN (gradedS (piecesS s) = 0) (fun hc2 => ?_) fun hc2 => ?_
  ·
   refine gS [] [] 17 [(2, vc (SC.nilsl)), (3, vc (i6 (gradedS (piecesS s))))] [] trivial ?_
   refine AMx.ent (ent_weak 2 (v' := vc (AL.Fnv.slS [])) (by kernel_rfl) (AV.le_t (TV.le_c AC.le_nil))) ?_
   exact gT (AV.tup [tc (AL.Fnv.slS []), tc (i6 (gradedS (piecesS s)))]) (by rw [show partsS s = ([], gradedS (piecesS s)) from by first | rw [parts_no (by rw [check_big (by omega)]; decide), check_big (by omega)] | (have hk := check_small (s := s) (by omega); first | rw [parts_no (by omega), hk] | rw [parts_ok (by omega)])])
  ·
   refine AMx.skip ?_
   refine gS [] [] 17 [(2, vc (AL.Fnv.slS (piecesS s))), (3, vc (i6 0))] [] trivial ?_
   exact gT (AV.tup [tc (AL.Fnv.slS (piecesS s)), tc (i6 0)]) (by rw [show partsS s = (piecesS s, 0) from by first | rw [parts_no (by rw [check_big (by omega)]; decide), check_big (by omega)] | (have hk := check_small (s := s) (by omega); first | rw [parts_no (by omega), hk] | rw [parts_ok (by omega)])])
theorem f99_body : Tryz.f99.body = some (.seq (.region 0 (rg Tryz.f99 0) false) (.seq (.region 1 (rg Tryz.f99 1) false) (.seq (.region 2 (rg Tryz.f99 2) false) (.ret)))) := by kernel_rfl
set_option maxRecDepth 100000 in
set_option maxHeartbeats 8000000 in
theorem Check_c (s : Bytes) : Pure Tryz.prog 99 [tc (st s)] (vc (i6 (checkS s))) := by
 refine Pure.of_body Tryz.func99 f99_body (by kernel_rfl) Tryz.ntmps99 (by kernel_rfl) (by kernel_rfl) ?_
 refine gS [] [] 11 [(0, vc (st s))] [] trivial ?_
 refine gS [(1, CE.call [] [] (AV.tup [tc (AL.Fnv.slS ((partsS s).1)), tc (i6 ((partsS s).2))]) [])] [Spec Tryz.prog 131 [tc (st s)] (ofH []) (AV.tup [tc (AL.Fnv.slS ((partsS s).1)), tc (i6 ((partsS s).2))]) (ofH [])] 11 [(4, vc (i6 ((partsS s).2)))] [] (Parts_c s) ?_
 refine gS [] [] 11 [(2, vc (i6 ((partsS s).2)))] [] trivial ?_
 exact gT (vc (i6 ((partsS s).2))) (by rw [parts_2])
theorem f74_body : Tryz.f74.body = some (.seq (.region 0 (rg Tryz.f74 0) false) (.seq (.seq (.region 1 (rg Tryz.f74 1) false) (.cond (.tmp 9) (.seq (.region 2 (rg Tryz.f74 2) false) (.ret)) (.skip))) (.seq (.region 3 (rg Tryz.f74 3) false) (.seq (.region 4 (rg Tryz.f74 4) false) (.seq (.seq (.region 5 (rg Tryz.f74 5) false) (.block 0 (.loop (.seq (.seq (.region 6 (rg Tryz.f74 6) false) (.cond (.tmp 15) (.skip) (.exit 0))) (.seq (.block 1 (.seq (.region 8 (rg Tryz.f74 8) false) (.seq (.seq (.region 9 (rg Tryz.f74 9) false) (.cond (.tmp 24) (.seq (.region 10 (rg Tryz.f74 10) false) (.ret)) (.skip))) (.region 11 (rg Tryz.f74 11) false)))) (.region 7 (rg Tryz.f74 7) false)))))) (.seq (.seq (.region 12 (rg Tryz.f74 12) false) (.cond (.tmp 30) (.seq (.region 13 (rg Tryz.f74 13) false) (.ret)) (.skip))) (.seq (.seq (.region 14 (rg Tryz.f74 14) false) (.cond (.tmp 33) (.seq (.region 15 (rg Tryz.f74 15) false) (.ret)) (.skip))) (.seq (.region 16 (rg Tryz.f74 16) false) (.ret))))))))) := by kernel_rfl
set_option maxRecDepth 100000 in
set_option maxHeartbeats 8000000 in
theorem RCheck_c (s : Bytes) : Pure Tryz.prog 74 [tc (st s)] (vc (i6 (checkS s))) := by
 refine Pure.of_body Tryz.func74 f74_body (by kernel_rfl) Tryz.ntmps74 (by kernel_rfl) (by kernel_rfl) ?_
 refine gS [] [] 34 [(0, vc (st s))] [] trivial ?_
 refine gQ ?_
 refine gS [] [] 34 [(0, vc (st s)), (9, vc (bo (decide (64 < (List.length s : Int)))))] [] trivial ?_
 refine gC (64 < (List.length s : Int)) (fun hc1 => ?_) fun hc1 => ?_
 ·
  refine gS [] [] 34 [(2, vc (i6 5))] [] trivial ?_
  exact gT (vc (i6 5)) (by first | rw [check_big (by omega)] | rw [check_small (by omega), graded_5 (fun i hi => hN i (by omega)) (by assumption)])
 ·
  refine AMx.skip ?_
  refine gS [(1, CE.call [] [] (vc (AL.Fnv.slS (piecesS s))) [])] [Spec Tryz.prog 103 [tc (st s)] (ofH []) (vc (AL.Fnv.slS (piecesS s))) (ofH [])] 34 [(3, vc (AL.Fnv.slS (piecesS s)))] [] (Pieces_c s (by omega)) ?_
  refine gS [] [] 34 [(3, vc (AL.Fnv.slS (piecesS s))), (4, vc (bo false))] [] trivial ?_
  refine gQ ?_
  refine gS [] [] 34 [(3, vc (AL.Fnv.slS (piecesS s))), (4, vc (bo false)), (5, vc (i6 0))] [] trivial ?_
  refine AMx.block ?_
  refine AMx.ent (s' := AS.lst 34 [(3, vc (AL.Fnv.slS (piecesS s))), (4, vc (bo false)), (5, vc (i6 0))] []) (ent_proj [3, 4, 5] []) ?_
  refine AMx.loop (fun mm ss => ∃ (k : Nat), (k ≤ (piecesS s).length ∧ ∀ i, i < k → ¬ partS (List.getD (piecesS s) i []) = 4) ∧ mm = (piecesS s).length - k ∧ ss = AS.lst 34 [(3, vc (AL.Fnv.slS (piecesS s))), (4, vc (bo (longS (List.take k (piecesS s))))), (5, vc (i6 (k : Int)))] []) ⟨0, ?_, rfl, ?_⟩ ?_
  · exact ⟨Nat.zero_le _, fun i hi => by omega⟩
  · rfl
  rintro mm ss ⟨k, ⟨hI, hN⟩, rfl, rfl⟩
  refine gQ ?_
  refine gS [] [] 34 [(3, vc (AL.Fnv.slS (piecesS s))), (4, vc (bo (longS (List.take k (piecesS s))))), (5, vc (i6 (k : Int))), (15, vc (bo (decide ((k : Int) < (List.length (piecesS s : List Bytes) : Int)))))] [] trivial ?_
  refine gC ((k : Int) < (List.length (piecesS s : List Bytes) : Int)) (fun hc2 => ?_) fun hc2 => ?_
  ·
   refine AMx.skip ?_
   refine gQ ?_
   refine AMx.block ?_
   refine gS [(4, CE.call [] [] (vc (i6 (partS (List.getD (piecesS s) k [])))) [])] [(0 : Int) ≤ (k : Int), (k : Int) < List.length (piecesS s : List Bytes), Spec Tryz.prog 104 [tc (st (List.getD (piecesS s) k []))] (ofH []) (vc (i6 (partS (List.getD (piecesS s) k [])))) (ofH [])] 34 [(3, vc (AL.Fnv.slS (piecesS s))), (4, vc (bo (longS (List.take k (piecesS s))))), (5, vc (i6 (k : Int))), (6, vc (i6 (partS (List.getD (piecesS s) k []))))] [] ⟨(by omega), (by omega), (RPart_c (List.getD (piecesS s) k []) (by have hq := piece_le (AL.Lib.getD_mem [] (piecesS s) k (by omega)); omega))⟩ ?_
   refine gQ ?_
   refine gS [] [] 34 [(3, vc (AL.Fnv.slS (piecesS s))), (4, vc (bo (longS (List.take k (piecesS s))))), (5, vc (i6 (k : Int))), (6, vc (i6 (partS (List.getD (piecesS s) k [])))), (24, vc (bo (decide (partS (List.getD (piecesS s) k []) = 4))))] [] trivial ?_
   refine gC (partS (List.getD (piecesS s) k []) = 4) (fun hc3 => ?_) fun hc3 => ?_
   ·
    refine gS [] [] 34 [(2, vc (i6 4))] [] trivial ?_
    exact gT (vc (i6 4)) (by rw [check_small (by omega), graded_hit (k := k) (by omega) (by assumption)])
   ·
    refine AMx.skip ?_
    refine gR [] [((longS (List.take k (piecesS s))) = false) → allP [(longS (List.take k (piecesS s))) = false], (longS (List.take k (piecesS s))) = false → allP [(longS (List.take k (piecesS s))) = false]] 34 [(3, vc (AL.Fnv.slS (piecesS s))), (4, vc (bo ((longS (List.take k (piecesS s))) || (decide (partS (List.getD (piecesS s) k []) = 5))))), (5, vc (i6 (k : Int)))] [] ⟨(fun hp => hp), (fun hp2 => (by first | exact hp2 | exact ⟨hp, hp2⟩))⟩ ?_
    refine AMx.blk ?_
    refine gR [] [InR .i64 ((k : Int) + 1)] 34 [(3, vc (AL.Fnv.slS (piecesS s))), (4, vc (bo ((longS (List.take k (piecesS s))) || (decide (partS (List.getD (piecesS s) k []) = 5))))), (5, vc (i6 ((k : Int) + 1)))] [] (show InR .i64 ((k : Int) + 1) from (inR64 (by omega) (by first | omega | (have hz := pieces_len s; have hz2 : List.count (47 : UInt8) s ≤ s.length := List.count_le_length; omega)))) ?_
    refine AMx.ent_inv (s' := AS.lst 34 [(3, vc (AL.Fnv.slS (piecesS s))), (4, vc (bo ((longS (List.take k (piecesS s))) || (decide (partS (List.getD (piecesS s) k []) = 5))))), (5, vc (i6 ((k : Int) + 1)))] []) (ent_proj [3, 4, 5] []) ?_
    refine AMx.inv ⟨_, ?_, k + 1, ?_, rfl, ?_⟩
    rotate_left
    · exact ⟨by omega, fun i hi => by rcases Nat.lt_or_ge i k with q | q; exact hN i q; rw [show i = k by omega]; assumption⟩
    · rw [← long_step (piecesS s) k (by omega)]; rfl
    · omega
  ·
   refine AMx.exit ?_
   refine AMx.code_exit ?_
   refine AMx.inv_exit ?_
   refine AMx.blk_exit ?_
   rw [show List.take k (piecesS s) = piecesS s from List.take_of_length_le (by omega)]
   refine gQ ?_
   refine gS [] [] 34 [(3, vc (AL.Fnv.slS (piecesS s))), (30, vc (bo (longS (piecesS s))))] [] trivial ?_
   refine gB (longS (piecesS s)) (fun hc4 => ?_) fun hc4 => ?_
   ·
    try simp only [xT, xF] at hc4
    refine gS [] [] 34 [(2, vc (i6 5))] [] trivial ?_
    exact gT (vc (i6 5)) (by first | rw [check_big (by omega)] | rw [check_small (by omega), graded_5 (fun i hi => hN i (by omega)) (by assumption)])
   ·
    try simp only [xT, xF] at hc4
    refine AMx.skip ?_
    refine gQ ?_
    refine gS [] [] 34 [(33, vc (bo (decide (6 < (List.length (piecesS s : List Bytes) : Int)))))] [] trivial ?_
    refine gC (6 < (List.length (piecesS s : List Bytes) : Int)) (fun hc5 => ?_) fun hc5 => ?_
    ·
     refine gS [] [] 34 [(2, vc (i6 24))] [] trivial ?_
     exact gT (vc (i6 24)) (by rw [check_small (by omega), graded_24 (fun i hi => hN i (by omega)) (by assumption) (by omega)])
    ·
     refine AMx.skip ?_
     refine gS [] [] 34 [(2, vc (i6 0))] [] trivial ?_
     exact gT (vc (i6 0)) (by rw [check_small (by omega), graded_0 (fun i hi => hN i (by omega)) (by assumption) (by omega)])
end AL.Route
namespace AL.Under
open Go Go.Proofs AL
set_option linter.unusedVariables false
set_option linter.unusedSimpArgs false
theorem trim_len (s p : Bytes) : (trimP s p).length ≤ s.length := by unfold trimP; split <;> simp
theorem CutPrefix_c (s p : Bytes) : Pure Tryz.prog 167 [tc (st s), tc (st p)] (AV.tup [tc (st (trimP s p)), tc (bo (hasP s p))]) := by
  refine Pure.of_calls ⟨_, Tryz.func167, by kernel_rfl, by kernel_rfl⟩ fun Γ w cargs hm => ?_
  obtain ⟨u, v, rfl, ⟨rfl, hu⟩, ⟨rfl, hv⟩⟩ := args2 hm
  refine (Tryz.strings_CutPrefix (ba s) (ba p) w).mono ?_
  rintro e w' ⟨rfl, rfl⟩
  exact ⟨_, rfl, rfl, #[.string (ba (trimP s p)), .bool (hasP s p)], rfl, ⟨rfl, Nat.le_trans (trim_len s p) hu⟩, rfl, trivial⟩
end AL.Under
namespace AL.Under
open Go Go.Proofs AL
set_option linter.unusedVariables false
set_option linter.unusedSimpArgs false
theorem oneS : OneRow Bytes AL.Fnv.rowS Go.Proofs.encStr (fun s => s.length ≤ maxLen) := ⟨fun h => h, fun h => ⟨rfl, h⟩⟩
def risen (l : List Bytes) : List Bytes := l.mergeSort fun x y => decide (x ≤ y)
theorem risen_len (l : List Bytes) : (risen l).length = l.length := List.length_mergeSort l
theorem risen_mem {l : List Bytes} {x : Bytes} (h : x ∈ risen l) : x ∈ l := (List.mergeSort_perm l _).mem_iff.1 h
theorem Sort_c (l : List Bytes) (hb : l.length ≤ 100000) (id : Nat) : Spec Tryz.prog 47 [TV.c (.own id)] (ofH [(id, AObj.grow 9 1 Bytes [] AL.Fnv.rowS l)]) (.tup []) (ofH [(id, AObj.grow 9 1 Bytes [] AL.Fnv.rowS (risen l))]) :=
  Spec.inplace ⟨_, Tryz.func47, by kernel_rfl, by kernel_rfl⟩ oneS (risen_len l) (fun _ => risen_mem) (fun b cap w h1 h2 => Tryz.slices_Sort_string b 0 cap l w h1 h2 (by omega))
    (fun h p cap w => Tryz.slices_Sort_string_none p cap w) id
end AL.Under
namespace AL.Under
open Go Go.Proofs AL AL.Fnv
set_option linter.unusedVariables false
set_option linter.unusedSimpArgs false
theorem f155_body : Tryz.f155.body = some (.seq (.region 0 (rg Tryz.f155 0) false) (.seq (.seq (.region 1 (rg Tryz.f155 1) false) (.cond (.tmp 9) (.seq (.region 2 (rg Tryz.f155 2) false) (.ret)) (.skip))) (.seq (.region 3 (rg Tryz.f155 3) false) (.seq (.seq (.region 4 (rg Tryz.f155 4) false) (.cond (.tmp 20) (.seq (.region 5 (rg Tryz.f155 5) false) (.ret)) (.skip))) (.seq (.region 6 (rg Tryz.f155 6) false) (.ret)))))) := by kernel_rfl
set_option maxRecDepth 100000 in
set_option maxHeartbeats 8000000 in
theorem rest_c (s top : Bytes) : Pure Tryz.prog 155 [tc (st s), tc (st top)] (AV.tup [tc (st ((restS s top).1)), tc (bo ((restS s top).2))]) := by
 refine Pure.of_body Tryz.func155 f155_body (by kernel_rfl) Tryz.ntmps155 (by kernel_rfl) (by kernel_rfl) ?_
 refine gS [] [] 25 [(0, vc (st s)), (1, vc (st top))] [] trivial ?_
 refine gQ ?_
 refine gS [] [] 25 [(0, vc (st s)), (1, vc (st top)), (9, vc (bo (decide (top = []))))] [] trivial ?_
 refine gC (top = []) (fun hc1 => ?_) fun hc1 => ?_
 ·
  refine gS [] [] 25 [(4, vc (st s)), (5, vc (bo (!decide (s = []))))] [] trivial ?_
  exact gT (AV.tup [tc (st s), tc (bo (!decide (s = [])))]) (by rw [show restS s top = (s, !decide (s = [])) from by unfold restS; simp [*]])
 ·
  refine AMx.skip ?_
  refine gS [(2, CE.call [] [] (AV.tup [tc (st (trimP s top)), tc (bo (hasP s top))]) [])] [Spec Tryz.prog 167 [tc (st s), tc (st top)] (ofH []) (AV.tup [tc (st (trimP s top)), tc (bo (hasP s top))]) (ofH [])] 25 [(6, vc (st (trimP s top))), (7, vc (bo (hasP s top)))] [] (CutPrefix_c s top) ?_
  refine gQ ?_
  refine gS [] [] 25 [(6, vc (st (trimP s top))), (20, vc (bo (!(hasP s top))))] [] trivial ?_
  refine gB (!(hasP s top)) (fun hc2 => ?_) fun hc2 => ?_
  ·
   try simp only [xT, xF, xN, xM] at hc2
   refine gS [] [] 25 [(4, vc (st [])), (5, vc (bo false))] [] trivial ?_
   exact gT (AV.tup [tc (st []), tc (bo false)]) (by rw [show restS s top = ([], false) from by unfold restS; simp [*]])
  ·
   try simp only [xT, xF, xN, xM] at hc2
   refine AMx.skip ?_
   refine gS [(1, CE.call [] [] (AV.tup [tc (st (trimP (trimP s top) [47])), tc (bo (hasP (trimP s top) [47]))]) [])] [Spec Tryz.prog 167 [tc (st (trimP s top)), tc (st [47])] (ofH []) (AV.tup [tc (st (trimP (trimP s top) [47])), tc (bo (hasP (trimP s top) [47]))]) (ofH [])] 25 [(4, vc (st (trimP (trimP s top) [47]))), (5, vc (bo (hasP (trimP s top) [47])))] [] (CutPrefix_c (trimP s top) [47]) ?_
   exact gT (AV.tup [tc (st (trimP (trimP s top) [47])), tc (bo (hasP (trimP s top) [47]))]) (by rw [show restS s top = (trimP (trimP s top) [47], hasP (trimP s top) [47]) from by unfold restS; simp [*]])
theorem f140_body : Tryz.f140.body = some (.seq (.region 0 (rg Tryz.f140 0) false) (.seq (.region 1 (rg Tryz.f140 1) false) (.seq (.region 2 (rg Tryz.f140 2) false) (.ret)))) := by kernel_rfl
set_option maxRecDepth 100000 in
set_option maxHeartbeats 8000000 in
theorem Below_c (s top : Bytes) : Pure Tryz.prog 140 [tc (st s), tc (st top)] (vc (bo (belowS s top))) := by
 refine Pure.of_body Tryz.func140 f140_body (by kernel_rfl) Tryz.ntmps140 (by kernel_rfl) (by kernel_rfl) ?_
 refine gS [] [] 14 [(0, vc (st s)), (1, vc (st top))] [] trivial ?_
 refine gS [(2, CE.call [] [] (AV.tup [tc (st ((restS s top).1)), tc (bo ((restS s top).2))]) [])] [Spec Tryz.prog 155 [tc (st s), tc (st top)] (ofH []) (AV.tup [tc (st ((restS s top).1)), tc (bo ((restS s top).2))]) (ofH [])] 14 [(6, vc (bo ((restS s top).2)))] [] (rest_c s top) ?_
 refine gS [] [] 14 [(4, vc (bo ((restS s top).2)))] [] trivial ?_
 exact gT (vc (bo ((restS s top).2))) rfl
theorem f118_body : Tryz.f118.body = some (.seq (.region 0 (rg Tryz.f118 0) false) (.seq (.region 1 (rg Tryz.f118 1) false) (.ret))) := by kernel_rfl
set_option maxRecDepth 100000 in
set_option maxHeartbeats 8000000 in
theorem Within_c (s top : Bytes) : Pure Tryz.prog 118 [tc (st s), tc (st top)] (vc (bo (withinS s top))) := by
 refine Pure.of_body Tryz.func118 f118_body (by kernel_rfl) Tryz.ntmps118 (by kernel_rfl) (by kernel_rfl) ?_
 refine gS [] [] 13 [(0, vc (st s)), (1, vc (st top))] [] trivial ?_
 refine gS [(6, CE.call [] [] (vc (bo (belowS s top))) [])] [((decide (s = top)) = false) → allP [(decide (s = top)) = false, (decide (s = top)) = false, Spec Tryz.prog 140 [tc (st s), tc (st top)] (ofH []) (vc (bo (belowS s top))) (ofH [])], (decide (s = top)) = false → allP [(decide (s = top)) = false]] 13 [(4, vc (bo ((decide (s = top)) || (belowS s top))))] [] ⟨(fun hp => by have hq := hp; (try simp only [xT, xF, xA, xO, xB, xP, xN, xM, Bool.not_eq_true, Bool.not_eq_false] at hq); exact ⟨hp, hp, (Below_c s top)⟩), (fun hp2 => (by first | exact hp2 | exact ⟨hp, hp2⟩))⟩ ?_
 exact gT (vc (bo ((decide (s = top)) || (belowS s top)))) rfl
theorem f83_body : Tryz.f83.body = some (.seq (.region 0 (rg Tryz.f83 0) false) (.seq (.region 1 (rg Tryz.f83 1) false) (.seq (.seq (.region 2 (rg Tryz.f83 2) false) (.block 0 (.loop (.seq (.region 3 (rg Tryz.f83 3) false) (.seq (.cond (.tmp 12) (.skip) (.exit 0)) (.seq (.block 1 (.seq (.region 4 (rg Tryz.f83 4) false) (.seq (.region 5 (rg Tryz.f83 5) false) (.cond (.tmp 24) (.region 6 (rg Tryz.f83 6) false) (.skip))))) (.region 7 (rg Tryz.f83 7) false))))))) (.seq (.region 8 (rg Tryz.f83 8) false) (.ret))))) := by kernel_rfl
set_option maxRecDepth 100000 in
set_option maxHeartbeats 8000000 in
theorem Longest_c (s : Bytes) (l : List Bytes) : Pure Tryz.prog 83 [tc (st s), tc (slS l)] (vc (i6 (longestS s l))) := by
 refine Pure.of_body Tryz.func83 f83_body (by kernel_rfl) Tryz.ntmps83 (by kernel_rfl) (by kernel_rfl) ?_
 refine AMx.sl 1 (l := l) rfl (fun hl => ?_)
 simp only [maxLen] at hl
 refine gS [] [] 30 [(0, vc (st s)), (1, vc (slS l))] [] trivial ?_
 refine gS [] [] 30 [(0, vc (st s)), (1, vc (slS l)), (5, vc (i6 (-1))), (6, vc (i6 (-1)))] [] trivial ?_
 refine gQ ?_
 refine gS [] [] 30 [(0, vc (st s)), (5, vc (i6 (-1))), (6, vc (i6 (-1))), (9, vc (slS l)), (10, vc (i6 (List.length l : Int))), (11, vc (i6 0))] [] trivial ?_
 refine AMx.block ?_
 refine AMx.ent (s' := AS.lst 30 [(0, vc (st s)), (5, vc (i6 (-1))), (6, vc (i6 (-1))), (9, vc (slS l)), (10, vc (i6 (List.length l : Int))), (11, vc (i6 0))] []) (ent_proj [0, 5, 6, 9, 10, 11] []) ?_
 refine AMx.loop (fun mm ss => ∃ (k : Nat), (k ≤ l.length) ∧ mm = l.length - k ∧ ss = AS.lst 30 [(0, vc (st s)), (5, vc (i6 (longS s l k))), (6, vc (i6 (sizeS l (longS s l k)))), (9, vc (slS l)), (10, vc (i6 (List.length l : Int))), (11, vc (i6 (k : Int)))] []) ⟨0, ?_, rfl, ?_⟩ ?_
 · omega
 · rfl
 rintro mm ss ⟨k, hI, rfl, rfl⟩
 refine gS [] [] 30 [(0, vc (st s)), (5, vc (i6 (longS s l k))), (6, vc (i6 (sizeS l (longS s l k)))), (9, vc (slS l)), (10, vc (i6 (List.length l : Int))), (11, vc (i6 (k : Int))), (12, vc (bo (decide ((k : Int) < (List.length l : Int)))))] [] trivial ?_
 refine gQ ?_
 refine gC ((k : Int) < (List.length l : Int)) (fun hc1 => ?_) fun hc1 => ?_
 ·
  refine AMx.skip ?_
  refine gQ ?_
  refine AMx.block ?_
  refine gS [] [(0 : Int) ≤ (k : Int), (k : Int) < List.length l] 30 [(0, vc (st s)), (5, vc (i6 (longS s l k))), (6, vc (i6 (sizeS l (longS s l k)))), (7, vc (i6 (k : Int))), (8, vc (st (List.getD l k []))), (9, vc (slS l)), (10, vc (i6 (List.length l : Int))), (11, vc (i6 (k : Int)))] [] ⟨(by omega), (show (k : Int) < List.length l from (by omega))⟩ ?_
  refine gS [(7, CE.call [] [] (vc (bo (withinS s (List.getD l k [])))) [])] [((decide (sizeS l (longS s l k) < (List.length ((List.getD l k []) : List UInt8) : Int))) = true) → allP [(decide (sizeS l (longS s l k) < (List.length ((List.getD l k []) : List UInt8) : Int))) = true, (decide (sizeS l (longS s l k) < (List.length ((List.getD l k []) : List UInt8) : Int))) = true, Spec Tryz.prog 118 [tc (st s), tc (st (List.getD l k []))] (ofH []) (vc (bo (withinS s (List.getD l k [])))) (ofH [])], (decide (sizeS l (longS s l k) < (List.length ((List.getD l k []) : List UInt8) : Int))) = true → allP [(decide (sizeS l (longS s l k) < (List.length ((List.getD l k []) : List UInt8) : Int))) = true]] 30 [(0, vc (st s)), (5, vc (i6 (longS s l k))), (6, vc (i6 (sizeS l (longS s l k)))), (7, vc (i6 (k : Int))), (8, vc (st (List.getD l k []))), (9, vc (slS l)), (10, vc (i6 (List.length l : Int))), (11, vc (i6 (k : Int))), (24, vc (bo ((decide (sizeS l (longS s l k) < (List.length ((List.getD l k []) : List UInt8) : Int))) && (withinS s (List.getD l k [])))))] [] ⟨(fun hp => by have hq := hp; (try simp only [xT, xF, xA, xO, xB, xP, xN, xM, Bool.not_eq_true, Bool.not_eq_false] at hq); exact ⟨hp, hp, (Within_c s (List.getD l k []))⟩), (fun hp2 => (by first | exact hp2 | exact ⟨hp, hp2⟩))⟩ ?_
  refine gB (((decide (sizeS l (longS s l k) < (List.length ((List.getD l k []) : List UInt8) : Int))) && (withinS s (List.getD l k [])))) (fun hc2 => ?_) fun hc2 => ?_
  ·
   try simp only [xT, xF, xA, xB] at hc2
   refine gR [] [] 30 [(0, vc (st s)), (5, vc (i6 (k : Int))), (6, vc (i6 (List.length ((List.getD l k []) : List UInt8) : Int))), (9, vc (slS l)), (10, vc (i6 (List.length l : Int))), (11, vc (i6 (k : Int)))] [] trivial ?_
   refine AMx.blk ?_
   refine gR [] [InR .i64 ((k : Int) + 1)] 30 [(0, vc (st s)), (5, vc (i6 (k : Int))), (6, vc (i6 (List.length ((List.getD l k []) : List UInt8) : Int))), (9, vc (slS l)), (10, vc (i6 (List.length l : Int))), (11, vc (i6 ((k : Int) + 1)))] [] (show InR .i64 ((k : Int) + 1) from (inR64 (by omega) (by omega))) ?_
   refine AMx.ent_inv (s' := AS.lst 30 [(0, vc (st s)), (5, vc (i6 (k : Int))), (6, vc (i6 (List.length ((List.getD l k []) : List UInt8) : Int))), (9, vc (slS l)), (10, vc (i6 (List.length l : Int))), (11, vc (i6 ((k : Int) + 1)))] []) (ent_proj [0, 5, 6, 9, 10, 11] []) ?_
   refine AMx.inv ⟨_, ?_, k + 1, ?_, rfl, ?_⟩
   rotate_left
   · omega
   · rw [long_t hc2.2 hc2.1, size_k]; rfl
   · omega
  ·
   try simp only [xT, xF, xA, xB] at hc2
   refine AMx.skip ?_
   refine AMx.blk ?_
   refine gR [] [InR .i64 ((k : Int) + 1)] 30 [(0, vc (st s)), (5, vc (i6 (longS s l k))), (6, vc (i6 (sizeS l (longS s l k)))), (9, vc (slS l)), (10, vc (i6 (List.length l : Int))), (11, vc (i6 ((k : Int) + 1)))] [] (show InR .i64 ((k : Int) + 1) from (inR64 (by omega) (by omega))) ?_
   refine AMx.ent_inv (s' := AS.lst 30 [(0, vc (st s)), (5, vc (i6 (longS s l k))), (6, vc (i6 (sizeS l (longS s l k)))), (9, vc (slS l)), (10, vc (i6 (List.length l : Int))), (11, vc (i6 ((k : Int) + 1)))] []) (ent_proj [0, 5, 6, 9, 10, 11] []) ?_
   refine AMx.inv ⟨_, ?_, k + 1, ?_, rfl, ?_⟩
   rotate_left
   · omega
   · rw [long_f (fun q => by rcases hc2 with h | h; exact h q.1; rw [q.2] at h; cases h)]; rfl
   · omega
 ·
  refine AMx.exit ?_
  refine AMx.code_exit ?_
  refine AMx.inv_exit ?_
  refine AMx.blk_exit ?_
  refine gS [] [] 30 [(4, vc (i6 (longS s l k)))] [] trivial ?_
  exact gT (vc (i6 (longS s l k))) (by rw [show k = l.length by omega]; rfl)
end AL.Under
namespace AL.Rows
open Go Go.Proofs AL
set_option linter.unusedVariables false
set_option linter.unusedSimpArgs false
theorem f100_body : Tryz.f100.body = some (.seq (.region 0 (rg Tryz.f100 0) false) (.seq (.seq (.region 1 (rg Tryz.f100 1) false) (.cond (.tmp 11) (.seq (.region 2 (rg Tryz.f100 2) false) (.ret)) (.skip))) (.seq (.seq (.region 3 (rg Tryz.f100 3) false) (.block 0 (.loop (.seq (.region 4 (rg Tryz.f100 4) false) (.seq (.cond (.tmp 15) (.skip) (.exit 0)) (.block 1 (.seq (.region 5 (rg Tryz.f100 5) false) (.seq (.region 6 (rg Tryz.f100 6) false) (.cond (.tmp 30) (.seq (.region 7 (rg Tryz.f100 7) false) (.ret)) (.skip)))))))))) (.seq (.region 8 (rg Tryz.f100 8) false) (.ret))))) := by kernel_rfl
set_option maxRecDepth 100000 in
set_option maxHeartbeats 8000000 in
theorem named_c (s : Bytes) : Pure Tryz.prog 100 [tc (st s)] (vc (bo (namedS s))) := by
 refine Pure.of_body Tryz.func100 f100_body (by kernel_rfl) Tryz.ntmps100 (by kernel_rfl) (by kernel_rfl) ?_
 refine gS [] [] 31 [(0, vc (st s))] [] trivial ?_
 refine gQ ?_
 refine gS [] [((decide (s = [])) = false) → allP [(decide (s = [])) = false], ((decide (s = [])) = false) → allP [(decide (s = [])) = false], (decide (s = [])) = false → allP [(decide (s = [])) = false]] 31 [(0, vc (st s)), (11, vc (bo ((decide (s = [])) || (decide (8 < (List.length s : Int))))))] [] ⟨(fun hp => hp), (fun hp => hp), (fun hp2 => (by first | exact hp2 | exact ⟨hp, hp2⟩))⟩ ?_
 refine gB (((decide (s = [])) || (decide (8 < (List.length s : Int))))) (fun hc1 => ?_) fun hc1 => ?_
 ·
  try simp only [xT, xF, xO, xP] at hc1
  refine gS [] [] 31 [(2, vc (bo false))] [] trivial ?_
  exact gT (vc (bo false)) (by first | rw [nm_bad (by omega) (by assumption)] | rw [named_size (by rcases hc1 with h | h; exact .inl h; exact .inr (by omega))])
 ·
  try simp only [xT, xF, xO, xP] at hc1
  refine AMx.skip ?_
  refine gQ ?_
  refine gS [] [] 31 [(13, vp 13 0)] [(13, AObj.iter s 0)] trivial ?_
  refine AMx.block ?_
  refine AMx.ent (s' := AS.lst 31 [(13, vp 13 0)] [(13, AObj.iter s 0)]) (ent_proj [13] [13]) ?_
  refine AMx.loop (fun mm ss => ∃ (pos : Nat), (pos ≤ s.length ∧ LeftNm s pos) ∧ mm = s.length - pos ∧ ss = AS.lst 31 [(13, vp 13 0)] [(13, AObj.iter s pos)]) ⟨0, ?_, rfl, ?_⟩ ?_
  · exact ⟨Nat.zero_le _, nm_0 s⟩
  · rfl
  rintro mm ss ⟨pos, ⟨hI, hN⟩, rfl, rfl⟩
  refine gQ ?_
  rcases Nat.lt_or_ge pos (List.length s) with hn1 | hn1
  ·
   have hd1 := AL.Rune.dec_ok hn1
   refine gR [(0, CE.str [])] [pos < List.length s, ((pos : Nat) : Int) ≤ 9223372036854775807] 31 [(13, vp 13 0), (14, AV.tup [tc (bo true), tc (i6 (pos : Int)), tc (i3 ((decS s pos).1 : Int))]), (15, vc (bo true))] [(13, AObj.iter s (pos + (decS s pos).2))] ⟨(by omega), (show ((pos : Nat) : Int) ≤ 9223372036854775807 from (by omega))⟩ ?_
   refine gQ ?_
   refine gBt ?_
   refine AMx.skip ?_
   refine AMx.block ?_
   refine gS [] [] 31 [(4, vc (i3 ((decS s pos).1 : Int))), (13, vp 13 0)] [(13, AObj.iter s (pos + (decS s pos).2))] trivial ?_
   refine gS [] [((decide (((decS s pos).1 : Int) < 97)) = false) → allP [(decide (((decS s pos).1 : Int) < 97)) = false], (decide (((decS s pos).1 : Int) < 97)) = false → allP [(decide (((decS s pos).1 : Int) < 97)) = false], (((decide (((decS s pos).1 : Int) < 97)) || (decide (122 < ((decS s pos).1 : Int)))) = true) → allP [((decide (((decS s pos).1 : Int) < 97)) || (decide (122 < ((decS s pos).1 : Int)))) = true], (((decide (((decS s pos).1 : Int) < 97)) || (decide (122 < ((decS s pos).1 : Int)))) = true) → allP [((decide (((decS s pos).1 : Int) < 97)) || (decide (122 < ((decS s pos).1 : Int)))) = true], ((((decide (((decS s pos).1 : Int) < 97)) || (decide (122 < ((decS s pos).1 : Int)))) = true) ∧ (decide (((decS s pos).1 : Int) < 48)) = false) → allP [(((decide (((decS s pos).1 : Int) < 97)) || (decide (122 < ((decS s pos).1 : Int)))) = true) ∧ (decide (((decS s pos).1 : Int) < 48)) = false], (((decide (((decS s pos).1 : Int) < 97)) || (decide (122 < ((decS s pos).1 : Int)))) = true) → allP [((decide (((decS s pos).1 : Int) < 97)) || (decide (122 < ((decS s pos).1 : Int)))) = true, (decide (((decS s pos).1 : Int) < 48)) = false → allP [(((decide (((decS s pos).1 : Int) < 97)) || (decide (122 < ((decS s pos).1 : Int)))) = true) ∧ (decide (((decS s pos).1 : Int) < 48)) = false]], ((decide (((decS s pos).1 : Int) < 97)) || (decide (122 < ((decS s pos).1 : Int)))) = true → allP [((decide (((decS s pos).1 : Int) < 97)) || (decide (122 < ((decS s pos).1 : Int)))) = true]] 31 [(13, vp 13 0), (30, vc (bo (((decide (((decS s pos).1 : Int) < 97)) || (decide (122 < ((decS s pos).1 : Int)))) && ((decide (((decS s pos).1 : Int) < 48)) || (decide (57 < ((decS s pos).1 : Int)))))))] [(13, AObj.iter s (pos + (decS s pos).2))] ⟨(fun hp => hp), (fun hp2 => (by first | exact hp2 | exact ⟨hp, hp2⟩)), (fun hp => hp), (fun hp => hp), (fun hp => hp), (fun hp => by have hq := hp; (try simp only [xT, xF, xA, xO, xB, xP, xN, xM, Bool.not_eq_true, Bool.not_eq_false] at hq); exact ⟨hp, (fun hp2 => (by first | exact hp2 | exact ⟨hp, hp2⟩))⟩), (fun hp2 => (by first | exact hp2 | exact ⟨hp, hp2⟩))⟩ ?_
   refine gB ((((decide (((decS s pos).1 : Int) < 97)) || (decide (122 < ((decS s pos).1 : Int)))) && ((decide (((decS s pos).1 : Int) < 48)) || (decide (57 < ((decS s pos).1 : Int)))))) (fun hc3 => ?_) fun hc3 => ?_
   ·
    try simp only [xT, xF, xA, xB, xO, xP] at hc3
    refine gS [] [] 31 [(2, vc (bo false))] [] trivial ?_
    exact gT (vc (bo false)) (by first | rw [nm_bad (by omega) (by assumption)] | rw [named_size (by rcases hc1 with h | h; exact .inl h; exact .inr (by omega))])
   ·
    try simp only [xT, xF, xA, xB, xO, xP] at hc3
    refine AMx.skip ?_
    refine AMx.blk ?_
    refine AMx.ent_inv (s' := AS.lst 31 [(13, vp 13 0)] [(13, AObj.iter s (pos + (decS s pos).2))]) (ent_proj [13] [13]) ?_
    refine AMx.inv ⟨_, ?_, pos + (decS s pos).2, ?_, rfl, ?_⟩
    rotate_left
    · exact ⟨by omega, nm_step (by omega) hN (by omega)⟩
    · rfl
    · omega
  ·
   refine gR [] [List.length s ≤ pos] 31 [(13, vp 13 0), (14, AV.tup [tc (bo false)]), (15, vc (bo false))] [(13, AObj.iter s pos)] (show List.length s ≤ pos from (by omega)) ?_
   refine gQ ?_
   refine gBf ?_
   refine AMx.exit ?_
   refine AMx.code_exit ?_
   refine AMx.inv_exit ?_
   refine AMx.blk_exit ?_
   refine gS [] [] 31 [(2, vc (bo true))] [] trivial ?_
   exact gT (vc (bo true)) (by rw [nm_end (by omega) hN hc1.1 (by omega)])
theorem f43_body : Tryz.f43.body = some (.seq (.region 0 (rg Tryz.f43 0) false) (.seq (.seq (.region 1 (rg Tryz.f43 1) false) (.cond (.tmp 11) (.seq (.region 2 (rg Tryz.f43 2) false) (.ret)) (.skip))) (.seq (.seq (.region 3 (rg Tryz.f43 3) false) (.block 0 (.loop (.seq (.seq (.region 4 (rg Tryz.f43 4) false) (.cond (.tmp 15) (.skip) (.exit 0))) (.seq (.block 1 (.seq (.region 6 (rg Tryz.f43 6) false) (.cond (.tmp 39) (.seq (.region 7 (rg Tryz.f43 7) false) (.ret)) (.skip)))) (.region 5 (rg Tryz.f43 5) false)))))) (.seq (.region 8 (rg Tryz.f43 8) false) (.ret))))) := by kernel_rfl
set_option maxRecDepth 100000 in
set_option maxHeartbeats 8000000 in
theorem Name_c (s : Bytes) : Pure Tryz.prog 43 [tc (st s)] (vc (bo (namedS s))) := by
 refine Pure.of_body Tryz.func43 f43_body (by kernel_rfl) Tryz.ntmps43 (by kernel_rfl) (by kernel_rfl) ?_
 refine gS [] [] 40 [(0, vc (st s))] [] trivial ?_
 refine gQ ?_
 refine gS [] [((decide ((List.length s : Int) < 1)) = false) → allP [(decide ((List.length s : Int) < 1)) = false], ((decide ((List.length s : Int) < 1)) = false) → allP [(decide ((List.length s : Int) < 1)) = false], (decide ((List.length s : Int) < 1)) = false → allP [(decide ((List.length s : Int) < 1)) = false]] 40 [(0, vc (st s)), (11, vc (bo ((decide ((List.length s : Int) < 1)) || (decide (8 < (List.length s : Int))))))] [] ⟨(fun hp => hp), (fun hp => hp), (fun hp2 => (by first | exact hp2 | exact ⟨hp, hp2⟩))⟩ ?_
 refine gB (((decide ((List.length s : Int) < 1)) || (decide (8 < (List.length s : Int))))) (fun hc1 => ?_) fun hc1 => ?_
 ·
  try simp only [xT, xF, xO, xP] at hc1
  refine gS [] [] 40 [(2, vc (bo false))] [] trivial ?_
  exact gT (vc (bo false)) (by first | rw [nm_not (pos := i) (by omega) (by rw [Bool.eq_false_iff, Ne, nameB_iff]; omega)] | rw [named_size (by rcases hc1 with h | h; exact .inl (List.eq_nil_of_length_eq_zero (by omega)); exact .inr (by omega))])
 ·
  try simp only [xT, xF, xO, xP] at hc1
  refine AMx.skip ?_
  refine gQ ?_
  refine gS [] [] 40 [(0, vc (st s)), (3, vc (i6 0))] [] trivial ?_
  refine AMx.block ?_
  refine AMx.ent (s' := AS.lst 40 [(0, vc (st s)), (3, vc (i6 0))] []) (ent_proj [0, 3] []) ?_
  refine AMx.loop (fun mm ss => ∃ (i : Nat), (i ≤ s.length ∧ LeftNm s i) ∧ mm = s.length - i ∧ ss = AS.lst 40 [(0, vc (st s)), (3, vc (i6 (i : Int)))] []) ⟨0, ?_, rfl, ?_⟩ ?_
  · exact ⟨Nat.zero_le _, nm_0 s⟩
  · rfl
  rintro mm ss ⟨i, ⟨hI, hN⟩, rfl, rfl⟩
  refine gQ ?_
  refine gS [] [] 40 [(0, vc (st s)), (3, vc (i6 (i : Int))), (15, vc (bo (decide ((i : Int) < (List.length s : Int)))))] [] trivial ?_
  refine gC ((i : Int) < (List.length s : Int)) (fun hc2 => ?_) fun hc2 => ?_
  ·
   refine AMx.skip ?_
   refine gQ ?_
   refine AMx.block ?_
   refine gS [] [(0 : Int) ≤ (i : Int), (i : Int) < List.length s, ((decide (((List.getD s i 0).toNat : Int) < 97)) = false) → allP [(decide (((List.getD s i 0).toNat : Int) < 97)) = false, (decide (((List.getD s i 0).toNat : Int) < 97)) = false, (0 : Int) ≤ (i : Int), (i : Int) < List.length s], ((decide (((List.getD s i 0).toNat : Int) < 97)) = false) → allP [(decide (((List.getD s i 0).toNat : Int) < 97)) = false], (decide (((List.getD s i 0).toNat : Int) < 97)) = false → allP [(decide (((List.getD s i 0).toNat : Int) < 97)) = false], (((decide (((List.getD s i 0).toNat : Int) < 97)) || (decide (122 < ((List.getD s i 0).toNat : Int)))) = true) → allP [((decide (((List.getD s i 0).toNat : Int) < 97)) || (decide (122 < ((List.getD s i 0).toNat : Int)))) = true, ((decide (((List.getD s i 0).toNat : Int) < 97)) || (decide (122 < ((List.getD s i 0).toNat : Int)))) = true, (0 : Int) ≤ (i : Int), (i : Int) < List.length s], (((decide (((List.getD s i 0).toNat : Int) < 97)) || (decide (122 < ((List.getD s i 0).toNat : Int)))) = true) → allP [((decide (((List.getD s i 0).toNat : Int) < 97)) || (decide (122 < ((List.getD s i 0).toNat : Int)))) = true], (((decide (((List.getD s i 0).toNat : Int) < 97)) || (decide (122 < ((List.getD s i 0).toNat : Int)))) = true) → allP [((decide (((List.getD s i 0).toNat : Int) < 97)) || (decide (122 < ((List.getD s i 0).toNat : Int)))) = true], ((((decide (((List.getD s i 0).toNat : Int) < 97)) || (decide (122 < ((List.getD s i 0).toNat : Int)))) = true) ∧ (decide (((List.getD s i 0).toNat : Int) < 48)) = false) → allP [(((decide (((List.getD s i 0).toNat : Int) < 97)) || (decide (122 < ((List.getD s i 0).toNat : Int)))) = true) ∧ (decide (((List.getD s i 0).toNat : Int) < 48)) = false, (((decide (((List.getD s i 0).toNat : Int) < 97)) || (decide (122 < ((List.getD s i 0).toNat : Int)))) = true) ∧ (decide (((List.getD s i 0).toNat : Int) < 48)) = false, (0 : Int) ≤ (i : Int), (i : Int) < List.length s], ((((decide (((List.getD s i 0).toNat : Int) < 97)) || (decide (122 < ((List.getD s i 0).toNat : Int)))) = true) ∧ (decide (((List.getD s i 0).toNat : Int) < 48)) = false) → allP [(((decide (((List.getD s i 0).toNat : Int) < 97)) || (decide (122 < ((List.getD s i 0).toNat : Int)))) = true) ∧ (decide (((List.getD s i 0).toNat : Int) < 48)) = false], (((decide (((List.getD s i 0).toNat : Int) < 97)) || (decide (122 < ((List.getD s i 0).toNat : Int)))) = true) → allP [((decide (((List.getD s i 0).toNat : Int) < 97)) || (decide (122 < ((List.getD s i 0).toNat : Int)))) = true, (decide (((List.getD s i 0).toNat : Int) < 48)) = false → allP [(((decide (((List.getD s i 0).toNat : Int) < 97)) || (decide (122 < ((List.getD s i 0).toNat : Int)))) = true) ∧ (decide (((List.getD s i 0).toNat : Int) < 48)) = false]], ((decide (((List.getD s i 0).toNat : Int) < 97)) || (decide (122 < ((List.getD s i 0).toNat : Int)))) = true → allP [((decide (((List.getD s i 0).toNat : Int) < 97)) || (decide (122 < ((List.getD s i 0).toNat : Int)))) = true]] 40 [(0, vc (st s)), (3, vc (i6 (i : Int))), (39, vc (bo (((decide (((List.getD s i 0).toNat : Int) < 97)) || (decide (122 < ((List.getD s i 0).toNat : Int)))) && ((decide (((List.getD s i 0).toNat : Int) < 48)) || (decide (57 < ((List.getD s i 0).toNat : Int)))))))] [] ⟨(by omega), (by omega), (fun hp => by have hq := hp; (try simp only [xT, xF, xA, xO, xB, xP, xN, xM, Bool.not_eq_true, Bool.not_eq_false] at hq); exact ⟨hp, hp, (by omega), (show (i : Int) < List.length s from (by omega))⟩), (fun hp => hp), (fun hp2 => (by first | exact hp2 | exact ⟨hp, hp2⟩)), (fun hp => by have hq := hp; (try simp only [xT, xF, xA, xO, xB, xP, xN, xM, Bool.not_eq_true, Bool.not_eq_false] at hq); exact ⟨hp, hp, (by omega), (show (i : Int) < List.length s from (by omega))⟩), (fun hp => hp), (fun hp => hp), (fun hp => by have hq := hp; (try simp only [xT, xF, xA, xO, xB, xP, xN, xM, Bool.not_eq_true, Bool.not_eq_false] at hq); exact ⟨hp, hp, (by omega), (show (i : Int) < List.length s from (by omega))⟩), (fun hp => hp), (fun hp => by have hq := hp; (try simp only [xT, xF, xA, xO, xB, xP, xN, xM, Bool.not_eq_true, Bool.not_eq_false] at hq); exact ⟨hp, (fun hp2 => (by first | exact hp2 | exact ⟨hp, hp2⟩))⟩), (fun hp2 => (by first | exact hp2 | exact ⟨hp, hp2⟩))⟩ ?_
   refine gB ((((decide (((List.getD s i 0).toNat : Int) < 97)) || (decide (122 < ((List.getD s i 0).toNat : Int)))) && ((decide (((List.getD s i 0).toNat : Int) < 48)) || (decide (57 < ((List.getD s i 0).toNat : Int)))))) (fun hc3 => ?_) fun hc3 => ?_
   ·
    try simp only [xT, xF, xA, xB, xO, xP] at hc3
    refine gS [] [] 40 [(2, vc (bo false))] [] trivial ?_
    exact gT (vc (bo false)) (by first | rw [nm_not (pos := i) (by omega) (by rw [Bool.eq_false_iff, Ne, nameB_iff]; omega)] | rw [named_size (by rcases hc1 with h | h; exact .inl (List.eq_nil_of_length_eq_zero (by omega)); exact .inr (by omega))])
   ·
    try simp only [xT, xF, xA, xB, xO, xP] at hc3
    refine AMx.skip ?_
    refine AMx.blk ?_
    refine gR [] [InR .i64 ((i : Int) + 1)] 40 [(0, vc (st s)), (3, vc (i6 ((i : Int) + 1)))] [] (show InR .i64 ((i : Int) + 1) from (inR64 (by omega) (by omega))) ?_
    refine AMx.ent_inv (s' := AS.lst 40 [(0, vc (st s)), (3, vc (i6 ((i : Int) + 1)))] []) (ent_proj [0, 3] []) ?_
    refine AMx.inv ⟨_, ?_, i + 1, ?_, rfl, ?_⟩
    rotate_left
    · exact ⟨by omega, nm_byte (by omega) hN (nameB_iff.2 (by omega))⟩
    · rfl
    · omega
  ·
   refine AMx.exit ?_
   refine AMx.code_exit ?_
   refine AMx.inv_exit ?_
   refine AMx.blk_exit ?_
   refine gS [] [] 40 [(2, vc (bo true))] [] trivial ?_
   exact gT (vc (bo true)) (by rw [nm_end (by omega) hN (fun e => by subst e; simp at hc1) (by omega)])
end AL.Rows
namespace AL.Rows
open Go Go.Proofs AL
set_option linter.unusedVariables false
set_option linter.unusedSimpArgs false
theorem f72_body : Tryz.f72.body = some (.seq (.region 0 (rg Tryz.f72 0) false) (.seq (.region 1 (rg Tryz.f72 1) false) (.seq (.seq (.region 2 (rg Tryz.f72 2) false) (.block 0 (.seq (.region 4 (rg Tryz.f72 4) false) (.cond (.tmp 9) (.region 5 (rg Tryz.f72 5) false) (.seq (.region 6 (rg Tryz.f72 6) false) (.cond (.tmp 18) (.region 7 (rg Tryz.f72 7) false) (.seq (.region 8 (rg Tryz.f72 8) false) (.cond (.tmp 34) (.region 9 (rg Tryz.f72 9) false) (.seq (.seq (.region 10 (rg Tryz.f72 10) false) (.cond (.tmp 42) (.skip) (.region 11 (rg Tryz.f72 11) false))) (.cond (.tmp 42) (.region 12 (rg Tryz.f72 12) false) (.seq (.region 3 (rg Tryz.f72 3) false) (.ret)))))))))))) (.seq (.seq (.region 13 (rg Tryz.f72 13) false) (.cond (.tmp 52) (.seq (.region 14 (rg Tryz.f72 14) false) (.ret)) (.skip))) (.seq (.region 15 (rg Tryz.f72 15) false) (.ret)))))) := by kernel_rfl
set_option maxRecDepth 100000 in
set_option maxHeartbeats 8000000 in
theorem Check_c (k : KeyV) : Pure Tryz.prog 72 [TV.agg [.s (u8 k.1), .s (st k.2.1), .s (i6 k.2.2)]] (vc (i6 (checkK k))) := by
 refine Pure.of_body Tryz.func72 f72_body (by kernel_rfl) Tryz.ntmps72 (by kernel_rfl) (by kernel_rfl) ?_
 refine gS [] [] 53 [(1, vp 1 0)] [(1, AObj.row [.s (u8 k.1), .s (st k.2.1), .s (i6 k.2.2)])] trivial ?_
 refine gS [] [] 53 [(1, vp 1 0), (3, vc (bo (decide (k.2.2 = 0))))] [(1, AObj.row [.s (u8 k.1), .s (st k.2.1), .s (i6 k.2.2)])] trivial ?_
 refine gQ ?_
 refine gS [] [] 53 [(1, vp 1 0), (3, vc (bo (decide (k.2.2 = 0)))), (8, vc (u8 k.1))] [(1, AObj.row [.s (u8 k.1), .s (st k.2.1), .s (i6 k.2.2)])] trivial ?_
 refine AMx.block ?_
 refine gS [] [] 53 [(1, vp 1 0), (3, vc (bo (decide (k.2.2 = 0)))), (8, vc (u8 k.1)), (9, vc (bo (decide (k.1 = 1))))] [(1, AObj.row [.s (u8 k.1), .s (st k.2.1), .s (i6 k.2.2)])] trivial ?_
 refine gC (k.1 = 1) (fun hc1 => ?_) fun hc1 => ?_
 ·
  refine gR [(4, CE.call [] [] (vc (i6 (Route.checkS k.2.1))) [])] [((decide (k.2.2 = 0)) = true) → allP [(decide (k.2.2 = 0)) = true], ((decide (k.2.2 = 0)) = true) → allP [(decide (k.2.2 = 0)) = true, Spec Tryz.prog 99 [tc (st k.2.1)] (ofH []) (vc (i6 (Route.checkS k.2.1))) (ofH [])], ((decide (k.2.2 = 0)) = true) → allP [(decide (k.2.2 = 0)) = true], (decide (k.2.2 = 0)) = true → allP [(decide (k.2.2 = 0)) = true]] 53 [(3, vc (bo ((decide (k.2.2 = 0)) && (decide (Route.checkS k.2.1 = 0)))))] [] ⟨(fun hp => hp), (fun hp => by have hq := hp; (try simp only [xT, xF, xA, xO, xB, xP, xN, xM, Bool.not_eq_true, Bool.not_eq_false] at hq); exact ⟨hp, (Route.Check_c k.2.1)⟩), (fun hp => hp), (fun hp2 => (by first | exact hp2 | exact ⟨hp, hp2⟩))⟩ ?_
  refine AMx.blk ?_
  refine gQ ?_
  refine gS [] [] 53 [(52, vc (bo (!((decide (k.2.2 = 0)) && (decide (Route.checkS k.2.1 = 0))))))] [] trivial ?_
  refine gB (!((decide (k.2.2 = 0)) && (decide (Route.checkS k.2.1 = 0)))) (fun hc2 => ?_) fun hc2 => ?_
  ·
   try simp only [xT, xF, xA, xB, xN, xM] at hc2
   refine gS [] [] 53 [(2, vc (i6 2))] [] trivial ?_
   exact gT (vc (i6 2)) (by rw [show checkK k = 2 from by unfold checkK MayK; grind])
  ·
   try simp only [xT, xF, xA, xB, xN, xM] at hc2
   refine AMx.skip ?_
   refine gS [] [] 53 [(2, vc (i6 0))] [] trivial ?_
   exact gT (vc (i6 0)) (by rw [show checkK k = 0 from by unfold checkK MayK; grind])
 ·
  refine gS [] [] 53 [(1, vp 1 0), (3, vc (bo (decide (k.2.2 = 0)))), (8, vc (u8 k.1)), (18, vc (bo (decide (k.1 = 2))))] [(1, AObj.row [.s (u8 k.1), .s (st k.2.1), .s (i6 k.2.2)])] trivial ?_
  refine gC (k.1 = 2) (fun hc3 => ?_) fun hc3 => ?_
  ·
   refine gR [(11, CE.call [] [] (vc (i6 (Route.checkS k.2.1))) [])] [((decide (1 ≤ k.2.2)) = true) → allP [(decide (1 ≤ k.2.2)) = true], ((decide (1 ≤ k.2.2)) = true) → allP [(decide (1 ≤ k.2.2)) = true], (decide (1 ≤ k.2.2)) = true → allP [(decide (1 ≤ k.2.2)) = true], (((decide (1 ≤ k.2.2)) && (decide (k.2.2 ≤ 30))) = true) → allP [((decide (1 ≤ k.2.2)) && (decide (k.2.2 ≤ 30))) = true], (((decide (1 ≤ k.2.2)) && (decide (k.2.2 ≤ 30))) = true) → allP [((decide (1 ≤ k.2.2)) && (decide (k.2.2 ≤ 30))) = true, Spec Tryz.prog 99 [tc (st k.2.1)] (ofH []) (vc (i6 (Route.checkS k.2.1))) (ofH [])], (((decide (1 ≤ k.2.2)) && (decide (k.2.2 ≤ 30))) = true) → allP [((decide (1 ≤ k.2.2)) && (decide (k.2.2 ≤ 30))) = true], ((decide (1 ≤ k.2.2)) && (decide (k.2.2 ≤ 30))) = true → allP [((decide (1 ≤ k.2.2)) && (decide (k.2.2 ≤ 30))) = true]] 53 [(3, vc (bo (((decide (1 ≤ k.2.2)) && (decide (k.2.2 ≤ 30))) && (decide (Route.checkS k.2.1 = 0)))))] [] ⟨(fun hp => hp), (fun hp => hp), (fun hp2 => (by first | exact hp2 | exact ⟨hp, hp2⟩)), (fun hp => hp), (fun hp => by have hq := hp; (try simp only [xT, xF, xA, xO, xB, xP, xN, xM, Bool.not_eq_true, Bool.not_eq_false] at hq); exact ⟨hp, (Route.Check_c k.2.1)⟩), (fun hp => hp), (fun hp2 => (by first | exact hp2 | exact ⟨hp, hp2⟩))⟩ ?_
   refine AMx.blk ?_
   refine gQ ?_
   refine gS [] [] 53 [(52, vc (bo (!(((decide (1 ≤ k.2.2)) && (decide (k.2.2 ≤ 30))) && (decide (Route.checkS k.2.1 = 0))))))] [] trivial ?_
   refine gB (!(((decide (1 ≤ k.2.2)) && (decide (k.2.2 ≤ 30))) && (decide (Route.checkS k.2.1 = 0)))) (fun hc4 => ?_) fun hc4 => ?_
   ·
    try simp only [xT, xF, xA, xB, xN, xM] at hc4
    refine gS [] [] 53 [(2, vc (i6 2))] [] trivial ?_
    exact gT (vc (i6 2)) (by rw [show checkK k = 2 from by unfold checkK MayK; grind])
   ·
    try simp only [xT, xF, xA, xB, xN, xM] at hc4
    refine AMx.skip ?_
    refine gS [] [] 53 [(2, vc (i6 0))] [] trivial ?_
    exact gT (vc (i6 0)) (by rw [show checkK k = 0 from by unfold checkK MayK; grind])
  ·
   refine gS [] [] 53 [(1, vp 1 0), (3, vc (bo (decide (k.2.2 = 0)))), (8, vc (u8 k.1)), (34, vc (bo (decide (k.1 = 3))))] [(1, AObj.row [.s (u8 k.1), .s (st k.2.1), .s (i6 k.2.2)])] trivial ?_
   refine gC (k.1 = 3) (fun hc5 => ?_) fun hc5 => ?_
   ·
    refine gR [(4, CE.call [] [] (vc (bo (namedS k.2.1))) [])] [((decide (k.2.2 = 0)) = true) → allP [(decide (k.2.2 = 0)) = true], ((decide (k.2.2 = 0)) = true) → allP [(decide (k.2.2 = 0)) = true, Spec Tryz.prog 100 [tc (st k.2.1)] (ofH []) (vc (bo (namedS k.2.1))) (ofH [])], (decide (k.2.2 = 0)) = true → allP [(decide (k.2.2 = 0)) = true]] 53 [(3, vc (bo ((decide (k.2.2 = 0)) && (namedS k.2.1))))] [] ⟨(fun hp => hp), (fun hp => by have hq := hp; (try simp only [xT, xF, xA, xO, xB, xP, xN, xM, Bool.not_eq_true, Bool.not_eq_false] at hq); exact ⟨hp, (named_c k.2.1)⟩), (fun hp2 => (by first | exact hp2 | exact ⟨hp, hp2⟩))⟩ ?_
    refine AMx.blk ?_
    refine gQ ?_
    refine gS [] [] 53 [(52, vc (bo (!((decide (k.2.2 = 0)) && (namedS k.2.1)))))] [] trivial ?_
    refine gB (!((decide (k.2.2 = 0)) && (namedS k.2.1))) (fun hc6 => ?_) fun hc6 => ?_
    ·
     try simp only [xT, xF, xA, xB, xN, xM] at hc6
     refine gS [] [] 53 [(2, vc (i6 2))] [] trivial ?_
     exact gT (vc (i6 2)) (by rw [show checkK k = 2 from by unfold checkK MayK; grind])
    ·
     try simp only [xT, xF, xA, xB, xN, xM] at hc6
     refine AMx.skip ?_
     refine gS [] [] 53 [(2, vc (i6 0))] [] trivial ?_
     exact gT (vc (i6 0)) (by rw [show checkK k = 0 from by unfold checkK MayK; grind])
   ·
    refine gQ ?_
    refine gS [] [] 53 [(1, vp 1 0), (3, vc (bo (decide (k.2.2 = 0)))), (8, vc (u8 k.1)), (42, vc (bo (decide (k.1 = 4))))] [(1, AObj.row [.s (u8 k.1), .s (st k.2.1), .s (i6 k.2.2)])] trivial ?_
    refine gC (k.1 = 4) (fun hc7 => ?_) fun hc7 => ?_
    ·
     refine AMx.skip ?_
     refine gC (k.1 = 4) (fun hc8 => ?_) fun hc8 => ?_
     ·
      refine gR [] [((decide (k.2.2 = 0)) = true) → allP [(decide (k.2.2 = 0)) = true], ((decide (k.2.2 = 0)) = true) → allP [(decide (k.2.2 = 0)) = true], (decide (k.2.2 = 0)) = true → allP [(decide (k.2.2 = 0)) = true]] 53 [(3, vc (bo ((decide (k.2.2 = 0)) && (decide (k.2.1 = [])))))] [] ⟨(fun hp => hp), (fun hp => hp), (fun hp2 => (by first | exact hp2 | exact ⟨hp, hp2⟩))⟩ ?_
      refine AMx.blk ?_
      refine gQ ?_
      refine gS [] [] 53 [(52, vc (bo (!((decide (k.2.2 = 0)) && (decide (k.2.1 = []))))))] [] trivial ?_
      refine gB (!((decide (k.2.2 = 0)) && (decide (k.2.1 = [])))) (fun hc9 => ?_) fun hc9 => ?_
      ·
       try simp only [xT, xF, xA, xB, xN, xM] at hc9
       refine gS [] [] 53 [(2, vc (i6 2))] [] trivial ?_
       exact gT (vc (i6 2)) (by rw [show checkK k = 2 from by unfold checkK MayK; grind])
      ·
       try simp only [xT, xF, xA, xB, xN, xM] at hc9
       refine AMx.skip ?_
       refine gS [] [] 53 [(2, vc (i6 0))] [] trivial ?_
       exact gT (vc (i6 0)) (by rw [show checkK k = 0 from by unfold checkK MayK; grind])
     ·
      refine gS [] [] 53 [(2, vc (i6 22))] [] trivial ?_
      exact gT (vc (i6 22)) (by rw [show checkK k = 22 from by unfold checkK MayK; grind])
    ·
     refine gR [] [] 53 [(1, vp 1 0), (3, vc (bo (decide (k.2.2 = 0)))), (42, vc (bo (decide (k.1 = 5))))] [(1, AObj.row [.s (u8 k.1), .s (st k.2.1), .s (i6 k.2.2)])] trivial ?_
     refine gC (k.1 = 5) (fun hc10 => ?_) fun hc10 => ?_
     ·
      refine gR [] [((decide (k.2.2 = 0)) = true) → allP [(decide (k.2.2 = 0)) = true], ((decide (k.2.2 = 0)) = true) → allP [(decide (k.2.2 = 0)) = true], (decide (k.2.2 = 0)) = true → allP [(decide (k.2.2 = 0)) = true]] 53 [(3, vc (bo ((decide (k.2.2 = 0)) && (decide (k.2.1 = [])))))] [] ⟨(fun hp => hp), (fun hp => hp), (fun hp2 => (by first | exact hp2 | exact ⟨hp, hp2⟩))⟩ ?_
      refine AMx.blk ?_
      refine gQ ?_
      refine gS [] [] 53 [(52, vc (bo (!((decide (k.2.2 = 0)) && (decide (k.2.1 = []))))))] [] trivial ?_
      refine gB (!((decide (k.2.2 = 0)) && (decide (k.2.1 = [])))) (fun hc11 => ?_) fun hc11 => ?_
      ·
       try simp only [xT, xF, xA, xB, xN, xM] at hc11
       refine gS [] [] 53 [(2, vc (i6 2))] [] trivial ?_
       exact gT (vc (i6 2)) (by rw [show checkK k = 2 from by unfold checkK MayK; grind])
      ·
       try simp only [xT, xF, xA, xB, xN, xM] at hc11
       refine AMx.skip ?_
       refine gS [] [] 53 [(2, vc (i6 0))] [] trivial ?_
       exact gT (vc (i6 0)) (by rw [show checkK k = 0 from by unfold checkK MayK; grind])
     ·
      refine gS [] [] 53 [(2, vc (i6 22))] [] trivial ?_
      exact gT (vc (i6 22)) (by rw [show checkK k = 22 from by unfold checkK MayK; grind])
end AL.Rows
namespace AL.Sep
open Go Go.Proofs Go.RowKit AL
set_option linter.unusedVariables false
set_option linter.unusedSimpArgs false
theorem Count_c (k : UInt8) (s : Bytes) : Pure Tryz.prog 147 [tc (st s), tc (st [k])] (vc (i6 ((s.count k : Nat) : Int))) := by
  refine Pure.of_calls ⟨_, Tryz.func147, by kernel_rfl, by kernel_rfl⟩ fun Γ w cargs hm => ?_
  obtain ⟨u, v, rfl, ⟨rfl, hu⟩, ⟨rfl, hv⟩⟩ := args2 hm
  refine (Tryz.strings_Count_one (ba s) k w).mono ?_
  rintro e w' ⟨rfl, rfl⟩
  have h1 : s.count k ≤ s.length := List.count_le_length
  simp only [maxLen] at hu
  exact ⟨_, rfl, rfl, rfl, inR64 (by omega) (by omega)⟩
theorem Index_c (k : UInt8) (s : Bytes) : Pure Tryz.prog 148 [tc (st s), tc (st [k])] (vc (i6 (Go.Lib.indexByte s k))) := by
  refine Pure.of_calls ⟨_, Tryz.func148, by kernel_rfl, by kernel_rfl⟩ fun Γ w cargs hm => ?_
  obtain ⟨u, v, rfl, ⟨rfl, hu⟩, ⟨rfl, hv⟩⟩ := args2 hm
  refine (Tryz.strings_Index_one (ba s) k w).mono ?_
  rintro e w' ⟨rfl, rfl⟩
  have := index_rng k s
  simp only [maxLen] at hu
  exact ⟨_, rfl, rfl, rfl, inR64 (by omega) (by omega)⟩
theorem IndexL_c (k : UInt8) (s : Bytes) : Pure Tryz.prog 149 [tc (st s), tc (st [k])] (vc (i6 (Go.Lib.indexByte s k))) := by
  refine Pure.of_calls ⟨_, Tryz.func149, by kernel_rfl, by kernel_rfl⟩ fun Γ w cargs hm => ?_
  obtain ⟨u, v, rfl, ⟨rfl, hu⟩, ⟨rfl, hv⟩⟩ := args2 hm
  refine (Tryz.stringslite_Index_one (ba s) k w).mono ?_
  rintro e w' ⟨rfl, rfl⟩
  have := index_rng k s
  simp only [maxLen] at hu
  exact ⟨_, rfl, rfl, rfl, inR64 (by omega) (by omega)⟩
theorem lib_join (c : UInt8) : ∀ (l : List Bytes), Go.Lib.join l [c] = joinC c l
  | [] => rfl
  | [p] => Go.Lib.join_one p [c]
  | p :: q :: l => by
    have ih := lib_join c (q :: l)
    unfold Go.Lib.join at ih ⊢
    show _ = p ++ c :: joinC c (q :: l)
    rw [← ih]
    simp [List.intercalate, List.intersperse]
theorem Join_c (c : UInt8) (l : List Bytes) (hb : (joinC c l).length ≤ 100000) : Pure Tryz.prog 88 [tc (AL.Fnv.slS l), tc (st [c])] (vc (st (joinC c l))) := by
  refine Pure.of_below ⟨_, Tryz.func88, by kernel_rfl, by kernel_rfl⟩ fun Γ w cargs hh hm => ?_
  obtain ⟨u, v, rfl, hu, ⟨rfl, hv⟩⟩ := args2 hm
  obtain ⟨a, cap, rfl, h1, h2, h3⟩ := hu
  have fin : MV Γ H0 w (vc (st (joinC c l))) (.string (ba (joinC c l))) := ⟨rfl, by simp only [maxLen]; omega⟩
  rcases h3 with ⟨rfl, h3⟩ | ⟨b, off, rfl, hI, hc⟩
  · refine (Tryz.strings_Join_none a cap (ba [c]) w).mono ?_
    rintro e w' ⟨rfl, rfl⟩
    exact ⟨_, rfl, Below.refl _ _, rfl, Nat.zero_le _⟩
  · have hcells : ∀ (j : Nat) x, (l.map ba)[j]? = some x → w.cell? ⟨b, off + j, none⟩ = some (.string x) := by
      intro j x hx
      rw [List.getElem?_map, Option.map_eq_some_iff] at hx
      obtain ⟨y, hy, rfl⟩ := hx
      obtain ⟨u, hu, hmu⟩ := hc j y hy 0 (by omega)
      obtain ⟨rfl, _⟩ := (show u = .string (ba y) ∧ _ from hmu)
      rw [Nat.mul_one, Nat.add_zero] at hu
      exact hu
    have hl : ((l.map ba).map (·.data.toList)) = l := by
      rw [List.map_map]
      conv => rhs; rw [← List.map_id l]
      exact List.map_congr_left fun x _ => rfl
    have hlen : (l.map ba).length = l.length := List.length_map _
    have hj : Go.Lib.join ((l.map ba).map (·.data.toList)) (ba [c]).data.toList = joinC c l := by rw [hl]; exact lib_join c l
    have := Tryz.strings_Join b off cap (l.map ba) (ba [c]) w hcells (hh.ilt b hI) (by have := join_count c l; rw [hlen]; omega) (by rw [hlen]; exact h1) (by rw [hj]; omega)
    rw [hlen, hj] at this
    refine this.mono ?_
    rintro e w' ⟨rfl, hbel⟩
    exact ⟨_, rfl, hbel, rfl, by simp only [maxLen]; omega⟩
end AL.Sep
namespace AL.Sep
open Go Go.Proofs AL
set_option linter.unusedVariables false
set_option linter.unusedSimpArgs false
theorem f127_body : Tryz.f127.body = some (.seq (.region 0 (rg Tryz.f127 0) false) (.seq (.seq (.region 1 (rg Tryz.f127 1) false) (.cond (.tmp 13) (.seq (.region 2 (rg Tryz.f127 2) false) (.ret)) (.skip))) (.seq (.seq (.region 3 (rg Tryz.f127 3) false) (.cond (.tmp 15) (.seq (.region 4 (rg Tryz.f127 4) false) (.ret)) (.skip))) (.seq (.seq (.region 5 (rg Tryz.f127 5) false) (.cond (.tmp 20) (.region 6 (rg Tryz.f127 6) false) (.skip))) (.seq (.region 7 (rg Tryz.f127 7) false) (.seq (.region 8 (rg Tryz.f127 8) false) (.seq (.region 9 (rg Tryz.f127 9) false) (.seq (.region 10 (rg Tryz.f127 10) false) (.seq (.block 0 (.loop (.seq (.seq (.region 11 (rg Tryz.f127 11) false) (.cond (.tmp 36) (.skip) (.exit 0))) (.block 1 (.seq (.region 12 (rg Tryz.f127 12) false) (.seq (.seq (.region 13 (rg Tryz.f127 13) false) (.cond (.tmp 41) (.exit 0) (.skip))) (.seq (.region 14 (rg Tryz.f127 14) false) (.seq (.region 15 (rg Tryz.f127 15) false) (.region 16 (rg Tryz.f127 16) false))))))))) (.seq (.region 17 (rg Tryz.f127 17) false) (.seq (.region 18 (rg Tryz.f127 18) false) (.ret)))))))))))) := by kernel_rfl
set_option maxRecDepth 100000 in
set_option maxHeartbeats 8000000 in
theorem genSplit_c (k : UInt8) (s : Bytes) (hb : s.length ≤ 100000) : Pure Tryz.prog 127 [tc (st s), tc (st [k]), tc (i6 0), tc (i6 (-1))] (vc (AL.Fnv.slS (splitC k s))) := by
 refine Pure.of_body Tryz.func127 f127_body (by kernel_rfl) Tryz.ntmps127 (by kernel_rfl) (by kernel_rfl) ?_
 have hn := gen_n k s
 have hcn : List.count k s ≤ s.length := List.count_le_length
 refine gS [] [] 66 [(0, vc (st s)), (1, vc (st [k])), (2, vc (i6 0)), (3, vc (i6 (-1)))] [] trivial ?_
 refine gQ ?_
 refine gS [] [] 66 [(0, vc (st s)), (1, vc (st [k])), (2, vc (i6 0)), (3, vc (i6 (-1))), (13, vc (bo false))] [] trivial ?_
 refine gBf ?_
 refine AMx.skip ?_
 refine gQ ?_
 refine gS [] [] 66 [(0, vc (st s)), (1, vc (st [k])), (2, vc (i6 0)), (3, vc (i6 (-1))), (15, vc (bo false))] [] trivial ?_
 refine gBf ?_
 refine AMx.skip ?_
 refine gQ ?_
 refine gS [] [] 66 [(0, vc (st s)), (1, vc (st [k])), (2, vc (i6 0)), (3, vc (i6 (-1))), (20, vc (bo true))] [] trivial ?_
 refine gBt ?_
 refine gR [(2, CE.call [] [] (vc (i6 ((List.count (k : UInt8) s : Nat) : Int))) [])] [Spec Tryz.prog 147 [tc (st s), tc (st [k])] (ofH []) (vc (i6 ((List.count (k : UInt8) s : Nat) : Int))) (ofH []), InR .i64 (((List.count (k : UInt8) s : Nat) : Int) + 1)] 66 [(0, vc (st s)), (1, vc (st [k])), (2, vc (i6 0)), (3, vc (i6 (((List.count (k : UInt8) s : Nat) : Int) + 1)))] [] ⟨(AL.Sep.Count_c k s), (show InR .i64 (((List.count (k : UInt8) s : Nat) : Int) + 1) from (inR64 (by omega) (by omega)))⟩ ?_
 refine gS [] [InR .i64 ((List.length s : Int) + 1)] 66 [(0, vc (st s)), (1, vc (st [k])), (2, vc (i6 0)), (3, vc (i6 (min (((List.count (k : UInt8) s : Nat) : Int) + 1) ((List.length s : Int) + 1))))] [] (show InR .i64 ((List.length s : Int) + 1) from (inR64 (by omega) (by omega))) ?_
 refine gS [(1, CE.obj (AObj.grow 9 1 Bytes [] AL.Fnv.rowS (List.replicate (min (((List.count (k : UInt8) s : Nat) : Int) + 1) ((List.length s : Int) + 1)).toNat [])))] [0 ≤ min (((List.count (k : UInt8) s : Nat) : Int) + 1) ((List.length s : Int) + 1), min (((List.count (k : UInt8) s : Nat) : Int) + 1) ((List.length s : Int) + 1) ≤ min (((List.count (k : UInt8) s : Nat) : Int) + 1) ((List.length s : Int) + 1), (16 : Int) * (min (((List.count (k : UInt8) s : Nat) : Int) + 1) ((List.length s : Int) + 1)) ≤ 281474976710656, min (((List.count (k : UInt8) s : Nat) : Int) + 1) ((List.length s : Int) + 1) ≤ 9223372036854775807, MakeC (min (((List.count (k : UInt8) s : Nat) : Int) + 1) ((List.length s : Int) + 1)).toNat [.s (st [])] (AObj.grow 9 1 Bytes [] AL.Fnv.rowS (List.replicate (min (((List.count (k : UInt8) s : Nat) : Int) + 1) ((List.length s : Int) + 1)).toNat []))] 66 [(0, vc (st s)), (1, vc (st [k])), (2, vc (i6 0)), (3, vc (i6 (min (((List.count (k : UInt8) s : Nat) : Int) + 1) ((List.length s : Int) + 1)))), (9, vo 31)] [(31, AObj.grow 9 1 Bytes [] AL.Fnv.rowS (List.replicate (min (((List.count (k : UInt8) s : Nat) : Int) + 1) ((List.length s : Int) + 1)).toNat []))] ⟨(by omega), (by omega), (by omega), (by omega), (⟨_, rfl, rfl⟩)⟩ ?_
 refine gS [] [InR .i64 ((min (((List.count (k : UInt8) s : Nat) : Int) + 1) ((List.length s : Int) + 1)) - 1)] 66 [(0, vc (st s)), (1, vc (st [k])), (2, vc (i6 0)), (3, vc (i6 ((min (((List.count (k : UInt8) s : Nat) : Int) + 1) ((List.length s : Int) + 1)) - 1))), (9, vo 31)] [(31, AObj.grow 9 1 Bytes [] AL.Fnv.rowS (List.replicate (min (((List.count (k : UInt8) s : Nat) : Int) + 1) ((List.length s : Int) + 1)).toNat []))] (show InR .i64 ((min (((List.count (k : UInt8) s : Nat) : Int) + 1) ((List.length s : Int) + 1)) - 1) from (inR64 (by omega) (by omega))) ?_
 refine gS [] [] 66 [(0, vc (st s)), (1, vc (st [k])), (2, vc (i6 0)), (3, vc (i6 ((min (((List.count (k : UInt8) s : Nat) : Int) + 1) ((List.length s : Int) + 1)) - 1))), (9, vo 31), (10, vc (i6 0))] [(31, AObj.grow 9 1 Bytes [] AL.Fnv.rowS (List.replicate (min (((List.count (k : UInt8) s : Nat) : Int) + 1) ((List.length s : Int) + 1)).toNat []))] trivial ?_
 refine gQ ?_
 refine AMx.block ?_
 refine AMx.ent (s' := AS.lst 66 [(0, vc (st s)), (1, vc (st [k])), (2, vc (i6 0)), (3, vc (i6 ((min (((List.count (k : UInt8) s : Nat) : Int) + 1) ((List.length s : Int) + 1)) - 1))), (9, vo 31), (10, vc (i6 0))] [(31, AObj.grow 9 1 Bytes [] AL.Fnv.rowS (List.replicate (min (((List.count (k : UInt8) s : Nat) : Int) + 1) ((List.length s : Int) + 1)).toNat []))]) (ent_proj [0, 1, 2, 3, 9, 10] [31]) ?_
 refine AMx.loop (fun mm ss => ∃ (o : List Bytes) (c : Bytes), (splitC k s = o ++ splitC k c ∧ c.length ≤ s.length) ∧ mm = c.length ∧ ss = AS.lst 66 [(0, vc (st c)), (1, vc (st [k])), (2, vc (i6 0)), (3, vc (i6 ((min (((List.count (k : UInt8) s : Nat) : Int) + 1) ((List.length s : Int) + 1)) - 1))), (9, vo 31), (10, vc (i6 (List.length o : Int)))] [(31, AObj.grow 9 1 Bytes [] AL.Fnv.rowS (o ++ List.replicate (splitC k c).length []))]) ⟨[], s, ?_, rfl, ?_⟩ ?_
 · exact ⟨rfl, Nat.le_refl _⟩
 · rw [hn]; rfl
 rintro mm ss ⟨o, c, ⟨hP, hL⟩, rfl, rfl⟩
 refine gQ ?_
 refine gS [] [] 66 [(0, vc (st c)), (1, vc (st [k])), (2, vc (i6 0)), (3, vc (i6 ((min (((List.count (k : UInt8) s : Nat) : Int) + 1) ((List.length s : Int) + 1)) - 1))), (9, vo 31), (10, vc (i6 (List.length o : Int))), (36, vc (bo (decide ((List.length o : Int) < (min (((List.count (k : UInt8) s : Nat) : Int) + 1) ((List.length s : Int) + 1)) - 1))))] [(31, AObj.grow 9 1 Bytes [] AL.Fnv.rowS (o ++ List.replicate (splitC k c).length []))] trivial ?_
 refine gC ((List.length o : Int) < (min (((List.count (k : UInt8) s : Nat) : Int) + 1) ((List.length s : Int) + 1)) - 1) (fun hc4 => ?_) fun hc4 => ?_
 ·
  refine AMx.skip ?_
  refine AMx.block ?_
  refine gS [(2, CE.call [] [] (vc (i6 (Go.Lib.indexByte c k))) [])] [Spec Tryz.prog 148 [tc (st c), tc (st [k])] (ofH []) (vc (i6 (Go.Lib.indexByte c k))) (ofH [])] 66 [(0, vc (st c)), (1, vc (st [k])), (2, vc (i6 0)), (3, vc (i6 ((min (((List.count (k : UInt8) s : Nat) : Int) + 1) ((List.length s : Int) + 1)) - 1))), (9, vo 31), (10, vc (i6 (List.length o : Int))), (11, vc (i6 (Go.Lib.indexByte c k)))] [(31, AObj.grow 9 1 Bytes [] AL.Fnv.rowS (o ++ List.replicate (splitC k c).length []))] (AL.Sep.Index_c k c) ?_
  refine gQ ?_
  refine gS [] [] 66 [(0, vc (st c)), (1, vc (st [k])), (2, vc (i6 0)), (3, vc (i6 ((min (((List.count (k : UInt8) s : Nat) : Int) + 1) ((List.length s : Int) + 1)) - 1))), (9, vo 31), (10, vc (i6 (List.length o : Int))), (11, vc (i6 (Go.Lib.indexByte c k))), (41, vc (bo (decide (Go.Lib.indexByte c k < 0))))] [(31, AObj.grow 9 1 Bytes [] AL.Fnv.rowS (o ++ List.replicate (splitC k c).length []))] trivial ?_
  refine gC (Go.Lib.indexByte c k < 0) (fun hc5 => ?_) fun hc5 => ?_
  ·
   refine AMx.exit ?_
   refine AMx.code_exit ?_
   refine AMx.blk_pass rfl ?_
   refine AMx.inv_exit ?_
   refine AMx.blk_exit ?_
   refine gS [(4, CE.obj (AObj.grow 9 1 Bytes [] AL.Fnv.rowS (List.set (o ++ List.replicate (splitC k c).length []) (List.length o) c)))] [(0 : Int) ≤ (List.length o : Int), (List.length o : Int) < List.length (o ++ List.replicate (splitC k c).length [] : List Bytes), StoreC (List.length o) 0 [.s (st c)] (AObj.grow 9 1 Bytes [] AL.Fnv.rowS (o ++ List.replicate (splitC k c).length [])) (AObj.grow 9 1 Bytes [] AL.Fnv.rowS (List.set (o ++ List.replicate (splitC k c).length []) (List.length o) c))] 66 [(9, vo 31), (10, vc (i6 (List.length o : Int)))] [(31, AObj.grow 9 1 Bytes [] AL.Fnv.rowS (List.set (o ++ List.replicate (splitC k c).length []) (List.length o) c))] ⟨(by omega), (by first | omega | (have hx := index_rng k c; first | omega | (simp only [List.length_cons, List.length_nil]; omega) | (have hz := gen_le hP; first | omega | (simp only [List.length_append, List.length_replicate, List.length_set]; omega)))), (⟨c, rfl, by first | omega | (have hx := index_rng k c; first | omega | (simp only [List.length_cons, List.length_nil]; omega) | (have hz := gen_le hP; first | omega | (simp only [List.length_append, List.length_replicate, List.length_set]; omega))), rfl⟩)⟩ ?_
   refine gS [] [InR .i64 ((List.length o : Int) + 1), 0 ≤ (List.length o : Int) + 1, (List.length o : Int) + 1 ≤ (List.length (List.set (o ++ List.replicate (splitC k c).length []) (List.length o) c : List Bytes) : Int)] 66 [(8, vo 65)] [(65, AObj.grow 9 1 Bytes [] AL.Fnv.rowS (List.take ((List.length o) + 1) (List.set (o ++ List.replicate (splitC k c).length []) (List.length o) c)))] ⟨(inR64 (by omega) (by omega)), (by omega), (show (List.length o : Int) + 1 ≤ (List.length (List.set (o ++ List.replicate (splitC k c).length []) (List.length o) c : List Bytes) : Int) from (by first | omega | (have hx := index_rng k c; first | omega | (simp only [List.length_cons, List.length_nil]; omega) | (have hz := gen_le hP; first | omega | (simp only [List.length_append, List.length_replicate, List.length_set]; omega)))))⟩ ?_
   refine AMx.ent (s' := AS.lst 66 [(8, vc (AL.Fnv.slS (List.take ((List.length o) + 1) (List.set (o ++ List.replicate (splitC k c).length []) (List.length o) c))))] []) (ent_freeze (id := 65) (T := 9) (by kernel_rfl)) ?_
   exact gT (vc (AL.Fnv.slS (List.take ((List.length o) + 1) (List.set (o ++ List.replicate (splitC k c).length []) (List.length o) c)))) (by rw [gen_end hP (by first | exact index_none (by omega) | exact gen_last hP (by omega))])
  ·
   refine AMx.skip ?_
   refine gS [(8, CE.obj (AObj.grow 9 1 Bytes [] AL.Fnv.rowS (List.set (o ++ List.replicate (splitC k c).length []) (List.length o) (List.take ((Go.Lib.indexByte c k) + 0).toNat c))))] [InR .i64 ((Go.Lib.indexByte c k) + 0), 0 ≤ (Go.Lib.indexByte c k) + 0, (Go.Lib.indexByte c k) + 0 ≤ List.length c, (0 : Int) ≤ (List.length o : Int), (List.length o : Int) < List.length (o ++ List.replicate (splitC k c).length [] : List Bytes), StoreC (List.length o) 0 [.s (st (List.take ((Go.Lib.indexByte c k) + 0).toNat c))] (AObj.grow 9 1 Bytes [] AL.Fnv.rowS (o ++ List.replicate (splitC k c).length [])) (AObj.grow 9 1 Bytes [] AL.Fnv.rowS (List.set (o ++ List.replicate (splitC k c).length []) (List.length o) (List.take ((Go.Lib.indexByte c k) + 0).toNat c)))] 66 [(0, vc (st c)), (1, vc (st [k])), (2, vc (i6 0)), (3, vc (i6 ((min (((List.count (k : UInt8) s : Nat) : Int) + 1) ((List.length s : Int) + 1)) - 1))), (9, vo 31), (10, vc (i6 (List.length o : Int))), (11, vc (i6 (Go.Lib.indexByte c k)))] [(31, AObj.grow 9 1 Bytes [] AL.Fnv.rowS (List.set (o ++ List.replicate (splitC k c).length []) (List.length o) (List.take ((Go.Lib.indexByte c k) + 0).toNat c)))] ⟨(inR64 (by omega) (by first | omega | (have hx := index_rng k c; first | omega | (simp only [List.length_cons, List.length_nil]; omega) | (have hz := gen_le hP; first | omega | (simp only [List.length_append, List.length_replicate, List.length_set]; omega))))), (by omega), (by first | omega | (have hx := index_rng k c; first | omega | (simp only [List.length_cons, List.length_nil]; omega) | (have hz := gen_le hP; first | omega | (simp only [List.length_append, List.length_replicate, List.length_set]; omega)))), (by omega), (by first | omega | (have hx := index_rng k c; first | omega | (simp only [List.length_cons, List.length_nil]; omega) | (have hz := gen_le hP; first | omega | (simp only [List.length_append, List.length_replicate, List.length_set]; omega)))), (⟨List.take ((Go.Lib.indexByte c k) + 0).toNat c, rfl, by first | omega | (have hx := index_rng k c; first | omega | (simp only [List.length_cons, List.length_nil]; omega) | (have hz := gen_le hP; first | omega | (simp only [List.length_append, List.length_replicate, List.length_set]; omega))), rfl⟩)⟩ ?_
   refine gS [] [InR .i64 ((Go.Lib.indexByte c k) + (List.length ([k] : List UInt8) : Int)), 0 ≤ (Go.Lib.indexByte c k) + (List.length ([k] : List UInt8) : Int), (Go.Lib.indexByte c k) + (List.length ([k] : List UInt8) : Int) ≤ List.length c] 66 [(0, vc (st (List.drop ((Go.Lib.indexByte c k) + (List.length ([k] : List UInt8) : Int)).toNat c))), (1, vc (st [k])), (2, vc (i6 0)), (3, vc (i6 ((min (((List.count (k : UInt8) s : Nat) : Int) + 1) ((List.length s : Int) + 1)) - 1))), (9, vo 31), (10, vc (i6 (List.length o : Int)))] [(31, AObj.grow 9 1 Bytes [] AL.Fnv.rowS (List.set (o ++ List.replicate (splitC k c).length []) (List.length o) (List.take ((Go.Lib.indexByte c k) + 0).toNat c)))] ⟨(inR64 (by omega) (by first | omega | (have hx := index_rng k c; first | omega | (simp only [List.length_cons, List.length_nil]; omega) | (have hz := gen_le hP; first | omega | (simp only [List.length_append, List.length_replicate, List.length_set]; omega))))), (by omega), (show (Go.Lib.indexByte c k) + (List.length ([k] : List UInt8) : Int) ≤ List.length c from (by first | omega | (have hx := index_rng k c; first | omega | (simp only [List.length_cons, List.length_nil]; omega) | (have hz := gen_le hP; first | omega | (simp only [List.length_append, List.length_replicate, List.length_set]; omega)))))⟩ ?_
   refine gR [] [InR .i64 ((List.length o : Int) + 1)] 66 [(0, vc (st (List.drop ((Go.Lib.indexByte c k) + (List.length ([k] : List UInt8) : Int)).toNat c))), (1, vc (st [k])), (2, vc (i6 0)), (3, vc (i6 ((min (((List.count (k : UInt8) s : Nat) : Int) + 1) ((List.length s : Int) + 1)) - 1))), (9, vo 31), (10, vc (i6 ((List.length o : Int) + 1)))] [(31, AObj.grow 9 1 Bytes [] AL.Fnv.rowS (List.set (o ++ List.replicate (splitC k c).length []) (List.length o) (List.take ((Go.Lib.indexByte c k) + 0).toNat c)))] (show InR .i64 ((List.length o : Int) + 1) from (inR64 (by omega) (by omega))) ?_
   refine AMx.blk ?_
   refine AMx.ent_inv (s' := AS.lst 66 [(0, vc (st (List.drop ((Go.Lib.indexByte c k) + (List.length ([k] : List UInt8) : Int)).toNat c))), (1, vc (st [k])), (2, vc (i6 0)), (3, vc (i6 ((min (((List.count (k : UInt8) s : Nat) : Int) + 1) ((List.length s : Int) + 1)) - 1))), (9, vo 31), (10, vc (i6 ((List.length o : Int) + 1)))] [(31, AObj.grow 9 1 Bytes [] AL.Fnv.rowS (List.set (o ++ List.replicate (splitC k c).length []) (List.length o) (List.take ((Go.Lib.indexByte c k) + 0).toNat c)))]) (ent_proj [0, 1, 2, 3, 9, 10] [31]) ?_
   refine AMx.inv ⟨_, ?_, o ++ [List.take (Go.Lib.indexByte c k).toNat c], List.drop ((Go.Lib.indexByte c k).toNat + 1) c, ?_, rfl, ?_⟩
   rotate_left
   · exact ⟨gen_inv hP (by omega), by rw [List.length_drop]; omega⟩
   · rw [show (Go.Lib.indexByte c k + (0 : Int)).toNat = (Go.Lib.indexByte c k).toNat by omega, show (Go.Lib.indexByte c k + (List.length ([k] : List UInt8) : Int)).toNat = (Go.Lib.indexByte c k).toNat + 1 by simp only [List.length_cons, List.length_nil]; omega, gen_step (by omega), List.length_append]; rfl
   · have hx := index_some (s := c) (c := k) (by omega); rw [List.length_drop]; omega
 ·
  refine AMx.exit ?_
  refine AMx.code_exit ?_
  refine AMx.inv_exit ?_
  refine AMx.blk_exit ?_
  refine gS [(4, CE.obj (AObj.grow 9 1 Bytes [] AL.Fnv.rowS (List.set (o ++ List.replicate (splitC k c).length []) (List.length o) c)))] [(0 : Int) ≤ (List.length o : Int), (List.length o : Int) < List.length (o ++ List.replicate (splitC k c).length [] : List Bytes), StoreC (List.length o) 0 [.s (st c)] (AObj.grow 9 1 Bytes [] AL.Fnv.rowS (o ++ List.replicate (splitC k c).length [])) (AObj.grow 9 1 Bytes [] AL.Fnv.rowS (List.set (o ++ List.replicate (splitC k c).length []) (List.length o) c))] 66 [(9, vo 31), (10, vc (i6 (List.length o : Int)))] [(31, AObj.grow 9 1 Bytes [] AL.Fnv.rowS (List.set (o ++ List.replicate (splitC k c).length []) (List.length o) c))] ⟨(by omega), (by first | omega | (have hx := index_rng k c; first | omega | (simp only [List.length_cons, List.length_nil]; omega) | (have hz := gen_le hP; first | omega | (simp only [List.length_append, List.length_replicate, List.length_set]; omega)))), (⟨c, rfl, by first | omega | (have hx := index_rng k c; first | omega | (simp only [List.length_cons, List.length_nil]; omega) | (have hz := gen_le hP; first | omega | (simp only [List.length_append, List.length_replicate, List.length_set]; omega))), rfl⟩)⟩ ?_
  refine gS [] [InR .i64 ((List.length o : Int) + 1), 0 ≤ (List.length o : Int) + 1, (List.length o : Int) + 1 ≤ (List.length (List.set (o ++ List.replicate (splitC k c).length []) (List.length o) c : List Bytes) : Int)] 66 [(8, vo 65)] [(65, AObj.grow 9 1 Bytes [] AL.Fnv.rowS (List.take ((List.length o) + 1) (List.set (o ++ List.replicate (splitC k c).length []) (List.length o) c)))] ⟨(inR64 (by omega) (by first | omega | (have hx := index_rng k c; first | omega | (simp only [List.length_cons, List.length_nil]; omega) | (have hz := gen_le hP; first | omega | (simp only [List.length_append, List.length_replicate, List.length_set]; omega))))), (by omega), (show (List.length o : Int) + 1 ≤ (List.length (List.set (o ++ List.replicate (splitC k c).length []) (List.length o) c : List Bytes) : Int) from (by first | omega | (have hx := index_rng k c; first | omega | (simp only [List.length_cons, List.length_nil]; omega) | (have hz := gen_le hP; first | omega | (simp only [List.length_append, List.length_replicate, List.length_set]; omega)))))⟩ ?_
  refine AMx.ent (s' := AS.lst 66 [(8, vc (AL.Fnv.slS (List.take ((List.length o) + 1) (List.set (o ++ List.replicate (splitC k c).length []) (List.length o) c))))] []) (ent_freeze (id := 65) (T := 9) (by kernel_rfl)) ?_
  exact gT (vc (AL.Fnv.slS (List.take ((List.length o) + 1) (List.set (o ++ List.replicate (splitC k c).length []) (List.length o) c)))) (by rw [gen_end hP (by first | exact index_none (by omega) | exact gen_last hP (by omega))])
theorem f94_body : Tryz.f94.body = some (.seq (.region 0 (rg Tryz.f94 0) false) (.seq (.region 1 (rg Tryz.f94 1) false) (.ret))) := by kernel_rfl
set_option maxRecDepth 100000 in
set_option maxHeartbeats 8000000 in
theorem Split_c (k : UInt8) (s : Bytes) (hb : s.length ≤ 100000) : Pure Tryz.prog 94 [tc (st s), tc (st [k])] (vc (AL.Fnv.slS (splitC k s))) := by
 refine Pure.of_body Tryz.func94 f94_body (by kernel_rfl) Tryz.ntmps94 (by kernel_rfl) (by kernel_rfl) ?_
 refine gS [] [] 8 [(0, vc (st s)), (1, vc (st [k]))] [] trivial ?_
 refine gS [(2, CE.call [] [] (vc (AL.Fnv.slS (AL.Sep.splitC k s))) [])] [Spec Tryz.prog 127 [tc (st s), tc (st [k]), tc (i6 0), tc (i6 (-1))] (ofH []) (vc (AL.Fnv.slS (AL.Sep.splitC k s))) (ofH [])] 8 [(4, vc (AL.Fnv.slS (AL.Sep.splitC k s)))] [] (AL.Sep.genSplit_c k s (by omega)) ?_
 exact gT (vc (AL.Fnv.slS (AL.Sep.splitC k s))) rfl
theorem f128_body : Tryz.f128.body = some (.seq (.region 0 (rg Tryz.f128 0) false) (.seq (.seq (.region 1 (rg Tryz.f128 1) false) (.seq (.region 2 (rg Tryz.f128 2) false) (.cond (.tmp 12) (.seq (.region 3 (rg Tryz.f128 3) true) (.ret)) (.skip)))) (.seq (.region 4 (rg Tryz.f128 4) false) (.ret)))) := by kernel_rfl
set_option maxRecDepth 100000 in
set_option maxHeartbeats 8000000 in
theorem LCut_c (k : UInt8) (s : Bytes) : Pure Tryz.prog 128 [tc (st s), tc (st [k])] (AV.tup [tc (st ((cutAt k s).1)), tc (st ((cutAt k s).2.1)), tc (bo ((cutAt k s).2.2))]) := by
 refine Pure.of_body Tryz.func128 f128_body (by kernel_rfl) Tryz.ntmps128 (by kernel_rfl) (by kernel_rfl) ?_
 refine AMx.str 0 (b := s) rfl (fun hl => ?_)
 simp only [maxLen] at hl
 refine gS [] [] 23 [(0, vc (st s)), (1, vc (st [k]))] [] trivial ?_
 refine gQ ?_
 refine gS [(2, CE.call [] [] (vc (i6 (Go.Lib.indexByte s k))) [])] [Spec Tryz.prog 149 [tc (st s), tc (st [k])] (ofH []) (vc (i6 (Go.Lib.indexByte s k))) (ofH [])] 23 [(0, vc (st s)), (1, vc (st [k])), (7, vc (i6 (Go.Lib.indexByte s k)))] [] (AL.Sep.IndexL_c k s) ?_
 refine gS [] [] 23 [(0, vc (st s)), (1, vc (st [k])), (7, vc (i6 (Go.Lib.indexByte s k))), (12, vc (bo (decide (0 ≤ Go.Lib.indexByte s k))))] [] trivial ?_
 refine gC (0 ≤ Go.Lib.indexByte s k) (fun hc1 => ?_) fun hc1 => ?_
 ·
  refine gY [] [] [0 ≤ Go.Lib.indexByte s k, Go.Lib.indexByte s k ≤ List.length s, InR .i64 ((Go.Lib.indexByte s k) + (List.length ([k] : List UInt8) : Int)), 0 ≤ (Go.Lib.indexByte s k) + (List.length ([k] : List UInt8) : Int), (Go.Lib.indexByte s k) + (List.length ([k] : List UInt8) : Int) ≤ List.length s] 23 [(4, vc (st (List.take (Go.Lib.indexByte s k).toNat s))), (5, vc (st (List.drop ((Go.Lib.indexByte s k) + (List.length ([k] : List UInt8) : Int)).toNat s))), (6, vc (bo true))] [] mixed ⟨(by omega), (by first | omega | (have hi := index_rng k s; have h1 : List.length ([k] : List UInt8) = 1 := rfl; omega)), (inR64 (by omega) (by first | omega | (have hi := index_rng k s; have h1 : List.length ([k] : List UInt8) = 1 := rfl; omega))), (by omega), (show (Go.Lib.indexByte s k) + (List.length ([k] : List UInt8) : Int) ≤ List.length s from (by first | omega | (have hi := index_rng k s; have h1 : List.length ([k] : List UInt8) = 1 := rfl; omega)))⟩ ?_
  exact gT (AV.tup [tc (st (List.take (Go.Lib.indexByte s k).toNat s)), tc (st (List.drop ((Go.Lib.indexByte s k) + (List.length ([k] : List UInt8) : Int)).toNat s)), tc (bo true)]) (by rw [show cutAt k s = (List.take (Go.Lib.indexByte s k).toNat s, List.drop ((Go.Lib.indexByte s k) + (List.length ([k] : List UInt8) : Int)).toNat s, true) from by unfold cutAt; first | (rw [if_pos (by assumption), show (Go.Lib.indexByte s k + (List.length ([k] : List UInt8) : Int)).toNat = (Go.Lib.indexByte s k).toNat + 1 by simp only [List.length_cons, List.length_nil]; omega]; done) | (rw [if_neg (by assumption)])])
 ·
  refine AMx.skip ?_
  refine gS [] [] 23 [(4, vc (st s)), (5, vc (st [])), (6, vc (bo false))] [] trivial ?_
  exact gT (AV.tup [tc (st s), tc (st []), tc (bo false)]) (by rw [show cutAt k s = (s, [], false) from by unfold cutAt; first | (rw [if_pos (by assumption), show (Go.Lib.indexByte s k + (List.length ([k] : List UInt8) : Int)).toNat = (Go.Lib.indexByte s k).toNat + 1 by simp only [List.length_cons, List.length_nil]; omega]; done) | (rw [if_neg (by assumption)])])
theorem f95_body : Tryz.f95.body = some (.seq (.region 0 (rg Tryz.f95 0) false) (.seq (.region 1 (rg Tryz.f95 1) false) (.ret))) := by kernel_rfl
set_option maxRecDepth 100000 in
set_option maxHeartbeats 8000000 in
theorem Cut_c (k : UInt8) (s : Bytes) : Pure Tryz.prog 95 [tc (st s), tc (st [k])] (AV.tup [tc (st ((cutAt k s).1)), tc (st ((cutAt k s).2.1)), tc (bo ((cutAt k s).2.2))]) := by
 refine Pure.of_body Tryz.func95 f95_body (by kernel_rfl) Tryz.ntmps95 (by kernel_rfl) (by kernel_rfl) ?_
 refine AMx.str 0 (b := s) rfl (fun hl => ?_)
 simp only [maxLen] at hl
 refine gS [] [] 13 [(0, vc (st s)), (1, vc (st [k]))] [] trivial ?_
 refine gS [(2, CE.call [] [] (AV.tup [tc (st ((AL.Sep.cutAt k s).1)), tc (st ((AL.Sep.cutAt k s).2.1)), tc (bo ((AL.Sep.cutAt k s).2.2))]) [])] [Spec Tryz.prog 128 [tc (st s), tc (st [k])] (ofH []) (AV.tup [tc (st ((AL.Sep.cutAt k s).1)), tc (st ((AL.Sep.cutAt k s).2.1)), tc (bo ((AL.Sep.cutAt k s).2.2))]) (ofH [])] 13 [(4, vc (st ((AL.Sep.cutAt k s).1))), (5, vc (st ((AL.Sep.cutAt k s).2.1))), (6, vc (bo ((AL.Sep.cutAt k s).2.2)))] [] (AL.Sep.LCut_c k s) ?_
 exact gT (AV.tup [tc (st ((AL.Sep.cutAt k s).1)), tc (st ((AL.Sep.cutAt k s).2.1)), tc (bo ((AL.Sep.cutAt k s).2.2))]) rfl
end AL.Sep
namespace AL.Under
open Go Go.Proofs AL AL.Fnv
set_option linter.unusedVariables false
set_option linter.unusedSimpArgs false
theorem f119_body : Tryz.f119.body = some (.seq (.region 0 (rg Tryz.f119 0) false) (.seq (.seq (.region 1 (rg Tryz.f119 1) false) (.cond (.tmp 10) (.seq (.region 2 (rg Tryz.f119 2) false) (.ret)) (.skip))) (.seq (.seq (.region 3 (rg Tryz.f119 3) false) (.block 0 (.loop (.seq (.seq (.region 4 (rg Tryz.f119 4) false) (.cond (.tmp 14) (.skip) (.exit 0))) (.seq (.block 1 (.seq (.region 6 (rg Tryz.f119 6) true) (.cond (.tmp 23) (.seq (.region 7 (rg Tryz.f119 7) false) (.ret)) (.skip)))) (.region 5 (rg Tryz.f119 5) false)))))) (.seq (.region 8 (rg Tryz.f119 8) false) (.ret))))) := by kernel_rfl
set_option maxRecDepth 100000 in
set_option maxHeartbeats 8000000 in
theorem RBegins_c (s t : Bytes) : Pure Tryz.prog 119 [tc (st s), tc (st t)] (vc (bo (hasP s t))) := by
 refine Pure.of_body Tryz.func119 f119_body (by kernel_rfl) Tryz.ntmps119 (by kernel_rfl) (by kernel_rfl) ?_
 refine AMx.str 0 (b := s) rfl (fun hls => ?_)
 simp only [maxLen] at hls
 refine AMx.str 1 (b := t) rfl (fun hlt => ?_)
 simp only [maxLen] at hlt
 refine gS [] [] 24 [(0, vc (st s)), (1, vc (st t))] [] trivial ?_
 refine gQ ?_
 refine gS [] [] 24 [(0, vc (st s)), (1, vc (st t)), (10, vc (bo (decide ((List.length s : Int) < (List.length t : Int)))))] [] trivial ?_
 refine gC ((List.length s : Int) < (List.length t : Int)) (fun hc1 => ?_) fun hc1 => ?_
 ·
  refine gS [] [] 24 [(4, vc (bo false))] [] trivial ?_
  exact gT (vc (bo false)) (by first | rw [hasP_long (by omega)] | rw [hasP_ne (i := k) (by omega) (by assumption)])
 ·
  refine AMx.skip ?_
  refine gQ ?_
  refine gS [] [] 24 [(0, vc (st s)), (1, vc (st t)), (5, vc (i6 0))] [] trivial ?_
  refine AMx.block ?_
  refine AMx.ent (s' := AS.lst 24 [(0, vc (st s)), (1, vc (st t)), (5, vc (i6 0))] []) (ent_proj [0, 1, 5] []) ?_
  refine AMx.loop (fun mm ss => ∃ (k : Nat), (k ≤ t.length ∧ t.length ≤ s.length ∧ List.take k s = List.take k t) ∧ mm = t.length - k ∧ ss = AS.lst 24 [(0, vc (st s)), (1, vc (st t)), (5, vc (i6 (k : Int)))] []) ⟨0, ?_, rfl, ?_⟩ ?_
  · exact ⟨by omega, by omega, rfl⟩
  · rfl
  rintro mm ss ⟨k, ⟨hI, hS, hE⟩, rfl, rfl⟩
  refine gQ ?_
  refine gS [] [] 24 [(0, vc (st s)), (1, vc (st t)), (5, vc (i6 (k : Int))), (14, vc (bo (decide ((k : Int) < (List.length t : Int)))))] [] trivial ?_
  refine gC ((k : Int) < (List.length t : Int)) (fun hc2 => ?_) fun hc2 => ?_
  ·
   refine AMx.skip ?_
   refine gQ ?_
   refine AMx.block ?_
   refine gY [] [] [(0 : Int) ≤ (k : Int), (k : Int) < List.length s, (0 : Int) ≤ (k : Int), (k : Int) < List.length t] 24 [(0, vc (st s)), (1, vc (st t)), (5, vc (i6 (k : Int))), (23, vc (bo (!decide (((List.getD s k 0).toNat : Int) = ((List.getD t k 0).toNat : Int)))))] [] mixed ⟨(by omega), (by omega), (by omega), (show (k : Int) < List.length t from (by omega))⟩ ?_
   refine gN (((List.getD s k 0).toNat : Int) = ((List.getD t k 0).toNat : Int)) (fun hc3 => ?_) fun hc3 => ?_
   ·
    refine gS [] [] 24 [(4, vc (bo false))] [] trivial ?_
    exact gT (vc (bo false)) (by first | rw [hasP_long (by omega)] | rw [hasP_ne (i := k) (by omega) (by assumption)])
   ·
    refine AMx.skip ?_
    refine AMx.blk ?_
    refine gR [] [InR .i64 ((k : Int) + 1)] 24 [(0, vc (st s)), (1, vc (st t)), (5, vc (i6 ((k : Int) + 1)))] [] (show InR .i64 ((k : Int) + 1) from (inR64 (by omega) (by omega))) ?_
    refine AMx.ent_inv (s' := AS.lst 24 [(0, vc (st s)), (1, vc (st t)), (5, vc (i6 ((k : Int) + 1)))] []) (ent_proj [0, 1, 5] []) ?_
    refine AMx.inv ⟨_, ?_, k + 1, ?_, rfl, ?_⟩
    rotate_left
    · exact ⟨by omega, by omega, take_byte (by omega) (by omega) hE (by assumption)⟩
    · rfl
    · omega
  ·
   refine AMx.exit ?_
   refine AMx.code_exit ?_
   refine AMx.inv_exit ?_
   refine AMx.blk_exit ?_
   refine gS [] [] 24 [(4, vc (bo true))] [] trivial ?_
   exact gT (vc (bo true)) (by rw [hasP_end (by omega) hS hE])
theorem f85_body : Tryz.f85.body = some (.seq (.region 0 (rg Tryz.f85 0) false) (.seq (.region 1 (rg Tryz.f85 1) false) (.ret))) := by kernel_rfl
set_option maxRecDepth 100000 in
set_option maxHeartbeats 8000000 in
theorem RWithin_c (s top : Bytes) (hb : top.length ≤ 100000) : Pure Tryz.prog 85 [tc (st s), tc (st top)] (vc (bo (withinS s top))) := by
 refine Pure.of_body Tryz.func85 f85_body (by kernel_rfl) Tryz.ntmps85 (by kernel_rfl) (by kernel_rfl) ?_
 refine gS [] [] 18 [(0, vc (st s)), (1, vc (st top))] [] trivial ?_
 refine gS [(11, CE.call [] [] (vc (bo (hasP s (top ++ [47])))) [])] [((decide (top = [])) = false) → allP [(decide (top = [])) = false, (decide (top = [])) = false], (decide (top = [])) = false → allP [(decide (top = [])) = false], (((decide (top = [])) || (decide (s = top))) = false) → allP [((decide (top = [])) || (decide (s = top))) = false, List.length top + List.length ([47] : List UInt8) ≤ maxLen], (((decide (top = [])) || (decide (s = top))) = false) → allP [((decide (top = [])) || (decide (s = top))) = false, ((decide (top = [])) || (decide (s = top))) = false, Spec Tryz.prog 119 [tc (st s), tc (st (top ++ [47]))] (ofH []) (vc (bo (hasP s (top ++ [47])))) (ofH [])], ((decide (top = [])) || (decide (s = top))) = false → allP [((decide (top = [])) || (decide (s = top))) = false]] 18 [(4, vc (bo (((decide (top = [])) || (decide (s = top))) || (hasP s (top ++ [47])))))] [] ⟨(fun hp => ⟨hp, hp⟩), (fun hp2 => (by first | exact hp2 | exact ⟨hp, hp2⟩)), (fun hp => by have hq := hp; (try simp only [xT, xF, xA, xO, xB, xP, xN, xM, Bool.not_eq_true, Bool.not_eq_false] at hq); exact ⟨hp, (show List.length top + List.length ([47] : List UInt8) ≤ maxLen from (by simp only [List.length_append, List.length_cons, List.length_nil, maxLen]; omega))⟩), (fun hp => by have hq := hp; (try simp only [xT, xF, xA, xO, xB, xP, xN, xM, Bool.not_eq_true, Bool.not_eq_false] at hq); exact ⟨hp, hp, (RBegins_c s (top ++ [47]))⟩), (fun hp2 => (by first | exact hp2 | exact ⟨hp, hp2⟩))⟩ ?_
 exact gT (vc (bo (((decide (top = [])) || (decide (s = top))) || (hasP s (top ++ [47]))))) (by rw [within_ref])
end AL.Under
namespace AL.Policy
open Go Go.Proofs AL AL.Rune
set_option linter.unusedVariables false
set_option linter.unusedSimpArgs false
theorem f102_body : Tryz.f102.body = some (.seq (.region 0 (rg Tryz.f102 0) false) (.seq (.region 1 (rg Tryz.f102 1) false) (.ret))) := by kernel_rfl
set_option maxRecDepth 100000 in
set_option maxHeartbeats 8000000 in
theorem same_c (x : RuleV) (p : Bytes) (n : Int) : Pure Tryz.prog 102 [TV.agg [.s (st x.1), .s (u8 x.2)], tc (SC.ref 2 (rl [st p, u8 n]))] (vc (bo (decide (x.1 = p)))) := by
 refine Pure.of_body Tryz.func102 f102_body (by kernel_rfl) Tryz.ntmps102 (by kernel_rfl) (by kernel_rfl) ?_
 refine gS [] [] 9 [(1, vc (SC.ref 2 (rl [st p, u8 n]))), (2, vp 2 0)] [(2, AObj.row [.s (st x.1), .s (u8 x.2)])] trivial ?_
 refine gS [] [] 9 [(3, vc (bo (decide (x.1 = p))))] [] trivial ?_
 exact gT (vc (bo (decide (x.1 = p)))) rfl
theorem f132_body : Tryz.f132.body = some (.seq (.region 0 (rg Tryz.f132 0) false) (.seq (.seq (.region 1 (rg Tryz.f132 1) false) (.block 0 (.loop (.seq (.region 2 (rg Tryz.f132 2) false) (.seq (.cond (.tmp 9) (.skip) (.exit 0)) (.seq (.block 1 (.seq (.region 3 (rg Tryz.f132 3) false) (.seq (.region 4 (rg Tryz.f132 4) false) (.cond (.tmp 16) (.seq (.region 5 (rg Tryz.f132 5) false) (.ret)) (.skip))))) (.region 6 (rg Tryz.f132 6) false))))))) (.seq (.region 7 (rg Tryz.f132 7) false) (.ret)))) := by kernel_rfl
set_option maxRecDepth 100000 in
set_option maxHeartbeats 8000000 in
theorem Index_c (f : FuncId) (caps : List Cap) (p : RuleV → Bool) (hf : ∀ x : RuleV, Pure Tryz.prog f ([TV.agg [.s (st x.1), .s (u8 x.2)]] ++ List.map capT caps) (vc (bo (p x)))) (l : List RuleV) : Pure Tryz.prog 132 [tc (slP l), TV.c (.fn f caps)] (vc (i6 (Lib.idxS p l))) := by
 refine Pure.of_body Tryz.func132 f132_body (by kernel_rfl) Tryz.ntmps132 (by kernel_rfl) (by kernel_rfl) ?_
 refine AMx.sl 0 (l := l) rfl (fun hl => ?_)
 simp only [maxLen] at hl
 refine gS [] [] 19 [(0, vc (slP l)), (1, AV.t (TV.c (.fn f caps)))] [] trivial ?_
 refine gQ ?_
 refine gS [] [] 19 [(0, vc (slP l)), (1, AV.t (TV.c (.fn f caps))), (7, vc (i6 (List.length l : Int))), (8, vc (i6 0))] [] trivial ?_
 refine AMx.block ?_
 refine AMx.ent (s' := AS.lst 19 [(0, vc (slP l)), (1, AV.t (TV.c (.fn f caps))), (7, vc (i6 (List.length l : Int))), (8, vc (i6 0))] []) (ent_proj [0, 1, 7, 8] []) ?_
 refine AMx.loop (fun mm ss => ∃ (k : Nat), (k ≤ l.length ∧ ∀ x ∈ List.take k l, p x = false) ∧ mm = l.length - k ∧ ss = AS.lst 19 [(0, vc (slP l)), (1, AV.t (TV.c (.fn f caps))), (7, vc (i6 (List.length l : Int))), (8, vc (i6 (k : Int)))] []) ⟨0, ?_, rfl, ?_⟩ ?_
 · exact ⟨by omega, fun x hx => by simp at hx⟩
 · rfl
 rintro mm ss ⟨k, ⟨hI, hN⟩, rfl, rfl⟩
 refine gS [] [] 19 [(0, vc (slP l)), (1, AV.t (TV.c (.fn f caps))), (7, vc (i6 (List.length l : Int))), (8, vc (i6 (k : Int))), (9, vc (bo (decide ((k : Int) < (List.length l : Int)))))] [] trivial ?_
 refine gQ ?_
 refine gC ((k : Int) < (List.length l : Int)) (fun hc1 => ?_) fun hc1 => ?_
 ·
  refine AMx.skip ?_
  refine gQ ?_
  refine AMx.block ?_
  refine gS [] [] 19 [(0, vc (slP l)), (1, AV.t (TV.c (.fn f caps))), (5, vc (i6 (k : Int))), (7, vc (i6 (List.length l : Int))), (8, vc (i6 (k : Int)))] [] trivial ?_
  refine gS [(5, CE.call [] [] (vc (bo (p (List.getD l k ([], 0))))) [])] [(0 : Int) ≤ (k : Int), (k : Int) < List.length l, Spec Tryz.prog f ([TV.agg [.s (st ((List.getD l k ([], 0)).1)), .s (u8 ((List.getD l k ([], 0)).2))]] ++ List.map capT caps) (ofH []) (vc (bo (p (List.getD l k ([], 0))))) (ofH [])] 19 [(0, vc (slP l)), (1, AV.t (TV.c (.fn f caps))), (5, vc (i6 (k : Int))), (7, vc (i6 (List.length l : Int))), (8, vc (i6 (k : Int))), (16, vc (bo (p (List.getD l k ([], 0)))))] [] ⟨(by omega), (by omega), (hf (List.getD l k ([], 0)))⟩ ?_
  refine gB (p (List.getD l k ([], 0))) (fun hc2 => ?_) fun hc2 => ?_
  ·
   try simp only [xT, xF] at hc2
   refine gS [] [] 19 [(4, vc (i6 (k : Int)))] [] trivial ?_
   exact gT (vc (i6 (k : Int))) (by rw [Lib.idx_hit ([], 0) l k (by omega) hN (by assumption)])
  ·
   try simp only [xT, xF] at hc2
   refine AMx.skip ?_
   refine AMx.blk ?_
   refine gR [] [InR .i64 ((k : Int) + 1)] 19 [(0, vc (slP l)), (1, AV.t (TV.c (.fn f caps))), (7, vc (i6 (List.length l : Int))), (8, vc (i6 ((k : Int) + 1)))] [] (show InR .i64 ((k : Int) + 1) from (inR64 (by omega) (by omega))) ?_
   refine AMx.ent_inv (s' := AS.lst 19 [(0, vc (slP l)), (1, AV.t (TV.c (.fn f caps))), (7, vc (i6 (List.length l : Int))), (8, vc (i6 ((k : Int) + 1)))] []) (ent_proj [0, 1, 7, 8] []) ?_
   refine AMx.inv ⟨_, ?_, k + 1, ?_, rfl, ?_⟩
   rotate_left
   · exact ⟨by omega, Lib.all_step ([], 0) l k (by omega) hN (by assumption)⟩
   · rfl
   · omega
 ·
  refine AMx.exit ?_
  refine AMx.code_exit ?_
  refine AMx.inv_exit ?_
  refine AMx.blk_exit ?_
  refine gS [] [] 19 [(4, vc (i6 (-1)))] [] trivial ?_
  exact gT (vc (i6 (-1))) (by rw [Lib.idx_none (fun x hx => hN x (by rwa [List.take_of_length_le (by omega)]))])
theorem f101_body : Tryz.f101.body = some (.seq (.region 0 (rg Tryz.f101 0) false) (.seq (.region 1 (rg Tryz.f101 1) false) (.ret))) := by kernel_rfl
set_option maxRecDepth 100000 in
set_option maxHeartbeats 8000000 in
theorem Contains_c (f : FuncId) (caps : List Cap) (p : RuleV → Bool) (hf : ∀ x : RuleV, Pure Tryz.prog f ([TV.agg [.s (st x.1), .s (u8 x.2)]] ++ List.map capT caps) (vc (bo (p x)))) (l : List RuleV) : Pure Tryz.prog 101 [tc (slP l), TV.c (.fn f caps)] (vc (bo (decide (0 ≤ Lib.idxS p l)))) := by
 refine Pure.of_body Tryz.func101 f101_body (by kernel_rfl) Tryz.ntmps101 (by kernel_rfl) (by kernel_rfl) ?_
 refine gS [] [] 9 [(0, vc (slP l)), (1, AV.t (TV.c (.fn f caps)))] [] trivial ?_
 refine gS [(2, CE.call [] [] (vc (i6 (Lib.idxS p l))) [])] [Spec Tryz.prog 132 [tc (slP l), TV.c (.fn f caps)] (ofH []) (vc (i6 (Lib.idxS p l))) (ofH [])] 9 [(4, vc (bo (decide (0 ≤ Lib.idxS p l))))] [] (Index_c f caps p hf l) ?_
 exact gT (vc (bo (decide (0 ≤ Lib.idxS p l)))) rfl
theorem f73_body : Tryz.f73.body = some (.seq (.region 0 (rg Tryz.f73 0) false) (.seq (.seq (.region 1 (rg Tryz.f73 1) false) (.cond (.tmp 8) (.seq (.region 2 (rg Tryz.f73 2) false) (.seq (.region 3 (rg Tryz.f73 3) false) (.cond (.tmp 13) (.seq (.region 4 (rg Tryz.f73 4) false) (.ret)) (.skip)))) (.skip))) (.seq (.seq (.region 5 (rg Tryz.f73 5) false) (.cond (.tmp 17) (.seq (.region 6 (rg Tryz.f73 6) false) (.ret)) (.skip))) (.seq (.seq (.region 7 (rg Tryz.f73 7) false) (.cond (.tmp 20) (.seq (.region 8 (rg Tryz.f73 8) false) (.ret)) (.skip))) (.seq (.region 9 (rg Tryz.f73 9) false) (.ret)))))) := by kernel_rfl
set_option maxRecDepth 100000 in
set_option maxHeartbeats 8000000 in
theorem check1_c (z : RuleV) (ahead : List RuleV) : Pure Tryz.prog 73 [TV.agg [.s (st z.1), .s (u8 z.2)], tc (slP ahead)] (vc (i6 (oneC ahead z))) := by
 refine Pure.of_body Tryz.func73 f73_body (by kernel_rfl) Tryz.ntmps73 (by kernel_rfl) (by kernel_rfl) ?_
 refine gS [] [] 21 [(1, vc (slP ahead)), (2, vp 2 0)] [(2, AObj.row [.s (st z.1), .s (u8 z.2)])] trivial ?_
 refine gQ ?_
 refine gS [] [] 21 [(1, vc (slP ahead)), (2, vp 2 0), (8, vc (bo (!decide (z.1 = []))))] [(2, AObj.row [.s (st z.1), .s (u8 z.2)])] trivial ?_
 refine gN (z.1 = []) (fun hc1 => ?_) fun hc1 => ?_
 ·
  refine gS [(2, CE.call [] [] (vc (i6 (Route.checkS z.1))) [])] [Spec Tryz.prog 99 [tc (st z.1)] (ofH []) (vc (i6 (Route.checkS z.1))) (ofH [])] 21 [(1, vc (slP ahead)), (2, vp 2 0), (5, vc (i6 (Route.checkS z.1)))] [(2, AObj.row [.s (st z.1), .s (u8 z.2)])] (Route.Check_c z.1) ?_
  refine gS [] [] 21 [(1, vc (slP ahead)), (2, vp 2 0), (5, vc (i6 (Route.checkS z.1))), (13, vc (bo (!decide (Route.checkS z.1 = 0))))] [(2, AObj.row [.s (st z.1), .s (u8 z.2)])] trivial ?_
  refine gN (Route.checkS z.1 = 0) (fun hc2 => ?_) fun hc2 => ?_
  ·
   refine gS [] [] 21 [(4, vc (i6 (Route.checkS z.1)))] [] trivial ?_
   exact gT (vc (i6 (Route.checkS z.1))) (by rw [show oneC ahead z = Route.checkS z.1 from by unfold oneC; rw [← there_idx] <;> grind])
  ·
   refine AMx.skip ?_
   refine gQ ?_
   refine gS [] [] 21 [(1, vc (slP ahead)), (2, vp 2 0), (17, vc (bo (decide (63 < z.2))))] [(2, AObj.row [.s (st z.1), .s (u8 z.2)])] trivial ?_
   refine gC (63 < z.2) (fun hc3 => ?_) fun hc3 => ?_
   ·
    refine gS [] [] 21 [(4, vc (i6 2))] [] trivial ?_
    exact gT (vc (i6 2)) (by rw [show oneC ahead z = 2 from by unfold oneC; rw [← there_idx] <;> grind])
   ·
    refine AMx.skip ?_
    refine gQ ?_
    refine gS [(2, CE.call [2] [] (vc (bo (decide (0 ≤ Lib.idxS (fun x : RuleV => decide (x.1 = z.1)) ahead)))) [])] [Spec Tryz.prog 101 [tc (slP ahead), TV.c (.fn 102 [.s (SC.ref 2 (rl [st z.1, u8 z.2]))])] (ofH []) (vc (bo (decide (0 ≤ Lib.idxS (fun x : RuleV => decide (x.1 = z.1)) ahead)))) (ofH [])] 21 [(20, vc (bo (decide (0 ≤ Lib.idxS (fun x : RuleV => decide (x.1 = z.1)) ahead))))] [] (Contains_c 102 [.s (SC.ref 2 (rl [st z.1, u8 z.2]))] (fun x : RuleV => decide (x.1 = z.1)) (fun x => same_c x z.1 z.2) ahead) ?_
    refine gC (0 ≤ Lib.idxS (fun x : RuleV => decide (x.1 = z.1)) ahead) (fun hc4 => ?_) fun hc4 => ?_
    ·
     refine gS [] [] 21 [(4, vc (i6 20))] [] trivial ?_
     exact gT (vc (i6 20)) (by rw [show oneC ahead z = 20 from by unfold oneC; rw [← there_idx] <;> grind])
    ·
     refine AMx.skip ?_
     refine gS [] [] 21 [(4, vc (i6 0))] [] trivial ?_
     exact gT (vc (i6 0)) (by rw [show oneC ahead z = 0 from by unfold oneC; rw [← there_idx] <;> grind])
 ·
  refine AMx.skip ?_
  refine gQ ?_
  refine gS [] [] 21 [(1, vc (slP ahead)), (2, vp 2 0), (17, vc (bo (decide (63 < z.2))))] [(2, AObj.row [.s (st z.1), .s (u8 z.2)])] trivial ?_
  refine gC (63 < z.2) (fun hc5 => ?_) fun hc5 => ?_
  ·
   refine gS [] [] 21 [(4, vc (i6 2))] [] trivial ?_
   exact gT (vc (i6 2)) (by rw [show oneC ahead z = 2 from by unfold oneC; rw [← there_idx] <;> grind])
  ·
   refine AMx.skip ?_
   refine gQ ?_
   refine gS [(2, CE.call [2] [] (vc (bo (decide (0 ≤ Lib.idxS (fun x : RuleV => decide (x.1 = z.1)) ahead)))) [])] [Spec Tryz.prog 101 [tc (slP ahead), TV.c (.fn 102 [.s (SC.ref 2 (rl [st z.1, u8 z.2]))])] (ofH []) (vc (bo (decide (0 ≤ Lib.idxS (fun x : RuleV => decide (x.1 = z.1)) ahead)))) (ofH [])] 21 [(20, vc (bo (decide (0 ≤ Lib.idxS (fun x : RuleV => decide (x.1 = z.1)) ahead))))] [] (Contains_c 102 [.s (SC.ref 2 (rl [st z.1, u8 z.2]))] (fun x : RuleV => decide (x.1 = z.1)) (fun x => same_c x z.1 z.2) ahead) ?_
   refine gC (0 ≤ Lib.idxS (fun x : RuleV => decide (x.1 = z.1)) ahead) (fun hc6 => ?_) fun hc6 => ?_
   ·
    refine gS [] [] 21 [(4, vc (i6 20))] [] trivial ?_
    exact gT (vc (i6 20)) (by rw [show oneC ahead z = 20 from by unfold oneC; rw [← there_idx] <;> grind])
   ·
    refine AMx.skip ?_
    refine gS [] [] 21 [(4, vc (i6 0))] [] trivial ?_
    exact gT (vc (i6 0)) (by rw [show oneC ahead z = 0 from by unfold oneC; rw [← there_idx] <;> grind])
theorem f41_body : Tryz.f41.body = some (.seq (.region 0 (rg Tryz.f41 0) false) (.seq (.seq (.region 1 (rg Tryz.f41 1) false) (.cond (.tmp 8) (.seq (.region 2 (rg Tryz.f41 2) false) (.ret)) (.skip))) (.seq (.seq (.region 3 (rg Tryz.f41 3) false) (.block 0 (.loop (.seq (.region 4 (rg Tryz.f41 4) false) (.seq (.cond (.tmp 12) (.skip) (.exit 0)) (.seq (.block 1 (.seq (.region 5 (rg Tryz.f41 5) false) (.seq (.region 6 (rg Tryz.f41 6) true) (.seq (.region 7 (rg Tryz.f41 7) false) (.cond (.tmp 22) (.seq (.region 8 (rg Tryz.f41 8) false) (.ret)) (.skip)))))) (.region 9 (rg Tryz.f41 9) false))))))) (.seq (.region 10 (rg Tryz.f41 10) false) (.ret))))) := by kernel_rfl
set_option maxRecDepth 100000 in
set_option maxHeartbeats 8000000 in
theorem Check_c (l : List RuleV) : Pure Tryz.prog 41 [tc (slP l)] (vc (i6 (checkP l))) := by
 refine Pure.of_body Tryz.func41 f41_body (by kernel_rfl) Tryz.ntmps41 (by kernel_rfl) (by kernel_rfl) ?_
 refine AMx.sl 0 (l := l) rfl (fun hl => ?_)
 simp only [maxLen] at hl
 refine gS [] [] 25 [(0, vc (slP l))] [] trivial ?_
 refine gQ ?_
 refine gS [] [] 25 [(0, vc (slP l)), (8, vc (bo (decide (4 < (List.length l : Int)))))] [] trivial ?_
 refine gC (4 < (List.length l : Int)) (fun hc1 => ?_) fun hc1 => ?_
 ·
  refine gS [] [] 25 [(2, vc (i6 24))] [] trivial ?_
  exact gT (vc (i6 24)) (by rw [show checkP l = 24 from by first | exact chk_many (by omega) | exact chk_bad (by omega) (by omega) hN (by assumption) | exact chk_end (by omega) (by omega) hN])
 ·
  refine AMx.skip ?_
  refine gQ ?_
  refine gS [] [] 25 [(0, vc (slP l)), (9, vc (slP l)), (10, vc (i6 (List.length l : Int))), (11, vc (i6 0))] [] trivial ?_
  refine AMx.block ?_
  refine AMx.ent (s' := AS.lst 25 [(0, vc (slP l)), (9, vc (slP l)), (10, vc (i6 (List.length l : Int))), (11, vc (i6 0))] []) (ent_proj [0, 9, 10, 11] []) ?_
  refine AMx.loop (fun mm ss => ∃ (k : Nat), (k ≤ l.length ∧ ChkAt l k) ∧ mm = l.length - k ∧ ss = AS.lst 25 [(0, vc (slP l)), (9, vc (slP l)), (10, vc (i6 (List.length l : Int))), (11, vc (i6 (k : Int)))] []) ⟨0, ?_, rfl, ?_⟩ ?_
  · exact ⟨Nat.zero_le _, chk_0 l⟩
  · rfl
  rintro mm ss ⟨k, ⟨hI, hN⟩, rfl, rfl⟩
  refine gS [] [] 25 [(0, vc (slP l)), (9, vc (slP l)), (10, vc (i6 (List.length l : Int))), (11, vc (i6 (k : Int))), (12, vc (bo (decide ((k : Int) < (List.length l : Int)))))] [] trivial ?_
  refine gQ ?_
  refine gC ((k : Int) < (List.length l : Int)) (fun hc2 => ?_) fun hc2 => ?_
  ·
   refine AMx.skip ?_
   refine gQ ?_
   refine AMx.block ?_
   refine gS [] [(0 : Int) ≤ (k : Int), (k : Int) < List.length l] 25 [(0, vc (slP l)), (3, vc (i6 (k : Int))), (4, vp 4 0), (9, vc (slP l)), (10, vc (i6 (List.length l : Int))), (11, vc (i6 (k : Int)))] [(4, AObj.row [.s (st ((List.getD l k ([], 0)).1)), .s (u8 ((List.getD l k ([], 0)).2))])] ⟨(by omega), (show (k : Int) < List.length l from (by omega))⟩ ?_
   refine gY [(4, CE.call [] [] (vc (i6 (oneC (List.take k l) (List.getD l k ([], 0))))) [])] [(0, [4])] [0 ≤ (k : Int), (k : Int) ≤ List.length l, Spec Tryz.prog 73 [TV.agg [.s (st ((List.getD l k ([], 0)).1)), .s (u8 ((List.getD l k ([], 0)).2))], tc (slP (List.take k l))] (ofH []) (vc (i6 (oneC (List.take k l) (List.getD l k ([], 0))))) (ofH [])] 25 [(0, vc (slP l)), (5, vc (i6 (oneC (List.take k l) (List.getD l k ([], 0))))), (9, vc (slP l)), (10, vc (i6 (List.length l : Int))), (11, vc (i6 (k : Int)))] [] mixed ⟨(by omega), (by omega), (check1_c (List.getD l k ([], 0)) (List.take k l))⟩ ?_
   refine gS [] [] 25 [(0, vc (slP l)), (5, vc (i6 (oneC (List.take k l) (List.getD l k ([], 0))))), (9, vc (slP l)), (10, vc (i6 (List.length l : Int))), (11, vc (i6 (k : Int))), (22, vc (bo (!decide (oneC (List.take k l) (List.getD l k ([], 0)) = 0))))] [] trivial ?_
   refine gN (oneC (List.take k l) (List.getD l k ([], 0)) = 0) (fun hc3 => ?_) fun hc3 => ?_
   ·
    refine gS [] [] 25 [(2, vc (i6 (oneC (List.take k l) (List.getD l k ([], 0)))))] [] trivial ?_
    exact gT (vc (i6 (oneC (List.take k l) (List.getD l k ([], 0))))) (by rw [show checkP l = oneC (List.take k l) (List.getD l k ([], 0)) from by first | exact chk_many (by omega) | exact chk_bad (by omega) (by omega) hN (by assumption) | exact chk_end (by omega) (by omega) hN])
   ·
    refine AMx.skip ?_
    refine AMx.blk ?_
    refine gR [] [InR .i64 ((k : Int) + 1)] 25 [(0, vc (slP l)), (9, vc (slP l)), (10, vc (i6 (List.length l : Int))), (11, vc (i6 ((k : Int) + 1)))] [] (show InR .i64 ((k : Int) + 1) from (inR64 (by omega) (by omega))) ?_
    refine AMx.ent_inv (s' := AS.lst 25 [(0, vc (slP l)), (9, vc (slP l)), (10, vc (i6 (List.length l : Int))), (11, vc (i6 ((k : Int) + 1)))] []) (ent_proj [0, 9, 10, 11] []) ?_
    refine AMx.inv ⟨_, ?_, k + 1, ?_, rfl, ?_⟩
    rotate_left
    · exact ⟨by omega, chk_step (by omega) hN (by assumption)⟩
    · rfl
    · omega
  ·
   refine AMx.exit ?_
   refine AMx.code_exit ?_
   refine AMx.inv_exit ?_
   refine AMx.blk_exit ?_
   refine gS [] [] 25 [(2, vc (i6 0))] [] trivial ?_
   exact gT (vc (i6 0)) (by rw [show checkP l = 0 from by first | exact chk_many (by omega) | exact chk_bad (by omega) (by omega) hN (by assumption) | exact chk_end (by omega) (by omega) hN])
theorem f44_body : Tryz.f44.body = some (.seq (.region 0 (rg Tryz.f44 0) false) (.seq (.seq (.region 1 (rg Tryz.f44 1) false) (.cond (.tmp 7) (.seq (.region 2 (rg Tryz.f44 2) false) (.ret)) (.skip))) (.seq (.seq (.region 3 (rg Tryz.f44 3) false) (.block 0 (.loop (.seq (.seq (.region 4 (rg Tryz.f44 4) false) (.cond (.tmp 11) (.skip) (.exit 0))) (.seq (.block 1 (.seq (.seq (.region 6 (rg Tryz.f44 6) false) (.cond (.tmp 28) (.seq (.region 7 (rg Tryz.f44 7) false) (.ret)) (.skip))) (.seq (.seq (.region 8 (rg Tryz.f44 8) false) (.cond (.tmp 40) (.seq (.region 9 (rg Tryz.f44 9) false) (.ret)) (.skip))) (.seq (.region 10 (rg Tryz.f44 10) false) (.block 2 (.loop (.seq (.seq (.region 11 (rg Tryz.f44 11) false) (.cond (.tmp 43) (.skip) (.exit 2))) (.seq (.block 3 (.seq (.region 13 (rg Tryz.f44 13) true) (.cond (.tmp 56) (.seq (.region 14 (rg Tryz.f44 14) false) (.ret)) (.skip)))) (.region 12 (rg Tryz.f44 12) false))))))))) (.region 5 (rg Tryz.f44 5) false)))))) (.seq (.region 15 (rg Tryz.f44 15) false) (.ret))))) := by kernel_rfl
set_option maxRecDepth 100000 in
set_option maxHeartbeats 8000000 in
theorem RCheck_c (l : List RuleV) : Pure Tryz.prog 44 [tc (slP l)] (vc (i6 (checkP l))) := by
 refine Pure.of_body Tryz.func44 f44_body (by kernel_rfl) Tryz.ntmps44 (by kernel_rfl) (by kernel_rfl) ?_
 refine AMx.sl 0 (l := l) rfl (fun hl => ?_)
 simp only [maxLen] at hl
 refine gS [] [] 57 [(0, vc (slP l))] [] trivial ?_
 refine gQ ?_
 refine gS [] [] 57 [(0, vc (slP l)), (7, vc (bo (decide (4 < (List.length l : Int)))))] [] trivial ?_
 refine gC (4 < (List.length l : Int)) (fun hc1 => ?_) fun hc1 => ?_
 ·
  refine gS [] [] 57 [(2, vc (i6 24))] [] trivial ?_
  exact gT (vc (i6 24)) (by rw [show checkP l = 24 from by first | exact chk_many (by omega) | exact chk_end (by omega) (by omega) hN | (have he : 24 = oneC (List.take i l) (List.getD l i ([], 0)) := (by unfold oneC; first | grind | (rw [there_hit (j := j) (by omega) (by omega) (by assumption)]; grind)); rw [he]; exact (chk_bad (by omega) (by omega) hN (by rw [← he]; first | assumption | grind | decide)))])
 ·
  refine AMx.skip ?_
  refine gQ ?_
  refine gS [] [] 57 [(0, vc (slP l)), (3, vc (i6 0))] [] trivial ?_
  refine AMx.block ?_
  refine AMx.ent (s' := AS.lst 57 [(0, vc (slP l)), (3, vc (i6 0))] []) (ent_proj [0, 3] []) ?_
  refine AMx.loop (fun mm ss => ∃ (i : Nat), (i ≤ l.length ∧ ChkAt l i) ∧ mm = l.length - i ∧ ss = AS.lst 57 [(0, vc (slP l)), (3, vc (i6 (i : Int)))] []) ⟨0, ?_, rfl, ?_⟩ ?_
  · exact ⟨Nat.zero_le _, chk_0 l⟩
  · rfl
  rintro mm ss ⟨i, ⟨hI, hN⟩, rfl, rfl⟩
  refine gQ ?_
  refine gS [] [] 57 [(0, vc (slP l)), (3, vc (i6 (i : Int))), (11, vc (bo (decide ((i : Int) < (List.length l : Int)))))] [] trivial ?_
  refine gC ((i : Int) < (List.length l : Int)) (fun hc2 => ?_) fun hc2 => ?_
  ·
   refine AMx.skip ?_
   refine gQ ?_
   refine AMx.block ?_
   refine gQ ?_
   refine gS [(12, CE.call [] [] (vc (i6 (Route.checkS ((List.getD l i ([], 0)).1)))) [])] [(0 : Int) ≤ (i : Int), (i : Int) < List.length l, ((!decide ((List.getD l i ([], 0)).1 = [])) = true) → allP [(!decide ((List.getD l i ([], 0)).1 = [])) = true, (!decide ((List.getD l i ([], 0)).1 = [])) = true, (0 : Int) ≤ (i : Int), (i : Int) < List.length l], ((!decide ((List.getD l i ([], 0)).1 = [])) = true) → allP [(!decide ((List.getD l i ([], 0)).1 = [])) = true], ((!decide ((List.getD l i ([], 0)).1 = [])) = true) → allP [(!decide ((List.getD l i ([], 0)).1 = [])) = true], ((!decide ((List.getD l i ([], 0)).1 = [])) = true) → allP [(!decide ((List.getD l i ([], 0)).1 = [])) = true, Spec Tryz.prog 74 [tc (st ((List.getD l i ([], 0)).1))] (ofH []) (vc (i6 (Route.checkS ((List.getD l i ([], 0)).1)))) (ofH [])], ((!decide ((List.getD l i ([], 0)).1 = [])) = true) → allP [(!decide ((List.getD l i ([], 0)).1 = [])) = true], (!decide ((List.getD l i ([], 0)).1 = [])) = true → allP [(!decide ((List.getD l i ([], 0)).1 = [])) = true]] 57 [(0, vc (slP l)), (3, vc (i6 (i : Int))), (28, vc (bo ((!decide ((List.getD l i ([], 0)).1 = [])) && (!decide (Route.checkS ((List.getD l i ([], 0)).1) = 0)))))] [] ⟨(by omega), (by omega), (fun hp => by have hq := hp; (try simp only [xT, xF, xA, xO, xB, xP, xN, xM, Bool.not_eq_true, Bool.not_eq_false] at hq); exact ⟨hp, hp, (by omega), (show (i : Int) < List.length l from (by omega))⟩), (fun hp => hp), (fun hp => hp), (fun hp => by have hq := hp; (try simp only [xT, xF, xA, xO, xB, xP, xN, xM, Bool.not_eq_true, Bool.not_eq_false] at hq); exact ⟨hp, (Route.RCheck_c ((List.getD l i ([], 0)).1))⟩), (fun hp => hp), (fun hp2 => (by first | exact hp2 | exact ⟨hp, hp2⟩))⟩ ?_
   refine gB (((!decide ((List.getD l i ([], 0)).1 = [])) && (!decide (Route.checkS ((List.getD l i ([], 0)).1) = 0)))) (fun hc3 => ?_) fun hc3 => ?_
   ·
    try simp only [xT, xF, xA, xB, xN, xM] at hc3
    refine gS [(5, CE.call [] [] (vc (i6 (Route.checkS ((List.getD l i ([], 0)).1)))) [])] [(0 : Int) ≤ (i : Int), (i : Int) < List.length l, Spec Tryz.prog 74 [tc (st ((List.getD l i ([], 0)).1))] (ofH []) (vc (i6 (Route.checkS ((List.getD l i ([], 0)).1)))) (ofH [])] 57 [(2, vc (i6 (Route.checkS ((List.getD l i ([], 0)).1))))] [] ⟨(by omega), (by omega), (Route.RCheck_c ((List.getD l i ([], 0)).1))⟩ ?_
    exact gT (vc (i6 (Route.checkS ((List.getD l i ([], 0)).1)))) (by rw [show checkP l = Route.checkS ((List.getD l i ([], 0)).1) from by first | exact chk_many (by omega) | exact chk_end (by omega) (by omega) hN | (have he : Route.checkS ((List.getD l i ([], 0)).1) = oneC (List.take i l) (List.getD l i ([], 0)) := (by unfold oneC; first | grind | (rw [there_hit (j := j) (by omega) (by omega) (by assumption)]; grind)); rw [he]; exact (chk_bad (by omega) (by omega) hN (by rw [← he]; first | assumption | grind | decide)))])
   ·
    try simp only [xT, xF, xA, xB, xN, xM] at hc3
    refine AMx.skip ?_
    refine gQ ?_
    refine gS [] [(0 : Int) ≤ (i : Int), (i : Int) < List.length l] 57 [(0, vc (slP l)), (3, vc (i6 (i : Int))), (40, vc (bo (decide (63 < (List.getD l i ([], 0)).2))))] [] ⟨(by omega), (show (i : Int) < List.length l from (by omega))⟩ ?_
    refine gC (63 < (List.getD l i ([], 0)).2) (fun hc4 => ?_) fun hc4 => ?_
    ·
     refine gS [] [] 57 [(2, vc (i6 2))] [] trivial ?_
     exact gT (vc (i6 2)) (by rw [show checkP l = 2 from by first | exact chk_many (by omega) | exact chk_end (by omega) (by omega) hN | (have he : 2 = oneC (List.take i l) (List.getD l i ([], 0)) := (by unfold oneC; first | grind | (rw [there_hit (j := j) (by omega) (by omega) (by assumption)]; grind)); rw [he]; exact (chk_bad (by omega) (by omega) hN (by rw [← he]; first | assumption | grind | decide)))])
    ·
     refine AMx.skip ?_
     refine gS [] [] 57 [(0, vc (slP l)), (3, vc (i6 (i : Int))), (4, vc (i6 0))] [] trivial ?_
     refine AMx.block ?_
     refine AMx.ent (s' := AS.lst 57 [(0, vc (slP l)), (3, vc (i6 (i : Int))), (4, vc (i6 0))] []) (ent_proj [0, 3, 4] []) ?_
     refine AMx.loop (fun mm ss => ∃ (j : Nat), (j ≤ i ∧ thereS (List.take j l) (List.getD l i ([], 0)).1 = false) ∧ mm = i - j ∧ ss = AS.lst 57 [(0, vc (slP l)), (3, vc (i6 (i : Int))), (4, vc (i6 (j : Int)))] []) ⟨0, ?_, rfl, ?_⟩ ?_
     · exact ⟨Nat.zero_le _, rfl⟩
     · rfl
     rintro mm ss ⟨j, ⟨hJ, hT⟩, rfl, rfl⟩
     refine gQ ?_
     refine gS [] [] 57 [(0, vc (slP l)), (3, vc (i6 (i : Int))), (4, vc (i6 (j : Int))), (43, vc (bo (decide ((j : Int) < (i : Int)))))] [] trivial ?_
     refine gC ((j : Int) < (i : Int)) (fun hc5 => ?_) fun hc5 => ?_
     ·
      refine AMx.skip ?_
      refine gQ ?_
      refine AMx.block ?_
      refine gY [] [] [(0 : Int) ≤ (j : Int), (j : Int) < List.length l, (0 : Int) ≤ (i : Int), (i : Int) < List.length l] 57 [(0, vc (slP l)), (3, vc (i6 (i : Int))), (4, vc (i6 (j : Int))), (56, vc (bo (decide ((List.getD l j ([], 0)).1 = (List.getD l i ([], 0)).1))))] [] mixed ⟨(by omega), (by omega), (by omega), (show (i : Int) < List.length l from (by omega))⟩ ?_
      refine gC ((List.getD l j ([], 0)).1 = (List.getD l i ([], 0)).1) (fun hc6 => ?_) fun hc6 => ?_
      ·
       refine gS [] [] 57 [(2, vc (i6 20))] [] trivial ?_
       exact gT (vc (i6 20)) (by rw [show checkP l = 20 from by first | exact chk_many (by omega) | exact chk_end (by omega) (by omega) hN | (have he : 20 = oneC (List.take i l) (List.getD l i ([], 0)) := (by unfold oneC; first | grind | (rw [there_hit (j := j) (by omega) (by omega) (by assumption)]; grind)); rw [he]; exact (chk_bad (by omega) (by omega) hN (by rw [← he]; first | assumption | grind | decide)))])
      ·
       refine AMx.skip ?_
       refine AMx.blk ?_
       refine gR [] [InR .i64 ((j : Int) + 1)] 57 [(0, vc (slP l)), (3, vc (i6 (i : Int))), (4, vc (i6 ((j : Int) + 1)))] [] (show InR .i64 ((j : Int) + 1) from (inR64 (by omega) (by omega))) ?_
       refine AMx.ent_inv (s' := AS.lst 57 [(0, vc (slP l)), (3, vc (i6 (i : Int))), (4, vc (i6 ((j : Int) + 1)))] []) (ent_proj [0, 3, 4] []) ?_
       refine AMx.inv ⟨_, ?_, j + 1, ?_, rfl, ?_⟩
       rotate_left
       · exact ⟨by omega, there_step (by omega) hT (by assumption)⟩
       · rfl
       · omega
     ·
      refine AMx.exit ?_
      refine AMx.code_exit ?_
      refine AMx.inv_exit ?_
      refine AMx.blk_exit ?_
      refine AMx.blk ?_
      refine gR [] [InR .i64 ((i : Int) + 1)] 57 [(0, vc (slP l)), (3, vc (i6 ((i : Int) + 1)))] [] (show InR .i64 ((i : Int) + 1) from (inR64 (by omega) (by omega))) ?_
      refine AMx.ent_inv (s' := AS.lst 57 [(0, vc (slP l)), (3, vc (i6 ((i : Int) + 1)))] []) (ent_proj [0, 3] []) ?_
      refine AMx.inv ⟨_, ?_, i + 1, ?_, rfl, ?_⟩
      rotate_left
      · exact ⟨by omega, chk_step (by omega) hN (by have hf : thereS (List.take i l) (List.getD l i ([], 0)).1 = false := (by rw [show i = j by omega] at hT ⊢; exact hT); unfold oneC; rw [hf]; grind)⟩
      · rfl
      · omega
  ·
   refine AMx.exit ?_
   refine AMx.code_exit ?_
   refine AMx.inv_exit ?_
   refine AMx.blk_exit ?_
   refine gS [] [] 57 [(2, vc (i6 0))] [] trivial ?_
   exact gT (vc (i6 0)) (by rw [show checkP l = 0 from by first | exact chk_many (by omega) | exact chk_end (by omega) (by omega) hN | (have he : 0 = oneC (List.take i l) (List.getD l i ([], 0)) := (by unfold oneC; first | grind | (rw [there_hit (j := j) (by omega) (by omega) (by assumption)]; grind)); rw [he]; exact (chk_bad (by omega) (by omega) hN (by rw [← he]; first | assumption | grind | decide)))])
end AL.Policy
namespace AL.Policy
open Go Go.Proofs AL AL.Rune
set_option linter.unusedVariables false
set_option linter.unusedSimpArgs false
theorem f84_body : Tryz.f84.body = some (.seq (.region 0 (rg Tryz.f84 0) false) (.seq (.region 1 (rg Tryz.f84 1) false) (.seq (.seq (.region 2 (rg Tryz.f84 2) false) (.block 0 (.loop (.seq (.region 3 (rg Tryz.f84 3) false) (.seq (.cond (.tmp 12) (.skip) (.exit 0)) (.seq (.block 1 (.seq (.region 4 (rg Tryz.f84 4) false) (.region 5 (rg Tryz.f84 5) false))) (.region 6 (rg Tryz.f84 6) false))))))) (.seq (.region 7 (rg Tryz.f84 7) false) (.ret))))) := by kernel_rfl
set_option maxRecDepth 100000 in
set_option maxHeartbeats 8000000 in
theorem prefixes_c (l : List RuleV) (hl : l.length ≤ 100000) : Pure Tryz.prog 84 [tc (slP l)] (vc (AL.Fnv.slS (prefS l))) := by
 refine Pure.of_body Tryz.func84 f84_body (by kernel_rfl) Tryz.ntmps84 (by kernel_rfl) (by kernel_rfl) ?_
 refine gS [] [] 23 [(0, vc (slP l))] [] trivial ?_
 refine gS [(2, CE.obj (AObj.grow 9 1 Bytes [] AL.Fnv.rowS (List.replicate (List.length l) [])))] [0 ≤ (List.length l : Int), (List.length l : Int) ≤ (List.length l : Int), (16 : Int) * (List.length l : Int) ≤ 281474976710656, (List.length l : Int) ≤ 9223372036854775807, MakeC (List.length l) [.s (st [])] (AObj.grow 9 1 Bytes [] AL.Fnv.rowS (List.replicate (List.length l) []))] 23 [(0, vc (slP l)), (3, vo 8)] [(8, AObj.grow 9 1 Bytes [] AL.Fnv.rowS (List.replicate (List.length l) []))] ⟨(by omega), (by omega), (by omega), (by omega), (⟨_, rfl, rfl⟩)⟩ ?_
 refine gQ ?_
 refine gS [] [] 23 [(3, vo 8), (9, vc (slP l)), (10, vc (i6 (List.length l : Int))), (11, vc (i6 0))] [(8, AObj.grow 9 1 Bytes [] AL.Fnv.rowS (List.replicate (List.length l) []))] trivial ?_
 refine AMx.block ?_
 refine AMx.ent (s' := AS.lst 23 [(3, vo 8), (9, vc (slP l)), (10, vc (i6 (List.length l : Int))), (11, vc (i6 0))] [(8, AObj.grow 9 1 Bytes [] AL.Fnv.rowS (List.replicate (List.length l) []))]) (ent_proj [3, 9, 10, 11] [8]) ?_
 refine AMx.loop (fun mm ss => ∃ (k : Nat), (k ≤ l.length) ∧ mm = l.length - k ∧ ss = AS.lst 23 [(3, vo 8), (9, vc (slP l)), (10, vc (i6 (List.length l : Int))), (11, vc (i6 (k : Int)))] [(8, AObj.grow 9 1 Bytes [] AL.Fnv.rowS (prefS (List.take k l) ++ List.replicate (l.length - k) []))]) ⟨0, ?_, rfl, ?_⟩ ?_
 · omega
 · rfl
 rintro mm ss ⟨k, hI, rfl, rfl⟩
 refine gS [] [] 23 [(3, vo 8), (9, vc (slP l)), (10, vc (i6 (List.length l : Int))), (11, vc (i6 (k : Int))), (12, vc (bo (decide ((k : Int) < (List.length l : Int)))))] [(8, AObj.grow 9 1 Bytes [] AL.Fnv.rowS (prefS (List.take k l) ++ List.replicate (l.length - k) []))] trivial ?_
 refine gQ ?_
 refine gC ((k : Int) < (List.length l : Int)) (fun hc1 => ?_) fun hc1 => ?_
 ·
  refine AMx.skip ?_
  refine gQ ?_
  refine AMx.block ?_
  refine gS [] [(0 : Int) ≤ (k : Int), (k : Int) < List.length l] 23 [(3, vo 8), (4, vc (i6 (k : Int))), (5, vp 5 0), (9, vc (slP l)), (10, vc (i6 (List.length l : Int))), (11, vc (i6 (k : Int)))] [(5, AObj.row [.s (st ((List.getD l k ([], 0)).1)), .s (u8 ((List.getD l k ([], 0)).2))]), (8, AObj.grow 9 1 Bytes [] AL.Fnv.rowS (prefS (List.take k l) ++ List.replicate (l.length - k) []))] ⟨(by omega), (show (k : Int) < List.length l from (by omega))⟩ ?_
  refine gR [(5, CE.obj (AObj.grow 9 1 Bytes [] AL.Fnv.rowS (List.set (prefS (List.take k l) ++ List.replicate (l.length - k) []) k ((List.getD l k ([], 0)).1))))] [(0 : Int) ≤ (k : Int), (k : Int) < List.length (prefS (List.take k l) ++ List.replicate (l.length - k) [] : List Bytes), StoreC k 0 [.s (st ((List.getD l k ([], 0)).1))] (AObj.grow 9 1 Bytes [] AL.Fnv.rowS (prefS (List.take k l) ++ List.replicate (l.length - k) [])) (AObj.grow 9 1 Bytes [] AL.Fnv.rowS (List.set (prefS (List.take k l) ++ List.replicate (l.length - k) []) k ((List.getD l k ([], 0)).1)))] 23 [(3, vo 8), (9, vc (slP l)), (10, vc (i6 (List.length l : Int))), (11, vc (i6 (k : Int)))] [(8, AObj.grow 9 1 Bytes [] AL.Fnv.rowS (List.set (prefS (List.take k l) ++ List.replicate (l.length - k) []) k ((List.getD l k ([], 0)).1)))] ⟨(by omega), (by first | omega | (simp only [List.length_append, List.length_replicate, pref_len, List.length_take]; omega)), (⟨(List.getD l k ([], 0)).1, rfl, by first | omega | (simp only [List.length_append, List.length_replicate, pref_len, List.length_take]; omega), rfl⟩)⟩ ?_
  refine AMx.blk ?_
  refine gR [] [InR .i64 ((k : Int) + 1)] 23 [(3, vo 8), (9, vc (slP l)), (10, vc (i6 (List.length l : Int))), (11, vc (i6 ((k : Int) + 1)))] [(8, AObj.grow 9 1 Bytes [] AL.Fnv.rowS (List.set (prefS (List.take k l) ++ List.replicate (l.length - k) []) k ((List.getD l k ([], 0)).1)))] (show InR .i64 ((k : Int) + 1) from (inR64 (by omega) (by omega))) ?_
  refine AMx.ent_inv (s' := AS.lst 23 [(3, vo 8), (9, vc (slP l)), (10, vc (i6 (List.length l : Int))), (11, vc (i6 ((k : Int) + 1)))] [(8, AObj.grow 9 1 Bytes [] AL.Fnv.rowS (List.set (prefS (List.take k l) ++ List.replicate (l.length - k) []) k ((List.getD l k ([], 0)).1)))]) (ent_proj [3, 9, 10, 11] [8]) ?_
  refine AMx.inv ⟨_, ?_, k + 1, ?_, rfl, ?_⟩
  rotate_left
  · omega
  · rw [pref_step l k (by omega)]; rfl
  · omega
 ·
  refine AMx.exit ?_
  refine AMx.code_exit ?_
  refine AMx.inv_exit ?_
  refine AMx.blk_exit ?_
  refine gS [] [] 23 [(2, vo 8)] [(8, AObj.grow 9 1 Bytes [] AL.Fnv.rowS (prefS (List.take k l) ++ List.replicate (l.length - k) []))] trivial ?_
  refine AMx.ent (s' := AS.lst 23 [(2, vc (AL.Fnv.slS (prefS (List.take k l) ++ List.replicate (l.length - k) [])))] []) (ent_freeze (id := 8) (T := 9) (by kernel_rfl)) ?_
  exact gT (vc (AL.Fnv.slS (prefS (List.take k l) ++ List.replicate (l.length - k) []))) (by rw [pref_end l k (by omega)])
theorem f56_body : Tryz.f56.body = some (.seq (.region 0 (rg Tryz.f56 0) false) (.seq (.region 1 (rg Tryz.f56 1) false) (.seq (.seq (.region 2 (rg Tryz.f56 2) false) (.cond (.tmp 11) (.seq (.region 3 (rg Tryz.f56 3) false) (.ret)) (.skip))) (.seq (.region 4 (rg Tryz.f56 4) false) (.ret))))) := by kernel_rfl
set_option maxRecDepth 100000 in
set_option maxHeartbeats 8000000 in
theorem Caps_c (l : List RuleV) (path : Bytes) (hl : l.length ≤ 100000) : Pure Tryz.prog 56 [tc (slP l), tc (st path)] (vc (u8 (capsP l path))) := by
 refine Pure.of_body Tryz.func56 f56_body (by kernel_rfl) Tryz.ntmps56 (by kernel_rfl) (by kernel_rfl) ?_
 have hr := longest_rng path l
 refine gS [] [] 17 [(0, vc (slP l)), (1, vc (st path))] [] trivial ?_
 refine gS [(2, CE.call [] [] (vc (AL.Fnv.slS (prefS l))) []), (3, CE.call [] [] (vc (i6 (Under.longestS path (prefS l)))) [])] [Spec Tryz.prog 84 [tc (slP l)] (ofH []) (vc (AL.Fnv.slS (prefS l))) (ofH []), Spec Tryz.prog 83 [tc (st path), tc (AL.Fnv.slS (prefS l))] (ofH []) (vc (i6 (Under.longestS path (prefS l)))) (ofH [])] 17 [(0, vc (slP l)), (5, vc (i6 (Under.longestS path (prefS l))))] [] ⟨(prefixes_c l (by omega)), (Under.Longest_c path (prefS l))⟩ ?_
 refine gQ ?_
 refine gS [] [] 17 [(0, vc (slP l)), (5, vc (i6 (Under.longestS path (prefS l)))), (11, vc (bo (decide (Under.longestS path (prefS l) < 0))))] [] trivial ?_
 refine gC (Under.longestS path (prefS l) < 0) (fun hc1 => ?_) fun hc1 => ?_
 ·
  refine gS [] [] 17 [(4, vc (u8 0))] [] trivial ?_
  exact gT (vc (u8 0)) (by rw [show capsP l path = 0 from by unfold capsP; first | rw [if_pos (by omega)] | rw [if_neg (by omega)]])
 ·
  refine AMx.skip ?_
  refine gS [] [(0 : Int) ≤ Under.longestS path (prefS l), Under.longestS path (prefS l) < List.length l] 17 [(4, vc (u8 ((List.getD l (Under.longestS path (prefS l)).toNat ([], 0)).2)))] [] ⟨(by omega), (show Under.longestS path (prefS l) < List.length l from (by omega))⟩ ?_
  exact gT (vc (u8 ((List.getD l (Under.longestS path (prefS l)).toNat ([], 0)).2))) (by rw [show capsP l path = (List.getD l (Under.longestS path (prefS l)).toNat ([], 0)).2 from by unfold capsP; first | rw [if_pos (by omega)] | rw [if_neg (by omega)]])
theorem f57_body : Tryz.f57.body = some (.seq (.region 0 (rg Tryz.f57 0) false) (.seq (.region 1 (rg Tryz.f57 1) false) (.seq (.seq (.region 2 (rg Tryz.f57 2) false) (.block 0 (.loop (.seq (.seq (.region 3 (rg Tryz.f57 3) false) (.cond (.tmp 10) (.skip) (.exit 0))) (.seq (.block 1 (.seq (.region 5 (rg Tryz.f57 5) true) (.cond (.tmp 38) (.region 6 (rg Tryz.f57 6) false) (.skip)))) (.region 4 (rg Tryz.f57 4) false)))))) (.seq (.seq (.region 7 (rg Tryz.f57 7) false) (.cond (.tmp 41) (.seq (.region 8 (rg Tryz.f57 8) false) (.ret)) (.skip))) (.seq (.region 9 (rg Tryz.f57 9) false) (.ret)))))) := by kernel_rfl
set_option maxRecDepth 100000 in
set_option maxHeartbeats 8000000 in
theorem RCaps_c (l : List RuleV) (path : Bytes) (hb : ∀ x ∈ l, x.1.length ≤ 100000) : Pure Tryz.prog 57 [tc (slP l), tc (st path)] (vc (u8 (capsP l path))) := by
 refine Pure.of_body Tryz.func57 f57_body (by kernel_rfl) Tryz.ntmps57 (by kernel_rfl) (by kernel_rfl) ?_
 refine AMx.sl 0 (l := l) rfl (fun hl => ?_)
 simp only [maxLen] at hl
 refine gS [] [] 47 [(0, vc (slP l)), (1, vc (st path))] [] trivial ?_
 refine gS [] [] 47 [(0, vc (slP l)), (1, vc (st path)), (5, vc (i6 (-1)))] [] trivial ?_
 refine gQ ?_
 refine gS [] [] 47 [(0, vc (slP l)), (1, vc (st path)), (5, vc (i6 (-1))), (6, vc (i6 0))] [] trivial ?_
 refine AMx.block ?_
 refine AMx.ent (s' := AS.lst 47 [(0, vc (slP l)), (1, vc (st path)), (5, vc (i6 (-1))), (6, vc (i6 0))] []) (ent_proj [0, 1, 5, 6] []) ?_
 refine AMx.loop (fun mm ss => ∃ (i : Nat), (i ≤ l.length) ∧ mm = l.length - i ∧ ss = AS.lst 47 [(0, vc (slP l)), (1, vc (st path)), (5, vc (i6 (Under.longS path (prefS l) i))), (6, vc (i6 (i : Int)))] []) ⟨0, ?_, rfl, ?_⟩ ?_
 · omega
 · rfl
 rintro mm ss ⟨i, hI, rfl, rfl⟩
 refine gQ ?_
 refine gS [] [] 47 [(0, vc (slP l)), (1, vc (st path)), (5, vc (i6 (Under.longS path (prefS l) i))), (6, vc (i6 (i : Int))), (10, vc (bo (decide ((i : Int) < (List.length l : Int)))))] [] trivial ?_
 refine gC ((i : Int) < (List.length l : Int)) (fun hc1 => ?_) fun hc1 => ?_
 ·
  refine AMx.skip ?_
  refine gQ ?_
  refine AMx.block ?_
  refine gY [(6, CE.call [] [] (vc (bo (Under.withinS path ((List.getD l i ([], 0)).1)))) [])] [] [(0 : Int) ≤ (i : Int), (i : Int) < List.length l, Spec Tryz.prog 85 [tc (st path), tc (st ((List.getD l i ([], 0)).1))] (ofH []) (vc (bo (Under.withinS path ((List.getD l i ([], 0)).1)))) (ofH []), ((Under.withinS path ((List.getD l i ([], 0)).1)) = true) → allP [(Under.withinS path ((List.getD l i ([], 0)).1)) = true], ((Under.withinS path ((List.getD l i ([], 0)).1)) = true) → allP [(Under.withinS path ((List.getD l i ([], 0)).1)) = true], (((Under.withinS path ((List.getD l i ([], 0)).1)) = true) ∧ (decide (Under.longS path (prefS l) i < 0)) = false) → allP [((Under.withinS path ((List.getD l i ([], 0)).1)) = true) ∧ (decide (Under.longS path (prefS l) i < 0)) = false, ((Under.withinS path ((List.getD l i ([], 0)).1)) = true) ∧ (decide (Under.longS path (prefS l) i < 0)) = false, (0 : Int) ≤ (i : Int), (i : Int) < List.length l], (((Under.withinS path ((List.getD l i ([], 0)).1)) = true) ∧ (decide (Under.longS path (prefS l) i < 0)) = false) → allP [((Under.withinS path ((List.getD l i ([], 0)).1)) = true) ∧ (decide (Under.longS path (prefS l) i < 0)) = false], (((Under.withinS path ((List.getD l i ([], 0)).1)) = true) ∧ (decide (Under.longS path (prefS l) i < 0)) = false) → allP [((Under.withinS path ((List.getD l i ([], 0)).1)) = true) ∧ (decide (Under.longS path (prefS l) i < 0)) = false], (((Under.withinS path ((List.getD l i ([], 0)).1)) = true) ∧ (decide (Under.longS path (prefS l) i < 0)) = false) → allP [((Under.withinS path ((List.getD l i ([], 0)).1)) = true) ∧ (decide (Under.longS path (prefS l) i < 0)) = false], (((Under.withinS path ((List.getD l i ([], 0)).1)) = true) ∧ (decide (Under.longS path (prefS l) i < 0)) = false) → allP [((Under.withinS path ((List.getD l i ([], 0)).1)) = true) ∧ (decide (Under.longS path (prefS l) i < 0)) = false, ((Under.withinS path ((List.getD l i ([], 0)).1)) = true) ∧ (decide (Under.longS path (prefS l) i < 0)) = false, (0 : Int) ≤ Under.longS path (prefS l) i, Under.longS path (prefS l) i < List.length l], (((Under.withinS path ((List.getD l i ([], 0)).1)) = true) ∧ (decide (Under.longS path (prefS l) i < 0)) = false) → allP [((Under.withinS path ((List.getD l i ([], 0)).1)) = true) ∧ (decide (Under.longS path (prefS l) i < 0)) = false], (((Under.withinS path ((List.getD l i ([], 0)).1)) = true) ∧ (decide (Under.longS path (prefS l) i < 0)) = false) → allP [((Under.withinS path ((List.getD l i ([], 0)).1)) = true) ∧ (decide (Under.longS path (prefS l) i < 0)) = false], (((Under.withinS path ((List.getD l i ([], 0)).1)) = true) ∧ (decide (Under.longS path (prefS l) i < 0)) = false) → allP [((Under.withinS path ((List.getD l i ([], 0)).1)) = true) ∧ (decide (Under.longS path (prefS l) i < 0)) = false], (((Under.withinS path ((List.getD l i ([], 0)).1)) = true) ∧ (decide (Under.longS path (prefS l) i < 0)) = false) → allP [((Under.withinS path ((List.getD l i ([], 0)).1)) = true) ∧ (decide (Under.longS path (prefS l) i < 0)) = false, ((Under.withinS path ((List.getD l i ([], 0)).1)) = true) ∧ (decide (Under.longS path (prefS l) i < 0)) = false], ((Under.withinS path ((List.getD l i ([], 0)).1)) = true) → allP [(Under.withinS path ((List.getD l i ([], 0)).1)) = true, (decide (Under.longS path (prefS l) i < 0)) = false → allP [((Under.withinS path ((List.getD l i ([], 0)).1)) = true) ∧ (decide (Under.longS path (prefS l) i < 0)) = false]], (Under.withinS path ((List.getD l i ([], 0)).1)) = true → allP [(Under.withinS path ((List.getD l i ([], 0)).1)) = true]] 47 [(0, vc (slP l)), (1, vc (st path)), (5, vc (i6 (Under.longS path (prefS l) i))), (6, vc (i6 (i : Int))), (38, vc (bo ((Under.withinS path ((List.getD l i ([], 0)).1)) && ((decide (Under.longS path (prefS l) i < 0)) || (decide ((List.length ((List.getD l (Under.longS path (prefS l) i).toNat ([], 0)).1 : List UInt8) : Int) < (List.length ((List.getD l i ([], 0)).1 : List UInt8) : Int)))))))] [] mixed ⟨(by omega), (by omega), (Under.RWithin_c path ((List.getD l i ([], 0)).1) (by first | omega | exact hb _ (Lib.getD_mem ([], 0) l i (by omega)) | (have hz := Under.long_lt path (prefS l) i; omega))), (fun hp => hp), (fun hp => hp), (fun hp => by have hq := hp; (try simp only [xT, xF, xA, xO, xB, xP, xN, xM, Bool.not_eq_true, Bool.not_eq_false] at hq); exact ⟨hp, hp, (by omega), (show (i : Int) < List.length l from (by omega))⟩), (fun hp => hp), (fun hp => hp), (fun hp => hp), (fun hp => by have hq := hp; (try simp only [xT, xF, xA, xO, xB, xP, xN, xM, Bool.not_eq_true, Bool.not_eq_false] at hq); exact ⟨hp, hp, (by omega), (show Under.longS path (prefS l) i < List.length l from (by first | omega | exact hb _ (Lib.getD_mem ([], 0) l i (by omega)) | (have hz := Under.long_lt path (prefS l) i; omega)))⟩), (fun hp => hp), (fun hp => hp), (fun hp => hp), (fun hp => ⟨hp, hp⟩), (fun hp => by have hq := hp; (try simp only [xT, xF, xA, xO, xB, xP, xN, xM, Bool.not_eq_true, Bool.not_eq_false] at hq); exact ⟨hp, (fun hp2 => (by first | exact hp2 | exact ⟨hp, hp2⟩))⟩), (fun hp2 => (by first | exact hp2 | exact ⟨hp, hp2⟩))⟩ ?_
  refine gB (((Under.withinS path ((List.getD l i ([], 0)).1)) && ((decide (Under.longS path (prefS l) i < 0)) || (decide ((List.length ((List.getD l (Under.longS path (prefS l) i).toNat ([], 0)).1 : List UInt8) : Int) < (List.length ((List.getD l i ([], 0)).1 : List UInt8) : Int)))))) (fun hc2 => ?_) fun hc2 => ?_
  ·
   try simp only [xT, xF, xA, xB, xO, xP] at hc2
   refine gR [] [] 47 [(0, vc (slP l)), (1, vc (st path)), (5, vc (i6 (i : Int))), (6, vc (i6 (i : Int)))] [] trivial ?_
   refine AMx.blk ?_
   refine gR [] [InR .i64 ((i : Int) + 1)] 47 [(0, vc (slP l)), (1, vc (st path)), (5, vc (i6 (i : Int))), (6, vc (i6 ((i : Int) + 1)))] [] (show InR .i64 ((i : Int) + 1) from (inR64 (by omega) (by omega))) ?_
   refine AMx.ent_inv (s' := AS.lst 47 [(0, vc (slP l)), (1, vc (st path)), (5, vc (i6 (i : Int))), (6, vc (i6 ((i : Int) + 1)))] []) (ent_proj [0, 1, 5, 6] []) ?_
   refine AMx.inv ⟨_, ?_, i + 1, ?_, rfl, ?_⟩
   rotate_left
   · omega
   · rw [longP_t hc2]; rfl
   · omega
  ·
   try simp only [xT, xF, xA, xB, xO, xP] at hc2
   refine AMx.skip ?_
   refine AMx.blk ?_
   refine gR [] [InR .i64 ((i : Int) + 1)] 47 [(0, vc (slP l)), (1, vc (st path)), (5, vc (i6 (Under.longS path (prefS l) i))), (6, vc (i6 ((i : Int) + 1)))] [] (show InR .i64 ((i : Int) + 1) from (inR64 (by omega) (by omega))) ?_
   refine AMx.ent_inv (s' := AS.lst 47 [(0, vc (slP l)), (1, vc (st path)), (5, vc (i6 (Under.longS path (prefS l) i))), (6, vc (i6 ((i : Int) + 1)))] []) (ent_proj [0, 1, 5, 6] []) ?_
   refine AMx.inv ⟨_, ?_, i + 1, ?_, rfl, ?_⟩
   rotate_left
   · omega
   · rw [longP_f hc2]; rfl
   · omega
 ·
  refine AMx.exit ?_
  refine AMx.code_exit ?_
  refine AMx.inv_exit ?_
  refine AMx.blk_exit ?_
  refine gQ ?_
  refine gS [] [] 47 [(0, vc (slP l)), (5, vc (i6 (Under.longS path (prefS l) i))), (41, vc (bo (decide (Under.longS path (prefS l) i < 0))))] [] trivial ?_
  refine gC (Under.longS path (prefS l) i < 0) (fun hc3 => ?_) fun hc3 => ?_
  ·
   refine gS [] [] 47 [(4, vc (u8 0))] [] trivial ?_
   exact gT (vc (u8 0)) (by rw [show capsP l path = 0 from by rw [capsP_ref l path (i := i) (by omega) (by omega)]; first | rw [if_pos (by omega)] | rw [if_neg (by omega)]])
  ·
   refine AMx.skip ?_
   refine gS [] [(0 : Int) ≤ Under.longS path (prefS l) i, Under.longS path (prefS l) i < List.length l] 47 [(4, vc (u8 ((List.getD l (Under.longS path (prefS l) i).toNat ([], 0)).2)))] [] ⟨(by omega), (show Under.longS path (prefS l) i < List.length l from (by first | omega | exact hb _ (Lib.getD_mem ([], 0) l i (by omega)) | (have hz := Under.long_lt path (prefS l) i; omega)))⟩ ?_
   exact gT (vc (u8 ((List.getD l (Under.longS path (prefS l) i).toNat ([], 0)).2))) (by rw [show capsP l path = (List.getD l (Under.longS path (prefS l) i).toNat ([], 0)).2 from by rw [capsP_ref l path (i := i) (by omega) (by omega)]; first | rw [if_pos (by omega)] | rw [if_neg (by omega)]])
theorem f59_body : Tryz.f59.body = some (.seq (.region 0 (rg Tryz.f59 0) false) (.seq (.region 1 (rg Tryz.f59 1) false) (.ret))) := by kernel_rfl
set_option maxRecDepth 100000 in
set_option maxHeartbeats 8000000 in
theorem Allows_c (l : List RuleV) (path : Bytes) (caps : Int) (hl : l.length ≤ 100000) : Pure Tryz.prog 59 [tc (slP l), tc (st path), tc (u8 caps)] (vc (bo (allowsS l path caps))) := by
 refine Pure.of_body Tryz.func59 f59_body (by kernel_rfl) Tryz.ntmps59 (by kernel_rfl) (by kernel_rfl) ?_
 refine gS [] [] 13 [(0, vc (slP l)), (1, vc (st path)), (2, vc (u8 caps))] [] trivial ?_
 refine gS [(3, CE.call [] [] (vc (u8 (capsP l path))) [])] [Spec Tryz.prog 56 [tc (slP l), tc (st path)] (ofH []) (vc (u8 (capsP l path))) (ofH [])] 13 [(6, vc (bo (decide (IntKind.wrap .u8 ((BitVec.ofInt 8 caps &&& ~~~(BitVec.ofInt 8 (capsP l path))).toNat) = 0))))] [] (Caps_c l path (by omega)) ?_
 exact gT (vc (bo (decide (IntKind.wrap .u8 ((BitVec.ofInt 8 caps &&& ~~~(BitVec.ofInt 8 (capsP l path))).toNat) = 0)))) (by rw [show allowsS l path caps = decide (IntKind.wrap .u8 ((BitVec.ofInt 8 caps &&& ~~~(BitVec.ofInt 8 (capsP l path))).toNat) = 0) from (has_val _ _).symm])
theorem f82_body : Tryz.f82.body = some (.seq (.region 0 (rg Tryz.f82 0) false) (.seq (.seq (.region 1 (rg Tryz.f82 1) false) (.block 0 (.loop (.seq (.seq (.region 2 (rg Tryz.f82 2) false) (.cond (.tmp 7) (.skip) (.exit 0))) (.seq (.block 1 (.seq (.seq (.region 4 (rg Tryz.f82 4) false) (.cond (.tmp 17) (.seq (.region 5 (rg Tryz.f82 5) false) (.ret)) (.skip))) (.region 6 (rg Tryz.f82 6) false))) (.region 3 (rg Tryz.f82 3) false)))))) (.seq (.region 7 (rg Tryz.f82 7) false) (.ret)))) := by kernel_rfl
set_option maxRecDepth 100000 in
set_option maxHeartbeats 8000000 in
theorem has_c (a s : Int) : Pure Tryz.prog 82 [tc (u8 a), tc (u8 s)] (vc (bo (hasB a s))) := by
 refine Pure.of_body Tryz.func82 f82_body (by kernel_rfl) Tryz.ntmps82 (by kernel_rfl) (by kernel_rfl) ?_
 refine AMx.int 0 rfl (fun ha => ?_)
 rw [inR8_iff] at ha
 refine AMx.int 1 rfl (fun hs => ?_)
 rw [inR8_iff] at hs
 refine gS [] [] 22 [(0, vc (u8 a)), (1, vc (u8 s))] [] trivial ?_
 refine gQ ?_
 refine gS [] [] 22 [(0, vc (u8 a)), (1, vc (u8 s)), (5, vc (i6 0))] [] trivial ?_
 refine AMx.block ?_
 refine AMx.ent (s' := AS.lst 22 [(0, vc (u8 a)), (1, vc (u8 s)), (5, vc (i6 0))] []) (ent_proj [0, 1, 5] []) ?_
 refine AMx.loop (fun mm ss => ∃ (i : Nat), (i ≤ 8 ∧ BitsTo a s i) ∧ mm = 8 - i ∧ ss = AS.lst 22 [(0, vc (u8 (shrN a i))), (1, vc (u8 (shrN s i))), (5, vc (i6 (i : Int)))] []) ⟨0, ?_, rfl, ?_⟩ ?_
 · exact ⟨Nat.zero_le _, fun j hj => by omega⟩
 · rw [shr_0, shr_0]; rfl
 rintro mm ss ⟨i, ⟨hI, hN⟩, rfl, rfl⟩
 refine gQ ?_
 refine gS [] [] 22 [(0, vc (u8 (shrN a i))), (1, vc (u8 (shrN s i))), (5, vc (i6 (i : Int))), (7, vc (bo (decide ((i : Int) < 8))))] [] trivial ?_
 refine gC ((i : Int) < 8) (fun hc1 => ?_) fun hc1 => ?_
 ·
  refine AMx.skip ?_
  refine gQ ?_
  refine AMx.block ?_
  refine gQ ?_
  refine gS [] [(2 : Int) ≠ 0, ((decide (Int.tmod (shrN s i) 2 = 1)) = true) → allP [(decide (Int.tmod (shrN s i) 2 = 1)) = true, (2 : Int) ≠ 0], ((decide (Int.tmod (shrN s i) 2 = 1)) = true) → allP [(decide (Int.tmod (shrN s i) 2 = 1)) = true], (decide (Int.tmod (shrN s i) 2 = 1)) = true → allP [(decide (Int.tmod (shrN s i) 2 = 1)) = true]] 22 [(0, vc (u8 (shrN a i))), (1, vc (u8 (shrN s i))), (5, vc (i6 (i : Int))), (17, vc (bo ((decide (Int.tmod (shrN s i) 2 = 1)) && (decide (Int.tmod (shrN a i) 2 = 0)))))] [] ⟨(by omega), (fun hp => by have hq := hp; (try simp only [xT, xF, xA, xO, xB, xP, xN, xM, Bool.not_eq_true, Bool.not_eq_false] at hq); exact ⟨hp, (show (2 : Int) ≠ 0 from (by omega))⟩), (fun hp => hp), (fun hp2 => (by first | exact hp2 | exact ⟨hp, hp2⟩))⟩ ?_
  refine gB (((decide (Int.tmod (shrN s i) 2 = 1)) && (decide (Int.tmod (shrN a i) 2 = 0)))) (fun hc2 => ?_) fun hc2 => ?_
  ·
   try simp only [xT, xF, xA, xB] at hc2
   refine gS [] [] 22 [(4, vc (bo false))] [] trivial ?_
   exact gT (vc (bo false)) (by rw [has_no (by omega) (by omega) (by omega) hc2])
  ·
   try simp only [xT, xF, xA, xB] at hc2
   refine AMx.skip ?_
   refine gR [] [(2 : Int) ≠ 0, (2 : Int) ≠ 0] 22 [(0, vc (u8 (IntKind.wrap .u8 (Int.tdiv (shrN a i) 2)))), (1, vc (u8 (IntKind.wrap .u8 (Int.tdiv (shrN s i) 2)))), (5, vc (i6 (i : Int)))] [] ⟨(by omega), (show (2 : Int) ≠ 0 from (by omega))⟩ ?_
   refine AMx.blk ?_
   refine gR [] [InR .i64 ((i : Int) + 1)] 22 [(0, vc (u8 (IntKind.wrap .u8 (Int.tdiv (shrN a i) 2)))), (1, vc (u8 (IntKind.wrap .u8 (Int.tdiv (shrN s i) 2)))), (5, vc (i6 ((i : Int) + 1)))] [] (show InR .i64 ((i : Int) + 1) from (inR64 (by omega) (by omega))) ?_
   refine AMx.ent_inv (s' := AS.lst 22 [(0, vc (u8 (IntKind.wrap .u8 (Int.tdiv (shrN a i) 2)))), (1, vc (u8 (IntKind.wrap .u8 (Int.tdiv (shrN s i) 2)))), (5, vc (i6 ((i : Int) + 1)))] []) (ent_proj [0, 1, 5] []) ?_
   refine AMx.inv ⟨_, ?_, i + 1, ?_, rfl, ?_⟩
   rotate_left
   · exact ⟨by omega, bits_step (by omega) (by omega) hN hc2⟩
   · rw [← shr_step (n := s) (by omega) (by omega) i, ← shr_step (n := a) (by omega) (by omega) i]; rfl
   · omega
 ·
  refine AMx.exit ?_
  refine AMx.code_exit ?_
  refine AMx.inv_exit ?_
  refine AMx.blk_exit ?_
  refine gS [] [] 22 [(4, vc (bo true))] [] trivial ?_
  exact gT (vc (bo true)) (by rw [has_yes (by omega) (by omega) (by omega) hN])
theorem f60_body : Tryz.f60.body = some (.seq (.region 0 (rg Tryz.f60 0) false) (.seq (.seq (.region 1 (rg Tryz.f60 1) false) (.cond (.tmp 10) (.seq (.region 2 (rg Tryz.f60 2) false) (.ret)) (.skip))) (.seq (.seq (.region 3 (rg Tryz.f60 3) false) (.block 0 (.loop (.seq (.region 4 (rg Tryz.f60 4) false) (.seq (.cond (.tmp 14) (.skip) (.exit 0)) (.seq (.block 1 (.seq (.region 5 (rg Tryz.f60 5) false) (.seq (.region 6 (rg Tryz.f60 6) true) (.cond (.tmp 24) (.seq (.region 7 (rg Tryz.f60 7) false) (.ret)) (.skip))))) (.region 8 (rg Tryz.f60 8) false))))))) (.seq (.region 9 (rg Tryz.f60 9) false) (.ret))))) := by kernel_rfl
set_option maxRecDepth 100000 in
set_option maxHeartbeats 8000000 in
theorem Equal_c (a b : List RuleV) : Pure Tryz.prog 60 [tc (slP a), tc (slP b)] (vc (bo (decide (a = b)))) := by
 refine Pure.of_body Tryz.func60 f60_body (by kernel_rfl) Tryz.ntmps60 (by kernel_rfl) (by kernel_rfl) ?_
 refine AMx.sl 0 (l := a) rfl (fun hl => ?_)
 simp only [maxLen] at hl
 refine gS [] [] 26 [(0, vc (slP a)), (1, vc (slP b))] [] trivial ?_
 refine gQ ?_
 refine gS [] [] 26 [(0, vc (slP a)), (1, vc (slP b)), (10, vc (bo (!decide ((List.length a : Int) = (List.length b : Int)))))] [] trivial ?_
 refine gN ((List.length a : Int) = (List.length b : Int)) (fun hc1 => ?_) fun hc1 => ?_
 ·
  refine gS [] [] 26 [(4, vc (bo false))] [] trivial ?_
  exact gT (vc (bo false)) (by rw [decide_eq_false (fun h => by subst h; simp_all)])
 ·
  refine AMx.skip ?_
  refine gQ ?_
  refine gS [] [] 26 [(0, vc (slP a)), (1, vc (slP b)), (12, vc (i6 (List.length a : Int))), (13, vc (i6 0))] [] trivial ?_
  refine AMx.block ?_
  refine AMx.ent (s' := AS.lst 26 [(0, vc (slP a)), (1, vc (slP b)), (12, vc (i6 (List.length a : Int))), (13, vc (i6 0))] []) (ent_proj [0, 1, 12, 13] []) ?_
  refine AMx.loop (fun mm ss => ∃ (i : Nat), (i ≤ a.length ∧ List.take i a = List.take i b) ∧ mm = a.length - i ∧ ss = AS.lst 26 [(0, vc (slP a)), (1, vc (slP b)), (12, vc (i6 (List.length a : Int))), (13, vc (i6 (i : Int)))] []) ⟨0, ?_, rfl, ?_⟩ ?_
  · exact ⟨by omega, rfl⟩
  · rfl
  rintro mm ss ⟨i, ⟨hI, hE⟩, rfl, rfl⟩
  refine gS [] [] 26 [(0, vc (slP a)), (1, vc (slP b)), (12, vc (i6 (List.length a : Int))), (13, vc (i6 (i : Int))), (14, vc (bo (decide ((i : Int) < (List.length a : Int)))))] [] trivial ?_
  refine gQ ?_
  refine gC ((i : Int) < (List.length a : Int)) (fun hc2 => ?_) fun hc2 => ?_
  ·
   refine AMx.skip ?_
   refine gQ ?_
   refine AMx.block ?_
   refine gS [] [] 26 [(0, vc (slP a)), (1, vc (slP b)), (5, vc (i6 (i : Int))), (12, vc (i6 (List.length a : Int))), (13, vc (i6 (i : Int)))] [] trivial ?_
   refine gY [] [] [(0 : Int) ≤ (i : Int), (i : Int) < List.length a, (0 : Int) ≤ (i : Int), (i : Int) < List.length b] 26 [(0, vc (slP a)), (1, vc (slP b)), (12, vc (i6 (List.length a : Int))), (13, vc (i6 (i : Int))), (24, vc (bo (!(decide ((List.getD a i ([], 0)).1 = (List.getD b i ([], 0)).1) && (decide ((List.getD a i ([], 0)).2 = (List.getD b i ([], 0)).2) && true)))))] [] mixed ⟨(by omega), (by omega), (by omega), (show (i : Int) < List.length b from (by omega))⟩ ?_
   refine gB (!(decide ((List.getD a i ([], 0)).1 = (List.getD b i ([], 0)).1) && (decide ((List.getD a i ([], 0)).2 = (List.getD b i ([], 0)).2) && true))) (fun hc3 => ?_) fun hc3 => ?_
   ·
    try simp only [xT, xF, xA, xB, xN, xM] at hc3
    refine gS [] [] 26 [(4, vc (bo false))] [] trivial ?_
    exact gT (vc (bo false)) (by rw [decide_eq_false (fun h => by subst h; simp_all)])
   ·
    try simp only [xT, xF, xA, xB, xN, xM] at hc3
    refine AMx.skip ?_
    refine AMx.blk ?_
    refine gR [] [InR .i64 ((i : Int) + 1)] 26 [(0, vc (slP a)), (1, vc (slP b)), (12, vc (i6 (List.length a : Int))), (13, vc (i6 ((i : Int) + 1)))] [] (show InR .i64 ((i : Int) + 1) from (inR64 (by omega) (by omega))) ?_
    refine AMx.ent_inv (s' := AS.lst 26 [(0, vc (slP a)), (1, vc (slP b)), (12, vc (i6 (List.length a : Int))), (13, vc (i6 ((i : Int) + 1)))] []) (ent_proj [0, 1, 12, 13] []) ?_
    refine AMx.inv ⟨_, ?_, i + 1, ?_, rfl, ?_⟩
    rotate_left
    · exact ⟨by omega, Lib.same_step ([], 0) a b i (by omega) (by omega) hE (by grind)⟩
    · rfl
    · omega
  ·
   refine AMx.exit ?_
   refine AMx.code_exit ?_
   refine AMx.inv_exit ?_
   refine AMx.blk_exit ?_
   refine gS [] [] 26 [(4, vc (bo true))] [] trivial ?_
   exact gT (vc (bo true)) (by rw [decide_eq_true (Lib.same_end a b i (by omega) (by omega) hE)])
theorem f29_body : Tryz.f29.body = some (.seq (.region 0 (rg Tryz.f29 0) false) (.seq (.region 1 (rg Tryz.f29 1) false) (.ret))) := by kernel_rfl
set_option maxRecDepth 100000 in
set_option maxHeartbeats 8000000 in
theorem Same_c (a b : List RuleV) : Pure Tryz.prog 29 [tc (slP a), tc (slP b)] (vc (bo (decide (a = b)))) := by
 refine Pure.of_body Tryz.func29 f29_body (by kernel_rfl) Tryz.ntmps29 (by kernel_rfl) (by kernel_rfl) ?_
 refine gS [] [] 8 [(0, vc (slP a)), (1, vc (slP b))] [] trivial ?_
 refine gS [(2, CE.call [] [] (vc (bo (decide (a = b)))) [])] [Spec Tryz.prog 60 [tc (slP a), tc (slP b)] (ofH []) (vc (bo (decide (a = b)))) (ofH [])] 8 [(4, vc (bo (decide (a = b))))] [] (Equal_c a b) ?_
 exact gT (vc (bo (decide (a = b)))) rfl
theorem f70_body : Tryz.f70.body = some (.seq (.region 0 (rg Tryz.f70 0) false) (.seq (.seq (.region 1 (rg Tryz.f70 1) false) (.cond (.tmp 10) (.seq (.region 2 (rg Tryz.f70 2) false) (.ret)) (.skip))) (.seq (.seq (.region 3 (rg Tryz.f70 3) false) (.block 0 (.loop (.seq (.seq (.region 4 (rg Tryz.f70 4) false) (.cond (.tmp 14) (.skip) (.exit 0))) (.seq (.block 1 (.seq (.region 6 (rg Tryz.f70 6) true) (.cond (.tmp 25) (.seq (.region 7 (rg Tryz.f70 7) false) (.ret)) (.skip)))) (.region 5 (rg Tryz.f70 5) false)))))) (.seq (.region 8 (rg Tryz.f70 8) false) (.ret))))) := by kernel_rfl
set_option maxRecDepth 100000 in
set_option maxHeartbeats 8000000 in
theorem RSame_c (a b : List RuleV) : Pure Tryz.prog 70 [tc (slP a), tc (slP b)] (vc (bo (decide (a = b)))) := by
 refine Pure.of_body Tryz.func70 f70_body (by kernel_rfl) Tryz.ntmps70 (by kernel_rfl) (by kernel_rfl) ?_
 refine AMx.sl 0 (l := a) rfl (fun hl => ?_)
 simp only [maxLen] at hl
 refine gS [] [] 26 [(0, vc (slP a)), (1, vc (slP b))] [] trivial ?_
 refine gQ ?_
 refine gS [] [] 26 [(0, vc (slP a)), (1, vc (slP b)), (10, vc (bo (!decide ((List.length a : Int) = (List.length b : Int)))))] [] trivial ?_
 refine gN ((List.length a : Int) = (List.length b : Int)) (fun hc1 => ?_) fun hc1 => ?_
 ·
  refine gS [] [] 26 [(4, vc (bo false))] [] trivial ?_
  exact gT (vc (bo false)) (by rw [decide_eq_false (fun h => by subst h; simp_all)])
 ·
  refine AMx.skip ?_
  refine gQ ?_
  refine gS [] [] 26 [(0, vc (slP a)), (1, vc (slP b)), (5, vc (i6 0))] [] trivial ?_
  refine AMx.block ?_
  refine AMx.ent (s' := AS.lst 26 [(0, vc (slP a)), (1, vc (slP b)), (5, vc (i6 0))] []) (ent_proj [0, 1, 5] []) ?_
  refine AMx.loop (fun mm ss => ∃ (i : Nat), (i ≤ a.length ∧ List.take i a = List.take i b) ∧ mm = a.length - i ∧ ss = AS.lst 26 [(0, vc (slP a)), (1, vc (slP b)), (5, vc (i6 (i : Int)))] []) ⟨0, ?_, rfl, ?_⟩ ?_
  · exact ⟨by omega, rfl⟩
  · rfl
  rintro mm ss ⟨i, ⟨hI, hE⟩, rfl, rfl⟩
  refine gQ ?_
  refine gS [] [] 26 [(0, vc (slP a)), (1, vc (slP b)), (5, vc (i6 (i : Int))), (14, vc (bo (decide ((i : Int) < (List.length a : Int)))))] [] trivial ?_
  refine gC ((i : Int) < (List.length a : Int)) (fun hc2 => ?_) fun hc2 => ?_
  ·
   refine AMx.skip ?_
   refine gQ ?_
   refine AMx.block ?_
   refine gY [] [] [(0 : Int) ≤ (i : Int), (i : Int) < List.length a, (0 : Int) ≤ (i : Int), (i : Int) < List.length b] 26 [(0, vc (slP a)), (1, vc (slP b)), (5, vc (i6 (i : Int))), (25, vc (bo (!(decide ((List.getD a i ([], 0)).1 = (List.getD b i ([], 0)).1) && (decide ((List.getD a i ([], 0)).2 = (List.getD b i ([], 0)).2) && true)))))] [] mixed ⟨(by omega), (by omega), (by omega), (show (i : Int) < List.length b from (by omega))⟩ ?_
   refine gB (!(decide ((List.getD a i ([], 0)).1 = (List.getD b i ([], 0)).1) && (decide ((List.getD a i ([], 0)).2 = (List.getD b i ([], 0)).2) && true))) (fun hc3 => ?_) fun hc3 => ?_
   ·
    try simp only [xT, xF, xA, xB, xN, xM] at hc3
    refine gS [] [] 26 [(4, vc (bo false))] [] trivial ?_
    exact gT (vc (bo false)) (by rw [decide_eq_false (fun h => by subst h; simp_all)])
   ·
    try simp only [xT, xF, xA, xB, xN, xM] at hc3
    refine AMx.skip ?_
    refine AMx.blk ?_
    refine gR [] [InR .i64 ((i : Int) + 1)] 26 [(0, vc (slP a)), (1, vc (slP b)), (5, vc (i6 ((i : Int) + 1)))] [] (show InR .i64 ((i : Int) + 1) from (inR64 (by omega) (by omega))) ?_
    refine AMx.ent_inv (s' := AS.lst 26 [(0, vc (slP a)), (1, vc (slP b)), (5, vc (i6 ((i : Int) + 1)))] []) (ent_proj [0, 1, 5] []) ?_
    refine AMx.inv ⟨_, ?_, i + 1, ?_, rfl, ?_⟩
    rotate_left
    · exact ⟨by omega, Lib.same_step ([], 0) a b i (by omega) (by omega) hE (by grind)⟩
    · rfl
    · omega
  ·
   refine AMx.exit ?_
   refine AMx.code_exit ?_
   refine AMx.inv_exit ?_
   refine AMx.blk_exit ?_
   refine gS [] [] 26 [(4, vc (bo true))] [] trivial ?_
   exact gT (vc (bo true)) (by rw [decide_eq_true (Lib.same_end a b i (by omega) (by omega) hE)])
end AL.Policy
namespace Go.Proofs
open Go.Shelf
def Tryz.lays168_ren : Go.Shelf.Ren := ⟨fun | 168 => 120 | 240 => 141 | 242 => 142 | 276 => 156 | 278 => 157 | n => n, fun | 0 => 0 | 3 => 3 | 4 => 4 | 5 => 5 | 9 => 9 | 20 => 20 | 21 => 21 | 37 => 104 | 46 => 129 | 51 => 171 | 70 => 175 | 72 => 177 | 75 => 179 | 164 => 213 | 80 => 182 | n => n, fun | n => n⟩
theorem Tryz.lays168 : Go.Proofs.Lays.n168 Tryz.prog Tryz.lays168_ren := {
  mixed := by kernel_rfl
  f168 := Tryz.func120.trans (congrArg some (by kernel_rfl))
  f240 := Tryz.func141.trans (congrArg some (by kernel_rfl))
  f242 := Tryz.func142.trans (congrArg some (by kernel_rfl))
  f276 := Tryz.func156.trans (congrArg some (by kernel_rfl))
  f278 := Tryz.func157.trans (congrArg some (by kernel_rfl))
  t0 := Tryz.underlying0
  a0 := Tryz.isAgg0
  z0 := Tryz.sizeOf0
  v0 := Tryz.zeroValue0
  t3 := Tryz.underlying3
  a3 := Tryz.isAgg3
  z3 := Tryz.sizeOf3
  v3 := Tryz.zeroValue3
  t4 := Tryz.underlying4
  a4 := Tryz.isAgg4
  z4 := Tryz.sizeOf4
  v4 := Tryz.zeroValue4
  t5 := Tryz.underlying5
  a5 := Tryz.isAgg5
  z5 := Tryz.sizeOf5
  v5 := Tryz.zeroValue5
  t9 := Tryz.underlying9
  a9 := Tryz.isAgg9
  z9 := Tryz.sizeOf9
  v9 := Tryz.zeroValue9
  t20 := Tryz.underlying20
  a20 := Tryz.isAgg20
  z20 := Tryz.sizeOf20
  v20 := Tryz.zeroValue20
  t21 := Tryz.underlying21
  a21 := Tryz.isAgg21
  z21 := Tryz.sizeOf21
  v21 := Tryz.zeroValue21
  t37 := Tryz.underlying104
  a37 := Tryz.isAgg104
  z37 := Tryz.sizeOf104
  v37 := Tryz.zeroValue104
  t46 := Tryz.underlying129
  a46 := Tryz.isAgg129
  z46 := Tryz.sizeOf129
  v46 := Tryz.zeroValue129
  t51 := Tryz.underlying171
  a51 := Tryz.isAgg171
  z51 := Tryz.sizeOf171
  v51 := Tryz.zeroValue171
  t70 := Tryz.underlying175
  a70 := Tryz.isAgg175
  z70 := Tryz.sizeOf175
  v70 := Tryz.zeroValue175
  t72 := Tryz.underlying177
  a72 := Tryz.isAgg177
  z72 := Tryz.sizeOf177
  v72 := Tryz.zeroValue177
  t75 := Tryz.underlying179
  a75 := Tryz.isAgg179
  z75 := Tryz.sizeOf179
  v75 := Tryz.zeroValue179
  t164 := Tryz.underlying213
  a164 := Tryz.isAgg213
  z164 := Tryz.sizeOf213
  v164 := Tryz.zeroValue213 }
theorem Tryz.Builder_Extra_168 : Builder.Extra Tryz.prog Tryz.lays168_ren := {
  sizeBuilder := by kernel_rfl
  liesBuilder := by kernel_rfl
  t5 := Tryz.underlying5
  a5 := Tryz.isAgg5
  z5 := Tryz.sizeOf5
  v5 := Tryz.zeroValue5
  infoByte := by kernel_rfl
  cellsByte := by kernel_rfl
  sizeByte := by kernel_rfl
  neB5 := by decide }
open Go.RowKit in
theorem Tryz.WriteRune_k (B b : Nat) (bs : List Value) (r : Int) (hr0 : -2147483648 ≤ r) (hr1 : r ≤ 2147483647) (w : World) (h : Lib.IsBuilderF 177 5 B b bs w) (hlen : bs.length + 4 ≤ 140737488355328) (hBw : B ≤ w.heap.size) :
    Calls Tryz.prog 120 #[.pointer (some ⟨b, 0, none⟩), .int .i32 r] w fun e w' => e = .returned (.tuple #[.int .i64 (Lib.runeCells r).length, .nilIface]) ∧ (Lib.BuilderAtF 177 5 B b (.pointer (some ⟨b, 0, none⟩)) (bs ++ Lib.runeCells r) w' ∧ Below B w w' ∧ Lib.OthersKept 5 (some b) w w') :=
  Any.Builder_WriteRune_k Tryz.lays168 Tryz.Builder_Extra_168 B b bs r hr0 hr1 w h hlen hBw
end Go.Proofs
namespace AL.Policy
open Go Go.Proofs Go.RowKit AL AL.Rune
set_option linter.unusedVariables false
set_option linter.unusedSimpArgs false
theorem and_1 : ∀ m : Nat, m < 256 → (bits BinOp.and IntKind.u8 (m : Int) 1 == 1) = decide ((m : Int) % 2 = 1) := by decide +kernel
theorem bit_and {n : Int} (h0 : 0 ≤ n) (h1 : n ≤ 255) (pos : Nat) : (bits BinOp.and IntKind.u8 (n / 2 ^ pos) 1 == 1) = bitN n pos := by
  have hr := shr_rng h0 (by omega : n < 256) pos
  unfold shrN at hr
  obtain ⟨m, hm⟩ := Int.eq_ofNat_of_zero_le hr.1
  unfold bitN
  rw [hm]
  exact and_1 m (by omega)
theorem dec_lets : ∀ pos, pos < 6 → decS lets pos = ((List.getD lets pos 0).toNat, 1) ∧ Go.Lib.encodeRune (((List.getD lets pos 0).toNat : Nat) : Int) = [List.getD lets pos 0] := by decide +kernel
set_option maxHeartbeats 6400000 in
set_option maxRecDepth 1000000 in
theorem lay_walk (n : Int) (h0 : 0 ≤ n) (h1 : n ≤ 255) (w : World) :
    Calls Tryz.prog 87 #[.int .u8 n] w fun e w' => e = .returned (.string (ba (layS n))) ∧ Below w.heap.size w w' := by
  go_enter Tryz.func87, Tryz.ntmps87
  go_wp2
  go_loopw [7] (fun _ wr => ∃ pos : Nat, pos ≤ 6 ∧ Go.Lib.IsBuilderF 177 5 w.heap.size w.heap.size (Go.Lib.byteCells (layK n pos)) wr ∧ wr.heap[w.heap.size + 1]? = some (.stringIter (ba lets) pos) ∧ Below w.heap.size w wr)
    (fun _ wr => 6 - wr.iterPos (w.heap.size + 1))
  case atStart =>
    refine ⟨0, Nat.zero_le _, (Go.Lib.IsBuilderF.of (Go.Lib.fresh_isBuilder 177 5 w)).alloc _, ?_, ((Below.refl _ w).alloc (Nat.le_refl _) _).alloc (by simp) _⟩
    have := World.iter_heap (w.alloc (.cells #[.pointer none, .slice none 0 0] 177)) (ba lets) 0
    have e : ba lets = ⟨#[114, 119, 100, 120, 108, 115]⟩ := rfl
    rw [e] at this ⊢
    simpa using this
  case round =>
    obtain ⟨pos, hps, hI, hit, hbw⟩ := hrel
    have hlt : w.heap.size + 1 < wr.heap.size := (Array.getElem?_eq_some_iff.1 hit).1
    have hmu : wr.iterPos (w.heap.size + 1) = pos := by simp [World.iterPos, hit]
    by_cases hp : pos < 6
    · have hnx : ∀ ty, (Instr.next (.pointer (some ⟨w.heap.size + 1, 0, none⟩)) true ty).run Tryz.prog wr = Result.ok (Value.tuple #[Value.bool true, Value.int .i64 (pos : Int), Value.int .i32 ((decS lets pos).1 : Int)]) (wr.iterAt (w.heap.size + 1) (ba lets) (pos + (decS lets pos).2)) := fun ty => Go.Lib.run_next_any_at wr (w.heap.size + 1) (ba lets) pos ty hit (by show pos < 6; exact hp)
      have hd := dec_ok (s := lets) (pos := pos) hp
      have hI2 := hI.iterAt hit (pos + (decS lets pos).2)
      have hit2 := Go.Lib.iterAt_heap wr (w.heap.size + 1) (ba lets) pos (pos + (decS lets pos).2) hit
      have hbw2 := Go.Lib.below_iterAt hbw (k := w.heap.size + 1) (by omega) (ba lets) (pos + (decS lets pos).2)
      have hsz2 : w.heap.size + 1 < (wr.iterAt (w.heap.size + 1) (ba lets) (pos + (decS lets pos).2)).heap.size := by rw [Go.Lib.iterAt_size]; exact hlt
      generalize wr.iterAt (w.heap.size + 1) (ba lets) (pos + (decS lets pos).2) = W1 at hnx hI2 hit2 hbw2 hsz2
      have hrm := dec_max lets pos
      have hll := lay_len n pos
      cases hb : bitN n pos with
      | true =>
        have hbt := (bit_and h0 h1 pos).trans hb
        go_wp2_with (go_at_call 120; go_loud (refine (Tryz.WriteRune_k w.heap.size w.heap.size _ _ (by omega) (by omega) _ hI2 (by rw [Go.Lib.byteCells_length]; omega) (hbw2.size)).mono ?_); rintro e W3 ⟨rfl, h1, b1, k1⟩)
        go_wp2
        go_roundw
        case rel =>
          obtain ⟨d1, d2⟩ := dec_lets pos hp
          refine ⟨pos + (decS lets pos).2, by rw [d1]; exact hp, ?_, k1.iter hit2 (by omega), hbw2.trans b1⟩
          rw [d1] at h1 ⊢
          rw [lay_t hb, Go.Lib.byteCells_append]
          rw [← d2, Go.Lib.byteCells_encodeRune]; exact .inr h1
        case measure =>
          simp only [World.iterPos, k1.iter hit2 (by omega), hit]
          omega
      | false =>
        have hbt := (bit_and h0 h1 pos).trans hb
        go_wp2
        go_roundw
        case rel =>
          obtain ⟨d1, d2⟩ := dec_lets pos hp
          refine ⟨pos + (decS lets pos).2, by rw [d1]; exact hp, ?_, hit2, hbw2⟩
          rw [d1]
          rw [lay_f hb]; exact hI2
        case measure =>
          simp only [World.iterPos, hit2, hit]
          omega
    · have hnx : ∀ ty, (Instr.next (.pointer (some ⟨w.heap.size + 1, 0, none⟩)) true ty).run Tryz.prog wr = _ := fun ty => Go.Lib.run_next_end_at wr (w.heap.size + 1) (ba lets) pos ty hit (by show ¬ pos < 6; exact hp)
      go_wp2_with (go_at_call 121; refine (Tryz.Builder_String_any_k w.heap.size w.heap.size (layK n pos) wr hI hbw.size).mono ?_; rintro e W1 ⟨rfl, _, hb1, _⟩)
      go_wp2
      go_ret
      refine ⟨?_, hbw.trans hb1⟩
      rw [show pos = 6 by omega, lay_6 h0]; rfl
theorem lay_c (n : Int) : Pure Tryz.prog 87 [tc (u8 n)] (vc (st (layS n))) := by
  refine Pure.of_below ⟨_, Tryz.func87, by kernel_rfl, by kernel_rfl⟩ fun Γ w cargs hh hm => ?_
  obtain ⟨u, rfl, ⟨rfl, hu⟩⟩ := args1 hm
  rw [inR8_iff] at hu
  refine (lay_walk n hu.1 hu.2 w).mono ?_
  rintro e w' ⟨rfl, hb⟩
  have h := layS_len n
  exact ⟨_, rfl, hb, rfl, by simp only [maxLen]; omega⟩
end AL.Policy
