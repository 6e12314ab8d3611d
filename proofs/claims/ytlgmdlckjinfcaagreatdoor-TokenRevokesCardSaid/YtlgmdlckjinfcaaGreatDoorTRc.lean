/- The proof library and the contracts that the law reaches: joined by a program. No condition. -/
import Derived.Test.YtlgmdlckjinfcaaGreatDoorTRb
namespace AL.Token
open Go AL
open AL.Policy (RuleV rowP slP checkP coversS capsP textP parseP)
open AL.Quill (ScanV rowQ rowB)
set_option linter.unusedVariables false
set_option linter.unusedSimpArgs false
def rowsB (l : List Bytes) : Bytes := l.flatMap rowB
theorem rows_succ (l : List Bytes) (k : Nat) (h : k < l.length) : rowsB (List.take (k + 1) l) = rowsB (List.take k l) ++ rowB (List.getD l k []) := by
  unfold rowsB
  rw [Lib.take_succ [] l k h, List.flatMap_append]; simp
theorem rows_len (l : List Bytes) (k : Nat) (h : k < l.length) : (rowsB (List.take (k + 1) l)).length = (rowsB (List.take k l)).length + (2 + (List.getD l k []).length) := by
  rw [rows_succ l k h, List.length_append, Quill.rowB_len]
theorem rows_le (l : List Bytes) (k : Nat) : (rowsB (List.take k l)).length ≤ (rowsB l).length := by
  conv => rhs; rw [← List.take_append_drop k l]
  unfold rowsB
  rw [List.flatMap_append, List.length_append]; omega
theorem rows_all (l : List Bytes) {k : Nat} (h : l.length ≤ k) : rowsB (List.take k l) = rowsB l := by rw [List.take_of_length_le h]
def splitQ : Nat → ScanV → List Bytes × Int
  | 0, _ => ([], 0)
  | f + 1, x => if x.2.1 < (x.1.length : Int) then (if ¬ (rowQ x).2.2.2 = 0 then ([], (rowQ x).2.2.2) else
      (if (splitQ f (rowQ x).2).2 = 0 then ((rowQ x).1 :: (splitQ f (rowQ x).2).1, 0) else ([], (splitQ f (rowQ x).2).2))) else ([], 0)
def splitR (s : Bytes) : List Bytes × Int := splitQ s.length (s, 0, 0)
def addO (o : List Bytes) (r : List Bytes × Int) : List Bytes × Int := if r.2 = 0 then (o ++ r.1, 0) else ([], r.2)
structure SplI (s : Bytes) (f : Nat) (o : List Bytes) (x : ScanV) : Prop where
  text : x.1 = s
  fine : x.2.2 = 0
  lo : 0 ≤ x.2.1
  hi : x.2.1 ≤ (s.length : Int)
  few : 2 * (o.length : Int) ≤ x.2.1
  fuel : (s.length : Int) - x.2.1 ≤ (f : Int)
  eq : splitR s = addO o (splitQ f x)
theorem split_fine : ∀ (f : Nat) (x : ScanV), ¬ (splitQ f x).2 = 0 → (splitQ f x).1 = []
  | 0, _, h => absurd rfl h
  | f + 1, x, h => by
    unfold splitQ at h ⊢
    split
    · split
      · rfl
      · split
        · rw [if_pos (by assumption), if_neg (by assumption), if_pos (by assumption)] at h
          exact absurd rfl h
        · rfl
    · rfl
theorem spl_0 (s : Bytes) : SplI s s.length [] (s, 0, 0) := by
  refine ⟨rfl, rfl, Int.le_refl _, by dsimp only; omega, by simp, by dsimp only; omega, ?_⟩
  unfold addO
  split
  · rename_i h; unfold splitR; exact Prod.ext rfl h
  · rename_i h; unfold splitR; exact Prod.ext (split_fine _ _ h) rfl
theorem spl_next {s : Bytes} {f : Nat} {o : List Bytes} {x : ScanV} (h : SplI s f o x) (hm : x.2.1 < (x.1.length : Int)) (h0 : (rowQ x).2.2.2 = 0) : SplI s (f - 1) (o ++ [(rowQ x).1]) (rowQ x).2 ∧ 0 < f := by
  obtain ⟨h1, h2, h3, h4, h5, h6, h7⟩ := h
  rcases Quill.row_cases x with ⟨_, q, _⟩ | ⟨_, q2, q3, q4, q5⟩
  · exact absurd h0 q
  · have hf : 0 < f := by rw [h1] at hm; omega
    obtain ⟨g, rfl⟩ : ∃ g, f = g + 1 := ⟨f - 1, by omega⟩
    rw [h1] at q4
    refine ⟨⟨by rw [q3]; exact h1, by rw [q3], by rw [q3]; dsimp only; omega, by rw [q3]; dsimp only; omega, by rw [q3, List.length_append, List.length_singleton]; dsimp only; omega, by rw [q3]; dsimp only; omega, ?_⟩, hf⟩
    rw [h7, splitQ, if_pos hm, if_neg (by omega), Nat.add_sub_cancel]
    unfold addO
    by_cases hz : (splitQ g (rowQ x).2).2 = 0
    · simp [hz]
    · simp [hz]
theorem spl_bad {s : Bytes} {f : Nat} {o : List Bytes} {x : ScanV} (h : SplI s f o x) (hm : x.2.1 < (x.1.length : Int)) (h0 : ¬ (rowQ x).2.2.2 = 0) : splitR s = ([], (rowQ x).2.2.2) := by
  obtain ⟨h1, h2, h3, h4, h5, h6, h7⟩ := h
  have hf : 0 < f := by rw [h1] at hm; omega
  obtain ⟨g, rfl⟩ : ∃ g, f = g + 1 := ⟨f - 1, by omega⟩
  rw [h7, splitQ, if_pos hm, if_pos h0]
  unfold addO
  rw [if_neg h0]
theorem spl_end {s : Bytes} {f : Nat} {o : List Bytes} {x : ScanV} (h : SplI s f o x) (hm : ¬ x.2.1 < (x.1.length : Int)) : splitR s = (o, 0) := by
  obtain ⟨h1, h2, h3, h4, h5, h6, h7⟩ := h
  rw [h7]
  have : splitQ f x = ([], 0) := by
    cases f with
    | zero => rfl
    | succ g => rw [splitQ, if_neg hm]
  rw [this]
  unfold addO
  rw [if_pos rfl, List.append_nil]
theorem split_mem : ∀ (f : Nat) (x : ScanV), ∀ p ∈ (splitQ f x).1, p.length ≤ x.1.length
  | 0, _, p, hp => by cases hp
  | f + 1, x, p, hp => by
    unfold splitQ at hp
    split at hp
    · split at hp
      · cases hp
      · split at hp
        · have e : (rowQ x).2.1 = x.1 := by
            rcases Quill.row_cases x with ⟨_, _, q⟩ | ⟨_, _, q, _⟩
            · exact q
            · rw [q]
          rcases List.mem_cons.1 hp with rfl | hp
          · rcases Quill.row_cases x with ⟨q, _⟩ | ⟨_, q1, _, q2, _⟩
            · rw [q]; exact Nat.zero_le _
            · omega
          · have := split_mem f (rowQ x).2 p hp
            rw [e] at this
            exact this
        · cases hp
    · cases hp
theorem splitR_mem {s p : Bytes} (h : p ∈ (splitR s).1) : p.length ≤ s.length := split_mem _ _ p h
def textT (t : TokV) : Bytes × Int := if ¬ checkT t = 0 then ([], checkT t) else (rowsB [t.2.1, (textP t.2.2).1], 0)
theorem name_le {s : Bytes} (h : Rows.namedS s = true) : s.length ≤ 8 := by
  unfold Rows.namedS at h
  simp only [Bool.and_eq_true, decide_eq_true_eq] at h
  exact h.2.1
theorem made_le {t : TokV} (h : checkT t = 0) : t.2.1.length ≤ 8 := by
  unfold checkT at h
  split at h
  · cases h
  · split at h
    · exact absurd h (by assumption)
    · split at h
      · rename_i q
        rcases q with q | q
        · rw [q.1]; exact Nat.zero_le _
        · exact name_le q.1
      · cases h
theorem rows_two (a b : Bytes) : (rowsB [a, b]).length = 4 + a.length + b.length := by
  show (rowB a ++ (rowB b ++ [])).length = _
  rw [List.append_nil, List.length_append, Quill.rowB_len, Quill.rowB_len]; omega
theorem two_le {t : TokV} (h : checkT t = 0) : ∀ s ∈ ([t.2.1, (textP t.2.2).1] : List Bytes), s.length ≤ 65535 := by
  have h1 := made_le h
  have h2 := Policy.textP_len t.2.2
  intro s hs
  rcases List.mem_cons.1 hs with rfl | hs
  · omega
  · rw [List.mem_singleton.1 hs]; omega
theorem two_len {t : TokV} (h : checkT t = 0) : (rowsB [t.2.1, (textP t.2.2).1]).length ≤ 2000 := by
  have h1 := made_le h
  have h2 := Policy.textP_len t.2.2
  rw [rows_two]; omega
def parseT (n s : Bytes) : TokV × Int :=
  if ¬ (splitR s).2 = 0 then (tokd, (splitR s).2) else if ¬ ((splitR s).1.length : Int) = 2 then (tokd, 4) else
  if ¬ (parseP (List.getD (splitR s).1 1 [])).2 = 0 ∨ ¬ checkT (n, List.getD (splitR s).1 0 [], (parseP (List.getD (splitR s).1 1 [])).1) = 0 then (tokd, 4) else ((n, List.getD (splitR s).1 0 [], (parseP (List.getD (splitR s).1 1 [])).1), 0)
theorem piece_le {s : Bytes} (j : Nat) : (List.getD (splitR s).1 j []).length ≤ s.length := by
  by_cases h : j < (splitR s).1.length
  · exact splitR_mem (Lib.getD_mem [] _ j h)
  · rw [List.getD_eq_getElem?_getD, List.getElem?_eq_none (by omega)]; simp
end AL.Token
namespace AL
open Go Go.Proofs
set_option linter.unusedVariables false
theorem pMaps : mapsRowed Tryz.prog = true := by kernel_rfl
theorem pStops : (Tryz.prog.stops == []) = true := by kernel_rfl
theorem pKnobs : (Tryz.prog.stopKnobs == []) = true := by kernel_rfl
theorem pHeard : Tryz.prog.stopsHeard = true := by kernel_rfl
theorem pEnter : Tryz.prog.mayEnter = true := by kernel_rfl
theorem pLifts : (false == Tryz.prog.liftsFinal) = true := by kernel_rfl
theorem pMake : (Tryz.prog.make == some .cut) = true := by kernel_rfl
end AL
namespace AL
open Go Go.Proofs
set_option linter.unusedVariables false
def closureFacts (P : Program) (f : FuncId) (c : OpenClaim) : Bool :=
  (c.inPlace == P.inPlace f) && (c.unfollowed == P.unfollowed f) && (c.recurses == P.recurses f) && (c.named == P.varsNamed f)
def rowFacts (P : Program) (fn : Func) (s : ChangeSpec) (c : OpenClaim) : Bool :=
  c.wf (OpenSpec.ofChange s) && fn.params.all (P.readableRec ·) && namedTie P c.named s.vars && (c.stops == []) && (c.knobs == []) &&
  (c.maps == (fn.params.toList ++ s.plain.varTypes P).any (P.mapsRec ·)) && (c.ifaces == (fn.params.toList ++ s.plain.varTypes P).any (P.ifacesRec ·)) && (c.mapsOut == P.mapsAmong fn.resultTypes.toList) &&
  (c.loops == (fn.params.toList ++ s.plain.varTypes P).any (P.loopsFrom ·)) && (c.wideKeys == (fn.params.toList ++ s.plain.varTypes P ++ fn.resultTypes.toList).any (P.wideKeysFrom ·)) &&
  s.vars.all (P.varReadable ·) && fn.resultTypes.all (fun t => P.readableRec t && decide (t < P.types.size)) && (c.ifacesOut == fn.resultTypes.toList.any (P.ifacesRec ·)) && (c.loopsOut == fn.resultTypes.toList.any (P.loopsFrom ·)) && (c.plainKeys == P.plainKeys) && c.shortTexts.isNone &&
  (c.kinds == (if c.domain.isEmpty then [] else fn.params.toList.map fun t => match P.underlying t with | some (.int k) => some k | _ => none)) && (c.pinned == c.pinnedBy) &&
  (c.veiled == (fn.params.toList ++ s.plain.varTypes P ++ fn.resultTypes.toList).any (P.veiledRec ·)) && c.veiledFits P fn.params.toList (fn.params.toList ++ s.plain.varTypes P ++ fn.resultTypes.toList)
set_option maxRecDepth 100000 in
theorem joined {f : FuncId} {fn : Func} {s : ChangeSpec} {c : OpenClaim} (h1 : closureFacts Tryz.prog f c = true) (h2 : rowFacts Tryz.prog fn s c = true) (hl : c.lifted = false) (hm : c.make = .cut) :
    joinedFacts Tryz.prog f fn s c = true := by
  have g1 := laidOut
  have g2 := pMaps
  have g3 := pStops
  have g4 := pKnobs
  have g5 := pHeard
  have g6 := pEnter
  have g7 := pLifts
  have g8 := pMake
  unfold closureFacts at h1
  unfold rowFacts at h2
  unfold joinedFacts
  rw [hl, hm]
  simp only [Bool.and_eq_true] at h1 h2 ⊢
  obtain ⟨⟨⟨a1, a2⟩, a3⟩, a4⟩ := h1
  obtain ⟨⟨⟨⟨⟨⟨⟨⟨⟨⟨⟨⟨⟨⟨⟨⟨⟨⟨⟨b1, b2⟩, b3⟩, b4⟩, b5⟩, b6⟩, b7⟩, b8⟩, b9⟩, b10⟩, b11⟩, b12⟩, b13⟩, b14⟩, b15⟩, b16⟩, b17⟩, b18⟩, b19⟩, b20⟩ := h2
  exact ⟨⟨⟨⟨⟨⟨⟨⟨⟨⟨⟨⟨⟨⟨⟨⟨⟨⟨⟨⟨⟨⟨⟨⟨⟨⟨⟨⟨⟨⟨⟨b1, g1⟩, g2⟩, b2⟩, b3⟩, b4⟩, g3⟩, b5⟩, g4⟩, a1⟩, a2⟩, a3⟩, a4⟩, b6⟩, b7⟩, b8⟩, b9⟩, b10⟩, b11⟩, b12⟩, b13⟩, b14⟩, b15⟩, b16⟩, g5⟩, g6⟩, g7⟩, g8⟩, b17⟩, b18⟩, b19⟩, b20⟩
end AL
namespace AL.Quill
open Go Go.Proofs AL
set_option linter.unusedVariables false
set_option linter.unusedSimpArgs false
theorem f89_body : Tryz.f89.body = some (.seq (.region 0 (rg Tryz.f89 0) false) (.seq (.seq (.region 1 (rg Tryz.f89 1) false) (.block 0 (.loop (.seq (.seq (.region 2 (rg Tryz.f89 2) false) (.cond (.tmp 12) (.skip) (.exit 0))) (.seq (.block 1 (.region 4 (rg Tryz.f89 4) false)) (.region 3 (rg Tryz.f89 3) false)))))) (.seq (.region 5 (rg Tryz.f89 5) false) (.ret)))) := by kernel_rfl
set_option maxRecDepth 100000 in
set_option maxHeartbeats 8000000 in
theorem lay_c (b : Bytes) (m n : Int) (hm : m = n) (h0 : 0 ≤ n) (h1 : n < 65536) (hb : b.length ≤ 1000000) (d d2 : Nat) (hd : Nat.beq d d2 = false) : Spec Tryz.prog 89 [.c (.own d), tc (i6 2), tc (u6 m)] (ofH [(d, AObj.grow 5 1 UInt8 0 rowU8 b)]) (vo d2) (ofH [(d2, AObj.grow 5 1 UInt8 0 rowU8 (b ++ be2 n))]) := by
 refine OwnIO.of_body (D := 0) Tryz.func89 f89_body (by kernel_rfl) Tryz.ntmps89 (by kernel_rfl) (by kernel_rfl) rfl rfl ?_ d d2 hd
 subst hm
 refine gS [] [] 23 [(0, vo 0), (1, vc (i6 2)), (2, vc (u6 m))] [(0, AObj.grow 5 1 UInt8 0 rowU8 b)] trivial ?_
 refine gQ ?_
 refine gS [] [InR .i64 (2 - 1), InR .i64 (8 * (2 - 1))] 23 [(0, vo 0), (2, vc (u6 m)), (7, vc (i6 (8 * (2 - 1))))] [(0, AObj.grow 5 1 UInt8 0 rowU8 b)] ⟨(inR64 (by omega) (by omega)), (show InR .i64 (8 * (2 - 1)) from (inR64 (by omega) (by omega)))⟩ ?_
 refine AMx.block ?_
 refine AMx.ent (s' := AS.lst 23 [(0, vo 0), (2, vc (u6 m)), (7, vc (i6 (8 * (2 - 1))))] [(0, AObj.grow 5 1 UInt8 0 rowU8 b)]) (ent_proj [0, 2, 7] [0]) ?_
 refine AMx.loop (fun mm ss => ∃ (j : Nat), (j ≤ 2) ∧ mm = 2 - j ∧ ss = AS.lst 23 [(0, vo 0), (2, vc (u6 m)), (7, vc (i6 (8 - 8 * (j : Int))))] [(0, AObj.grow 5 1 UInt8 0 rowU8 (b ++ List.take j (be2 m)))]) ⟨0, ?_, rfl, ?_⟩ ?_
 · omega
 · rw [show List.take 0 (be2 m) = [] from rfl, List.append_nil]; rfl
 rintro mm ss ⟨j, hI, rfl, rfl⟩
 refine gQ ?_
 refine gS [] [] 23 [(0, vo 0), (2, vc (u6 m)), (7, vc (i6 (8 - 8 * (j : Int)))), (12, vc (bo (decide (0 ≤ 8 - 8 * (j : Int)))))] [(0, AObj.grow 5 1 UInt8 0 rowU8 (b ++ List.take j (be2 m)))] trivial ?_
 refine gC (0 ≤ 8 - 8 * (j : Int)) (fun hc1 => ?_) fun hc1 => ?_
 ·
  refine AMx.skip ?_
  refine gQ ?_
  refine AMx.block ?_
  refine gR [(5, CE.obj (AObj.grow 5 1 UInt8 0 rowU8 [List.getD (be2 m) j 0])), (6, CE.obj (AObj.grow 5 1 UInt8 0 rowU8 ((b ++ List.take j (be2 m)) ++ [List.getD (be2 m) j 0])))] [(0 : Int) ≤ 8 - 8 * (j : Int), flat 1 rowU8 [List.getD (be2 m) j 0] = [.s (u8 (IntKind.wrap .u8 (Int.fdiv m (2 ^ (min (8 - 8 * (j : Int) : Int).toNat (IntKind.bits .u64))))))], List.length ([List.getD (be2 m) j 0] : List UInt8) = 1, AppC (flat 1 rowU8 [List.getD (be2 m) j 0]) (List.length ([List.getD (be2 m) j 0] : List UInt8)) 1 (AObj.grow 5 1 UInt8 0 rowU8 (b ++ List.take j (be2 m))) (AObj.grow 5 1 UInt8 0 rowU8 ((b ++ List.take j (be2 m)) ++ [List.getD (be2 m) j 0]))] 23 [(0, vo 21), (2, vc (u6 m)), (7, vc (i6 (8 - 8 * (j : Int))))] [(21, AObj.grow 5 1 UInt8 0 rowU8 ((b ++ List.take j (be2 m)) ++ [List.getD (be2 m) j 0]))] ⟨(by omega), (lay_at (by omega)), rfl, (⟨_, rfl, rfl, rfl, by simp only [List.length_append, List.length_cons, List.length_nil, List.length_take, be2_len]; omega, by simp only [maxLen, List.length_append, List.length_cons, List.length_nil, List.length_take, be2_len]; omega⟩)⟩ ?_
  refine AMx.blk ?_
  refine gR [] [InR .i64 ((8 - 8 * (j : Int)) - 8)] 23 [(0, vo 21), (2, vc (u6 m)), (7, vc (i6 ((8 - 8 * (j : Int)) - 8)))] [(21, AObj.grow 5 1 UInt8 0 rowU8 ((b ++ List.take j (be2 m)) ++ [List.getD (be2 m) j 0]))] (show InR .i64 ((8 - 8 * (j : Int)) - 8) from (inR64 (by omega) (by omega))) ?_
  refine AMx.ent_inv (s' := AS.lst 23 [(0, vo 0), (2, vc (u6 m)), (7, vc (i6 ((8 - 8 * (j : Int)) - 8)))] [(0, AObj.grow 5 1 UInt8 0 rowU8 ((b ++ List.take j (be2 m)) ++ [List.getD (be2 m) j 0]))]) (ent_swap 21 0 (by kernel_rfl) (by kernel_rfl)) ?_
  refine AMx.ent_inv (s' := AS.lst 23 [(0, vo 0), (2, vc (u6 m)), (7, vc (i6 ((8 - 8 * (j : Int)) - 8)))] [(0, AObj.grow 5 1 UInt8 0 rowU8 ((b ++ List.take j (be2 m)) ++ [List.getD (be2 m) j 0]))]) (ent_proj [0, 2, 7] [0]) ?_
  refine AMx.inv ⟨_, ?_, j + 1, ?_, rfl, ?_⟩
  rotate_left
  · omega
  · rw [lay_step b m (by omega), show (8 - 8 * (j : Int)) - 8 = 8 - 8 * ((j + 1 : Nat) : Int) by omega]
  · omega
 ·
  refine AMx.exit ?_
  refine AMx.code_exit ?_
  refine AMx.inv_exit ?_
  refine AMx.blk_exit ?_
  refine gS [] [] 23 [(6, vo 0)] [(0, AObj.grow 5 1 UInt8 0 rowU8 (b ++ List.take j (be2 m)))] trivial ?_
  refine AMx.ret ?_
  exact ⟨.inl rfl, 0, AObj.grow 5 1 UInt8 0 rowU8 (b ++ List.take j (be2 m)), by kernel_rfl, by kernel_rfl, by rw [lay_end b m (by omega)]⟩
theorem f145_body : Tryz.f145.body = some (.seq (.region 0 (rg Tryz.f145 0) false) (.seq (.region 1 (rg Tryz.f145 1) false) (.ret))) := by kernel_rfl
set_option maxRecDepth 100000 in
set_option maxHeartbeats 8000000 in
theorem sized_c (n : Int) : Pure Tryz.prog 145 [tc (i6 n)] (vc (bo (decide (1 ≤ n) && decide (n ≤ 8)))) := by
 refine Pure.of_body Tryz.func145 f145_body (by kernel_rfl) Tryz.ntmps145 (by kernel_rfl) (by kernel_rfl) ?_
 refine gS [] [] 9 [(0, vc (i6 n))] [] trivial ?_
 refine gS [] [((decide (1 ≤ n)) = true) → allP [(decide (1 ≤ n)) = true], (decide (1 ≤ n)) = true → allP [(decide (1 ≤ n)) = true]] 9 [(2, vc (bo ((decide (1 ≤ n)) && (decide (n ≤ 8)))))] [] ⟨(fun hp => hp), (fun hp2 => (by first | exact hp2 | exact ⟨hp, hp2⟩))⟩ ?_
 exact gT (vc (bo ((decide (1 ≤ n)) && (decide (n ≤ 8))))) rfl
theorem f144_body : Tryz.f144.body = some (.seq (.region 0 (rg Tryz.f144 0) false) (.seq (.region 1 (rg Tryz.f144 1) false) (.ret))) := by kernel_rfl
set_option maxRecDepth 100000 in
set_option maxHeartbeats 8000000 in
theorem stands_c (x : ScanV) : Pure Tryz.prog 144 [TV.agg [.s (st x.1), .s (i6 x.2.1), .s (i6 x.2.2)]] (vc (bo (decide (0 ≤ x.2.1) && decide (x.2.1 ≤ (List.length x.1 : Int))))) := by
 refine Pure.of_body Tryz.func144 f144_body (by kernel_rfl) Tryz.ntmps144 (by kernel_rfl) (by kernel_rfl) ?_
 refine gS [] [] 14 [(1, vp 1 0)] [(1, AObj.row [.s (st x.1), .s (i6 x.2.1), .s (i6 x.2.2)])] trivial ?_
 refine gS [] [((decide (0 ≤ x.2.1)) = true) → allP [(decide (0 ≤ x.2.1)) = true], ((decide (0 ≤ x.2.1)) = true) → allP [(decide (0 ≤ x.2.1)) = true], ((decide (0 ≤ x.2.1)) = true) → allP [(decide (0 ≤ x.2.1)) = true], ((decide (0 ≤ x.2.1)) = true) → allP [(decide (0 ≤ x.2.1)) = true, (decide (0 ≤ x.2.1)) = true], (decide (0 ≤ x.2.1)) = true → allP [(decide (0 ≤ x.2.1)) = true]] 14 [(2, vc (bo ((decide (0 ≤ x.2.1)) && (decide (x.2.1 ≤ (List.length x.1 : Int))))))] [] ⟨(fun hp => hp), (fun hp => hp), (fun hp => hp), (fun hp => ⟨hp, hp⟩), (fun hp2 => (by first | exact hp2 | exact ⟨hp, hp2⟩))⟩ ?_
 exact gT (vc (bo ((decide (0 ≤ x.2.1)) && (decide (x.2.1 ≤ (List.length x.1 : Int)))))) rfl
theorem f92_body : Tryz.f92.body = some (.seq (.region 0 (rg Tryz.f92 0) false) (.seq (.region 1 (rg Tryz.f92 1) false) (.ret))) := by kernel_rfl
set_option maxRecDepth 100000 in
set_option maxHeartbeats 8000000 in
theorem left_c (x : ScanV) (h : 0 ≤ x.2.1 ∧ x.2.1 ≤ x.1.length) (hl : x.1.length ≤ 1000000) : Pure Tryz.prog 92 [TV.agg [.s (st x.1), .s (i6 x.2.1), .s (i6 x.2.2)]] (vc (i6 ((List.length x.1 : Int) - x.2.1))) := by
 refine Pure.of_body Tryz.func92 f92_body (by kernel_rfl) Tryz.ntmps92 (by kernel_rfl) (by kernel_rfl) ?_
 refine gS [] [] 9 [(1, vp 1 0)] [(1, AObj.row [.s (st x.1), .s (i6 x.2.1), .s (i6 x.2.2)])] trivial ?_
 refine gS [] [InR .i64 ((List.length x.1 : Int) - x.2.1)] 9 [(2, vc (i6 ((List.length x.1 : Int) - x.2.1)))] [] (show InR .i64 ((List.length x.1 : Int) - x.2.1) from (inR64 (by omega) (by omega))) ?_
 exact gT (vc (i6 ((List.length x.1 : Int) - x.2.1))) rfl
theorem f126_body : Tryz.f126.body = some (.seq (.region 0 (rg Tryz.f126 0) false) (.seq (.region 1 (rg Tryz.f126 1) false) (.seq (.region 2 (rg Tryz.f126 2) false) (.ret)))) := by kernel_rfl
set_option maxRecDepth 100000 in
set_option maxHeartbeats 8000000 in
theorem fails_c (x : ScanV) (e : Int) : Pure Tryz.prog 126 [TV.agg [.s (st x.1), .s (i6 x.2.1), .s (i6 x.2.2)], tc (i6 e)] (AV.t (TV.agg [.s (st (((x.1, x.2.1, e) : ScanV).1)), .s (i6 (((x.1, x.2.1, e) : ScanV).2.1)), .s (i6 (((x.1, x.2.1, e) : ScanV).2.2))])) := by
 refine Pure.of_body Tryz.func126 f126_body (by kernel_rfl) Tryz.ntmps126 (by kernel_rfl) (by kernel_rfl) ?_
 refine gS [] [] 8 [(1, vc (i6 e)), (2, vp 2 0), (4, vp 4 0)] [(2, AObj.row [.s (st x.1), .s (i6 x.2.1), .s (i6 x.2.2)]), (4, AObj.row [.s (st []), .s (i6 0), .s (i6 0)])] trivial ?_
 refine gS [] [] 8 [(2, vp 2 0), (4, vp 4 0)] [(2, AObj.row [.s (st x.1), .s (i6 x.2.1), .s (i6 e)]), (4, AObj.row [.s (st []), .s (i6 0), .s (i6 0)])] trivial ?_
 refine gS [] [] 8 [(4, vp 4 0)] [(4, AObj.row [.s (st x.1), .s (i6 x.2.1), .s (i6 e)])] trivial ?_
 exact gT (AV.t (TV.agg [.s (st x.1), .s (i6 x.2.1), .s (i6 e)])) rfl
theorem f125_body : Tryz.f125.body = some (.seq (.region 0 (rg Tryz.f125 0) false) (.seq (.block 0 (.seq (.region 1 (rg Tryz.f125 1) false) (.cond (.tmp 9) (.seq (.region 2 (rg Tryz.f125 2) true) (.ret)) (.seq (.region 3 (rg Tryz.f125 3) false) (.cond (.tmp 14) (.seq (.region 4 (rg Tryz.f125 4) false) (.ret)) (.seq (.region 5 (rg Tryz.f125 5) false) (.cond (.tmp 25) (.seq (.region 6 (rg Tryz.f125 6) false) (.ret)) (.skip)))))))) (.seq (.region 7 (rg Tryz.f125 7) false) (.seq (.seq (.region 8 (rg Tryz.f125 8) false) (.block 1 (.loop (.seq (.region 9 (rg Tryz.f125 9) false) (.seq (.cond (.tmp 44) (.skip) (.exit 1)) (.seq (.block 2 (.seq (.region 10 (rg Tryz.f125 10) false) (.region 11 (rg Tryz.f125 11) false))) (.region 12 (rg Tryz.f125 12) false))))))) (.seq (.region 13 (rg Tryz.f125 13) false) (.seq (.region 14 (rg Tryz.f125 14) true) (.ret))))))) := by kernel_rfl
set_option maxRecDepth 100000 in
set_option maxHeartbeats 8000000 in
theorem Num_c (x : ScanV) (n : Int) (h1 : 1 ≤ n) (h2 : n ≤ 2) (hx : x.1.length ≤ 1000000) : Pure Tryz.prog 125 [TV.agg [.s (st x.1), .s (i6 x.2.1), .s (i6 x.2.2)], tc (i6 n)] (AV.tup [tc (u6 ((numQ x n).1)), TV.agg [.s (st (((numQ x n).2).1)), .s (i6 (((numQ x n).2).2.1)), .s (i6 (((numQ x n).2).2.2))]]) := by
 refine Pure.of_body Tryz.func125 f125_body (by kernel_rfl) Tryz.ntmps125 (by kernel_rfl) (by kernel_rfl) ?_
 refine gS [] [] 60 [(1, vc (i6 n)), (2, vp 2 0), (5, vp 5 0)] [(2, AObj.row [.s (st x.1), .s (i6 x.2.1), .s (i6 x.2.2)]), (5, AObj.row [.s (st []), .s (i6 0), .s (i6 0)])] trivial ?_
 refine gQ ?_
 refine AMx.block ?_
 refine gS [] [] 60 [(1, vc (i6 n)), (2, vp 2 0), (5, vp 5 0), (9, vc (bo (!decide (x.2.2 = 0))))] [(2, AObj.row [.s (st x.1), .s (i6 x.2.1), .s (i6 x.2.2)]), (5, AObj.row [.s (st []), .s (i6 0), .s (i6 0)])] trivial ?_
 refine gN (x.2.2 = 0) (fun hc1 => ?_) fun hc1 => ?_
 ·
  refine gY [] [(0, [2]), (2, [5])] [] 60 [(4, vc (u6 0)), (5, vp 5 0)] [(5, AObj.row [.s (st x.1), .s (i6 x.2.1), .s (i6 x.2.2)])] mixed trivial ?_
  exact gT (AV.tup [tc (u6 0), TV.agg [.s (st x.1), .s (i6 x.2.1), .s (i6 x.2.2)]]) (by rw [show numQ x n = (0, x) from by first | rw [num_1 (by assumption)] | rw [num_2 (by assumption) (by omega)] | rw [num_3 (by assumption) (by omega) (by assumption)] | (rw [num_4 (by assumption) (by omega) (by assumption)]; done) | (rw [num_4 (by assumption) (by omega) (by assumption)]; simp_all)])
 ·
  refine gS [(1, CE.call [] [] (vc (bo (decide (0 ≤ x.2.1) && decide (x.2.1 ≤ (List.length x.1 : Int))))) []), (5, CE.call [] [] (vc (bo (decide ((1 : Int) ≤ n) && decide ((n : Int) ≤ 8)))) [])] [Spec Tryz.prog 144 [TV.agg [.s (st x.1), .s (i6 x.2.1), .s (i6 x.2.2)]] (ofH []) (vc (bo (decide (0 ≤ x.2.1) && decide (x.2.1 ≤ (List.length x.1 : Int))))) (ofH []), ((!(decide (0 ≤ x.2.1) && decide (x.2.1 ≤ (List.length x.1 : Int)))) = false) → allP [(!(decide (0 ≤ x.2.1) && decide (x.2.1 ≤ (List.length x.1 : Int)))) = false, Spec Tryz.prog 145 [tc (i6 n)] (ofH []) (vc (bo (decide ((1 : Int) ≤ n) && decide ((n : Int) ≤ 8)))) (ofH [])], ((!(decide (0 ≤ x.2.1) && decide (x.2.1 ≤ (List.length x.1 : Int)))) = false) → allP [(!(decide (0 ≤ x.2.1) && decide (x.2.1 ≤ (List.length x.1 : Int)))) = false], (!(decide (0 ≤ x.2.1) && decide (x.2.1 ≤ (List.length x.1 : Int)))) = false → allP [(!(decide (0 ≤ x.2.1) && decide (x.2.1 ≤ (List.length x.1 : Int)))) = false]] 60 [(1, vc (i6 n)), (2, vp 2 0), (5, vp 5 0), (14, vc (bo ((!(decide (0 ≤ x.2.1) && decide (x.2.1 ≤ (List.length x.1 : Int)))) || (!(decide ((1 : Int) ≤ n) && decide ((n : Int) ≤ 8))))))] [(2, AObj.row [.s (st x.1), .s (i6 x.2.1), .s (i6 x.2.2)]), (5, AObj.row [.s (st []), .s (i6 0), .s (i6 0)])] ⟨(stands_c x), (fun hp => by have hq := hp; (try simp only [xT, xF, xA, xO, xB, xP, xN, xM, Bool.not_eq_true, Bool.not_eq_false] at hq); exact ⟨hp, (sized_c n)⟩), (fun hp => hp), (fun hp2 => (by first | exact hp2 | exact ⟨hp, hp2⟩))⟩ ?_
  refine gB (((!(decide (0 ≤ x.2.1) && decide (x.2.1 ≤ (List.length x.1 : Int)))) || (!(decide ((1 : Int) ≤ n) && decide ((n : Int) ≤ 8))))) (fun hc2 => ?_) fun hc2 => ?_
  ·
   try simp only [xT, xF, xA, xB, xO, xP, xN, xM] at hc2
   refine gS [(1, CE.call [] [] (AV.t (TV.agg [.s (st (((x.1, x.2.1, 2) : AL.Quill.ScanV).1)), .s (i6 (((x.1, x.2.1, 2) : AL.Quill.ScanV).2.1)), .s (i6 (((x.1, x.2.1, 2) : AL.Quill.ScanV).2.2))])) [])] [Spec Tryz.prog 126 [TV.agg [.s (st x.1), .s (i6 x.2.1), .s (i6 x.2.2)], tc (i6 2)] (ofH []) (AV.t (TV.agg [.s (st (((x.1, x.2.1, 2) : AL.Quill.ScanV).1)), .s (i6 (((x.1, x.2.1, 2) : AL.Quill.ScanV).2.1)), .s (i6 (((x.1, x.2.1, 2) : AL.Quill.ScanV).2.2))])) (ofH [])] 60 [(4, vc (u6 0)), (5, vp 5 0)] [(5, AObj.row [.s (st (((x.1, x.2.1, 2) : AL.Quill.ScanV).1)), .s (i6 (((x.1, x.2.1, 2) : AL.Quill.ScanV).2.1)), .s (i6 (((x.1, x.2.1, 2) : AL.Quill.ScanV).2.2))])] (fails_c x 2) ?_
   exact gT (AV.tup [tc (u6 0), TV.agg [.s (st (((x.1, x.2.1, 2) : AL.Quill.ScanV).1)), .s (i6 (((x.1, x.2.1, 2) : AL.Quill.ScanV).2.1)), .s (i6 (((x.1, x.2.1, 2) : AL.Quill.ScanV).2.2))]]) (by rw [show numQ x n = (0, ((x.1, x.2.1, 2) : AL.Quill.ScanV)) from by first | rw [num_1 (by assumption)] | rw [num_2 (by assumption) (by omega)] | rw [num_3 (by assumption) (by omega) (by assumption)] | (rw [num_4 (by assumption) (by omega) (by assumption)]; done) | (rw [num_4 (by assumption) (by omega) (by assumption)]; simp_all)])
  ·
   try simp only [xT, xF, xA, xB, xO, xP, xN, xM] at hc2
   refine gS [(1, CE.call [] [] (vc (i6 ((List.length x.1 : Int) - x.2.1))) [])] [Spec Tryz.prog 92 [TV.agg [.s (st x.1), .s (i6 x.2.1), .s (i6 x.2.2)]] (ofH []) (vc (i6 ((List.length x.1 : Int) - x.2.1))) (ofH [])] 60 [(1, vc (i6 n)), (2, vp 2 0), (5, vp 5 0), (25, vc (bo (decide ((List.length x.1 : Int) - x.2.1 < n))))] [(2, AObj.row [.s (st x.1), .s (i6 x.2.1), .s (i6 x.2.2)]), (5, AObj.row [.s (st []), .s (i6 0), .s (i6 0)])] (left_c x (by first | omega | (simp only [List.length_take, List.length_drop] at *; omega)) (by first | omega | (simp only [List.length_take, List.length_drop] at *; omega))) ?_
   refine gC ((List.length x.1 : Int) - x.2.1 < n) (fun hc3 => ?_) fun hc3 => ?_
   ·
    refine gS [(1, CE.call [] [] (AV.t (TV.agg [.s (st (((x.1, x.2.1, 3) : AL.Quill.ScanV).1)), .s (i6 (((x.1, x.2.1, 3) : AL.Quill.ScanV).2.1)), .s (i6 (((x.1, x.2.1, 3) : AL.Quill.ScanV).2.2))])) [])] [Spec Tryz.prog 126 [TV.agg [.s (st x.1), .s (i6 x.2.1), .s (i6 x.2.2)], tc (i6 3)] (ofH []) (AV.t (TV.agg [.s (st (((x.1, x.2.1, 3) : AL.Quill.ScanV).1)), .s (i6 (((x.1, x.2.1, 3) : AL.Quill.ScanV).2.1)), .s (i6 (((x.1, x.2.1, 3) : AL.Quill.ScanV).2.2))])) (ofH [])] 60 [(4, vc (u6 0)), (5, vp 5 0)] [(5, AObj.row [.s (st (((x.1, x.2.1, 3) : AL.Quill.ScanV).1)), .s (i6 (((x.1, x.2.1, 3) : AL.Quill.ScanV).2.1)), .s (i6 (((x.1, x.2.1, 3) : AL.Quill.ScanV).2.2))])] (fails_c x 3) ?_
    exact gT (AV.tup [tc (u6 0), TV.agg [.s (st (((x.1, x.2.1, 3) : AL.Quill.ScanV).1)), .s (i6 (((x.1, x.2.1, 3) : AL.Quill.ScanV).2.1)), .s (i6 (((x.1, x.2.1, 3) : AL.Quill.ScanV).2.2))]]) (by rw [show numQ x n = (0, ((x.1, x.2.1, 3) : AL.Quill.ScanV)) from by first | rw [num_1 (by assumption)] | rw [num_2 (by assumption) (by omega)] | rw [num_3 (by assumption) (by omega) (by assumption)] | (rw [num_4 (by assumption) (by omega) (by assumption)]; done) | (rw [num_4 (by assumption) (by omega) (by assumption)]; simp_all)])
   ·
    refine AMx.skip ?_
    refine AMx.blk ?_
    refine gS [] [] 60 [(1, vc (i6 n)), (2, vp 2 0), (5, vp 5 0), (6, vc (u6 0))] [(2, AObj.row [.s (st x.1), .s (i6 x.2.1), .s (i6 x.2.2)]), (5, AObj.row [.s (st []), .s (i6 0), .s (i6 0)])] trivial ?_
    refine gQ ?_
    refine gS [] [InR .i64 (x.2.1 + n), 0 ≤ x.2.1 + n, x.2.1 + n ≤ List.length x.1, 0 ≤ x.2.1, x.2.1 ≤ x.2.1 + n] 60 [(1, vc (i6 n)), (2, vp 2 0), (5, vp 5 0), (6, vc (u6 0)), (41, vc (SC.sl 1 UInt8 0 rowU8 (List.drop (x.2.1).toNat (List.take (x.2.1 + n).toNat x.1)))), (42, vc (i6 (List.length (List.drop (x.2.1).toNat (List.take (x.2.1 + n).toNat x.1) : List UInt8) : Int))), (43, vc (i6 0))] [(2, AObj.row [.s (st x.1), .s (i6 x.2.1), .s (i6 x.2.2)]), (5, AObj.row [.s (st []), .s (i6 0), .s (i6 0)])] ⟨(inR64 (by first | omega | (simp only [List.length_take, List.length_drop] at *; omega)) (by first | omega | (simp only [List.length_take, List.length_drop] at *; omega))), (by first | omega | (simp only [List.length_take, List.length_drop] at *; omega)), (by first | omega | (simp only [List.length_take, List.length_drop] at *; omega)), (by first | omega | (simp only [List.length_take, List.length_drop] at *; omega)), (show x.2.1 ≤ x.2.1 + n from (by first | omega | (simp only [List.length_take, List.length_drop] at *; omega)))⟩ ?_
    refine AMx.block ?_
    refine AMx.ent (s' := AS.lst 60 [(1, vc (i6 n)), (2, vp 2 0), (5, vp 5 0), (6, vc (u6 0)), (41, vc (SC.sl 1 UInt8 0 rowU8 (List.drop (x.2.1).toNat (List.take (x.2.1 + n).toNat x.1)))), (42, vc (i6 (List.length (List.drop (x.2.1).toNat (List.take (x.2.1 + n).toNat x.1) : List UInt8) : Int))), (43, vc (i6 0))] [(2, AObj.row [.s (st x.1), .s (i6 x.2.1), .s (i6 x.2.2)]), (5, AObj.row [.s (st []), .s (i6 0), .s (i6 0)])]) (ent_proj [1, 2, 5, 6, 41, 42, 43] [2, 5]) ?_
    refine AMx.loop (fun mm ss => ∃ (k : Nat), (k ≤ List.length (List.drop (x.2.1).toNat (List.take (x.2.1 + n).toNat x.1))) ∧ mm = List.length (List.drop (x.2.1).toNat (List.take (x.2.1 + n).toNat x.1)) - k ∧ ss = AS.lst 60 [(1, vc (i6 n)), (2, vp 2 0), (5, vp 5 0), (6, vc (u6 (bigS (List.take k (List.drop (x.2.1).toNat (List.take (x.2.1 + n).toNat x.1)))))), (41, vc (SC.sl 1 UInt8 0 rowU8 (List.drop (x.2.1).toNat (List.take (x.2.1 + n).toNat x.1)))), (42, vc (i6 (List.length (List.drop (x.2.1).toNat (List.take (x.2.1 + n).toNat x.1) : List UInt8) : Int))), (43, vc (i6 (k : Int)))] [(2, AObj.row [.s (st x.1), .s (i6 x.2.1), .s (i6 x.2.2)]), (5, AObj.row [.s (st []), .s (i6 0), .s (i6 0)])]) ⟨0, ?_, rfl, ?_⟩ ?_
    · omega
    · rfl
    rintro mm ss ⟨k, hI, rfl, rfl⟩
    refine gS [] [] 60 [(1, vc (i6 n)), (2, vp 2 0), (5, vp 5 0), (6, vc (u6 (bigS (List.take k (List.drop (x.2.1).toNat (List.take (x.2.1 + n).toNat x.1)))))), (41, vc (SC.sl 1 UInt8 0 rowU8 (List.drop (x.2.1).toNat (List.take (x.2.1 + n).toNat x.1)))), (42, vc (i6 (List.length (List.drop (x.2.1).toNat (List.take (x.2.1 + n).toNat x.1) : List UInt8) : Int))), (43, vc (i6 (k : Int))), (44, vc (bo (decide ((k : Int) < (List.length (List.drop (x.2.1).toNat (List.take (x.2.1 + n).toNat x.1) : List UInt8) : Int)))))] [(2, AObj.row [.s (st x.1), .s (i6 x.2.1), .s (i6 x.2.2)]), (5, AObj.row [.s (st []), .s (i6 0), .s (i6 0)])] trivial ?_
    refine gQ ?_
    refine gC ((k : Int) < (List.length (List.drop (x.2.1).toNat (List.take (x.2.1 + n).toNat x.1) : List UInt8) : Int)) (fun hc4 => ?_) fun hc4 => ?_
    ·
     refine AMx.skip ?_
     refine gQ ?_
     refine AMx.block ?_
     refine gS [] [(0 : Int) ≤ (k : Int), (k : Int) < List.length (List.drop (x.2.1).toNat (List.take (x.2.1 + n).toNat x.1) : List UInt8)] 60 [(1, vc (i6 n)), (2, vp 2 0), (5, vp 5 0), (6, vc (u6 (bigS (List.take k (List.drop (x.2.1).toNat (List.take (x.2.1 + n).toNat x.1)))))), (8, vc (u8 ((List.getD (List.drop (x.2.1).toNat (List.take (x.2.1 + n).toNat x.1)) k 0).toNat : Int))), (41, vc (SC.sl 1 UInt8 0 rowU8 (List.drop (x.2.1).toNat (List.take (x.2.1 + n).toNat x.1)))), (42, vc (i6 (List.length (List.drop (x.2.1).toNat (List.take (x.2.1 + n).toNat x.1) : List UInt8) : Int))), (43, vc (i6 (k : Int)))] [(2, AObj.row [.s (st x.1), .s (i6 x.2.1), .s (i6 x.2.2)]), (5, AObj.row [.s (st []), .s (i6 0), .s (i6 0)])] ⟨(by first | omega | (simp only [List.length_take, List.length_drop] at *; omega)), (show (k : Int) < List.length (List.drop (x.2.1).toNat (List.take (x.2.1 + n).toNat x.1) : List UInt8) from (by first | omega | (simp only [List.length_take, List.length_drop] at *; omega)))⟩ ?_
     refine gR [] [(0 : Int) ≤ 8] 60 [(1, vc (i6 n)), (2, vp 2 0), (5, vp 5 0), (6, vc (u6 (IntKind.wrap .u64 ((BitVec.ofInt 64 (IntKind.wrap .u64 ((bigS (List.take k (List.drop (x.2.1).toNat (List.take (x.2.1 + n).toNat x.1)))) * 2 ^ (min (8 : Int).toNat (IntKind.bits .u64)))) ||| BitVec.ofInt 64 ((List.getD (List.drop (x.2.1).toNat (List.take (x.2.1 + n).toNat x.1)) k 0).toNat : Int)).toNat)))), (41, vc (SC.sl 1 UInt8 0 rowU8 (List.drop (x.2.1).toNat (List.take (x.2.1 + n).toNat x.1)))), (42, vc (i6 (List.length (List.drop (x.2.1).toNat (List.take (x.2.1 + n).toNat x.1) : List UInt8) : Int))), (43, vc (i6 (k : Int)))] [(2, AObj.row [.s (st x.1), .s (i6 x.2.1), .s (i6 x.2.2)]), (5, AObj.row [.s (st []), .s (i6 0), .s (i6 0)])] (show (0 : Int) ≤ 8 from (by first | omega | (simp only [List.length_take, List.length_drop] at *; omega))) ?_
     refine AMx.blk ?_
     refine gR [] [InR .i64 ((k : Int) + 1)] 60 [(1, vc (i6 n)), (2, vp 2 0), (5, vp 5 0), (6, vc (u6 (IntKind.wrap .u64 ((BitVec.ofInt 64 (IntKind.wrap .u64 ((bigS (List.take k (List.drop (x.2.1).toNat (List.take (x.2.1 + n).toNat x.1)))) * 2 ^ (min (8 : Int).toNat (IntKind.bits .u64)))) ||| BitVec.ofInt 64 ((List.getD (List.drop (x.2.1).toNat (List.take (x.2.1 + n).toNat x.1)) k 0).toNat : Int)).toNat)))), (41, vc (SC.sl 1 UInt8 0 rowU8 (List.drop (x.2.1).toNat (List.take (x.2.1 + n).toNat x.1)))), (42, vc (i6 (List.length (List.drop (x.2.1).toNat (List.take (x.2.1 + n).toNat x.1) : List UInt8) : Int))), (43, vc (i6 ((k : Int) + 1)))] [(2, AObj.row [.s (st x.1), .s (i6 x.2.1), .s (i6 x.2.2)]), (5, AObj.row [.s (st []), .s (i6 0), .s (i6 0)])] (show InR .i64 ((k : Int) + 1) from (inR64 (by first | omega | (simp only [List.length_take, List.length_drop] at *; omega)) (by first | omega | (simp only [List.length_take, List.length_drop] at *; omega)))) ?_
     refine AMx.ent_inv (s' := AS.lst 60 [(1, vc (i6 n)), (2, vp 2 0), (5, vp 5 0), (6, vc (u6 (IntKind.wrap .u64 ((BitVec.ofInt 64 (IntKind.wrap .u64 ((bigS (List.take k (List.drop (x.2.1).toNat (List.take (x.2.1 + n).toNat x.1)))) * 2 ^ (min (8 : Int).toNat (IntKind.bits .u64)))) ||| BitVec.ofInt 64 ((List.getD (List.drop (x.2.1).toNat (List.take (x.2.1 + n).toNat x.1)) k 0).toNat : Int)).toNat)))), (41, vc (SC.sl 1 UInt8 0 rowU8 (List.drop (x.2.1).toNat (List.take (x.2.1 + n).toNat x.1)))), (42, vc (i6 (List.length (List.drop (x.2.1).toNat (List.take (x.2.1 + n).toNat x.1) : List UInt8) : Int))), (43, vc (i6 ((k : Int) + 1)))] [(2, AObj.row [.s (st x.1), .s (i6 x.2.1), .s (i6 x.2.2)]), (5, AObj.row [.s (st []), .s (i6 0), .s (i6 0)])]) (ent_proj [1, 2, 5, 6, 41, 42, 43] [2, 5]) ?_
     refine AMx.inv ⟨_, ?_, k + 1, ?_, rfl, ?_⟩
     rotate_left
     · omega
     · have z1 := big_2 (l := List.take k (List.drop (x.2.1).toNat (List.take (x.2.1 + n).toNat x.1))) (by simp only [List.length_take, List.length_drop]; omega); rw [or_big z1.1 (by omega) (Rune.byte_lt _ _), ← big_step _ k (by omega)]; rfl
     · omega
    ·
     refine AMx.exit ?_
     refine AMx.code_exit ?_
     refine AMx.inv_exit ?_
     refine AMx.blk_exit ?_
     rw [show List.take k (List.drop (x.2.1).toNat (List.take (x.2.1 + n).toNat x.1)) = List.drop (x.2.1).toNat (List.take (x.2.1 + n).toNat x.1) from List.take_of_length_le (by simp only [List.length_take, List.length_drop] at *; omega)]
     refine gS [] [InR .i64 (x.2.1 + n)] 60 [(2, vp 2 0), (5, vp 5 0), (6, vc (u6 (bigS (List.drop (x.2.1).toNat (List.take (x.2.1 + n).toNat x.1)))))] [(2, AObj.row [.s (st x.1), .s (i6 (x.2.1 + n)), .s (i6 x.2.2)]), (5, AObj.row [.s (st []), .s (i6 0), .s (i6 0)])] (show InR .i64 (x.2.1 + n) from (inR64 (by first | omega | (simp only [List.length_take, List.length_drop] at *; omega)) (by first | omega | (simp only [List.length_take, List.length_drop] at *; omega)))) ?_
     refine gY [] [(1, [2]), (3, [5])] [] 60 [(4, vc (u6 (bigS (List.drop (x.2.1).toNat (List.take (x.2.1 + n).toNat x.1))))), (5, vp 5 0)] [(5, AObj.row [.s (st x.1), .s (i6 (x.2.1 + n)), .s (i6 x.2.2)])] mixed trivial ?_
     exact gT (AV.tup [tc (u6 (bigS (List.drop (x.2.1).toNat (List.take (x.2.1 + n).toNat x.1)))), TV.agg [.s (st x.1), .s (i6 (x.2.1 + n)), .s (i6 x.2.2)]]) (by rw [show numQ x n = (bigS (List.drop (x.2.1).toNat (List.take (x.2.1 + n).toNat x.1)), ((x.1, x.2.1 + n, x.2.2) : AL.Quill.ScanV)) from by first | rw [num_1 (by assumption)] | rw [num_2 (by assumption) (by omega)] | rw [num_3 (by assumption) (by omega) (by assumption)] | (rw [num_4 (by assumption) (by omega) (by assumption)]; done) | (rw [num_4 (by assumption) (by omega) (by assumption)]; simp_all)])
theorem f93_body : Tryz.f93.body = some (.seq (.region 0 (rg Tryz.f93 0) false) (.seq (.region 1 (rg Tryz.f93 1) false) (.seq (.seq (.region 2 (rg Tryz.f93 2) false) (.cond (.tmp 14) (.seq (.region 3 (rg Tryz.f93 3) true) (.ret)) (.skip))) (.seq (.seq (.region 4 (rg Tryz.f93 4) false) (.cond (.tmp 20) (.seq (.region 5 (rg Tryz.f93 5) false) (.ret)) (.skip))) (.seq (.region 6 (rg Tryz.f93 6) false) (.seq (.region 7 (rg Tryz.f93 7) false) (.seq (.region 8 (rg Tryz.f93 8) true) (.ret)))))))) := by kernel_rfl
set_option maxRecDepth 100000 in
set_option maxHeartbeats 8000000 in
theorem Row_c (x : ScanV) (hx : x.1.length ≤ 1000000) : Pure Tryz.prog 93 [TV.agg [.s (st x.1), .s (i6 x.2.1), .s (i6 x.2.2)]] (AV.tup [tc (st ((rowQ x).1)), TV.agg [.s (st (((rowQ x).2).1)), .s (i6 (((rowQ x).2).2.1)), .s (i6 (((rowQ x).2).2.2))]]) := by
 refine Pure.of_body Tryz.func93 f93_body (by kernel_rfl) Tryz.ntmps93 (by kernel_rfl) (by kernel_rfl) ?_
 have ql := num_len x 2
 have qc : (numQ x 2).1 = 0 ∧ ¬ (numQ x 2).2.2.2 = 0 ∨ (0 ≤ x.2.1 ∧ x.2.1 + 2 ≤ (x.1.length : Int) ∧ (numQ x 2).2.2.1 = x.2.1 + 2 ∧ 0 ≤ (numQ x 2).1 ∧ (numQ x 2).1 < 65536) := by rcases num_cases x (n := 2) (by omega) (by omega) with q | ⟨_, q2, q3, q4, q5⟩; exact .inl q; exact .inr ⟨q2, q3, by rw [q4], q5⟩
 refine gS [] [] 38 [(1, vp 1 0), (3, vp 3 0)] [(1, AObj.row [.s (st x.1), .s (i6 x.2.1), .s (i6 x.2.2)]), (3, AObj.row [.s (st []), .s (i6 0), .s (i6 0)])] trivial ?_
 refine gS [(1, CE.call [] [] (AV.tup [tc (u6 ((numQ x 2).1)), TV.agg [.s (st (((numQ x 2).2).1)), .s (i6 (((numQ x 2).2).2.1)), .s (i6 (((numQ x 2).2).2.2))]]) [])] [Spec Tryz.prog 125 [TV.agg [.s (st x.1), .s (i6 x.2.1), .s (i6 x.2.2)], tc (i6 2)] (ofH []) (AV.tup [tc (u6 ((numQ x 2).1)), TV.agg [.s (st (((numQ x 2).2).1)), .s (i6 (((numQ x 2).2).2.1)), .s (i6 (((numQ x 2).2).2.2))]]) (ofH [])] 38 [(1, vp 1 0), (3, vp 3 0), (4, vc (u6 ((numQ x 2).1))), (5, vp 5 0)] [(1, AObj.row [.s (st x.1), .s (i6 x.2.1), .s (i6 x.2.2)]), (3, AObj.row [.s (st []), .s (i6 0), .s (i6 0)]), (5, AObj.row [.s (st (((numQ x 2).2).1)), .s (i6 (((numQ x 2).2).2.1)), .s (i6 (((numQ x 2).2).2.2))])] (Num_c x 2 (by omega) (by omega) (by first | omega | (rw [ql] at *; omega) | (rw [ql]; omega))) ?_
 refine gQ ?_
 refine gS [] [] 38 [(1, vp 1 0), (3, vp 3 0), (4, vc (u6 ((numQ x 2).1))), (5, vp 5 0), (14, vc (bo (!decide (((numQ x 2).2).2.2 = 0))))] [(1, AObj.row [.s (st x.1), .s (i6 x.2.1), .s (i6 x.2.2)]), (3, AObj.row [.s (st []), .s (i6 0), .s (i6 0)]), (5, AObj.row [.s (st (((numQ x 2).2).1)), .s (i6 (((numQ x 2).2).2.1)), .s (i6 (((numQ x 2).2).2.2))])] trivial ?_
 refine gN (((numQ x 2).2).2.2 = 0) (fun hc1 => ?_) fun hc1 => ?_
 ·
  refine gY [] [(0, [5]), (2, [3])] [] 38 [(2, vc (st [])), (3, vp 3 0)] [(3, AObj.row [.s (st (((numQ x 2).2).1)), .s (i6 (((numQ x 2).2).2.1)), .s (i6 (((numQ x 2).2).2.2))])] mixed trivial ?_
  exact gT (AV.tup [tc (st []), TV.agg [.s (st (((numQ x 2).2).1)), .s (i6 (((numQ x 2).2).2.1)), .s (i6 (((numQ x 2).2).2.2))]]) (by rw [show rowQ x = ([], ((numQ x 2).2)) from by first | rw [row_1 (by assumption)] | rw [row_2 (by assumption) (by assumption)] | (rw [row_3 (by assumption) (by assumption)]; done) | (rw [row_3 (by assumption) (by assumption)]; simp only [num_len, *])])
 ·
  refine AMx.skip ?_
  refine gQ ?_
  refine gS [(1, CE.call [] [] (vc (i6 ((List.length ((numQ x 2).2).1 : Int) - ((numQ x 2).2).2.1))) [])] [Spec Tryz.prog 92 [TV.agg [.s (st (((numQ x 2).2).1)), .s (i6 (((numQ x 2).2).2.1)), .s (i6 (((numQ x 2).2).2.2))]] (ofH []) (vc (i6 ((List.length ((numQ x 2).2).1 : Int) - ((numQ x 2).2).2.1))) (ofH []), InR .i64 ((numQ x 2).1)] 38 [(1, vp 1 0), (3, vp 3 0), (4, vc (u6 ((numQ x 2).1))), (5, vp 5 0), (20, vc (bo (decide ((List.length ((numQ x 2).2).1 : Int) - ((numQ x 2).2).2.1 < (numQ x 2).1))))] [(1, AObj.row [.s (st x.1), .s (i6 x.2.1), .s (i6 x.2.2)]), (3, AObj.row [.s (st []), .s (i6 0), .s (i6 0)]), (5, AObj.row [.s (st (((numQ x 2).2).1)), .s (i6 (((numQ x 2).2).2.1)), .s (i6 (((numQ x 2).2).2.2))])] ⟨(left_c ((numQ x 2).2) (by first | omega | (rw [ql] at *; omega) | (rw [ql]; omega)) (by first | omega | (rw [ql] at *; omega) | (rw [ql]; omega))), (show InR .i64 ((numQ x 2).1) from (inR64 (by first | omega | (rw [ql] at *; omega) | (rw [ql]; omega)) (by first | omega | (rw [ql] at *; omega) | (rw [ql]; omega))))⟩ ?_
  refine gC ((List.length ((numQ x 2).2).1 : Int) - ((numQ x 2).2).2.1 < (numQ x 2).1) (fun hc2 => ?_) fun hc2 => ?_
  ·
   refine gS [(1, CE.call [] [] (AV.t (TV.agg [.s (st (((x.1, x.2.1, 3) : AL.Quill.ScanV).1)), .s (i6 (((x.1, x.2.1, 3) : AL.Quill.ScanV).2.1)), .s (i6 (((x.1, x.2.1, 3) : AL.Quill.ScanV).2.2))])) [])] [Spec Tryz.prog 126 [TV.agg [.s (st x.1), .s (i6 x.2.1), .s (i6 x.2.2)], tc (i6 3)] (ofH []) (AV.t (TV.agg [.s (st (((x.1, x.2.1, 3) : AL.Quill.ScanV).1)), .s (i6 (((x.1, x.2.1, 3) : AL.Quill.ScanV).2.1)), .s (i6 (((x.1, x.2.1, 3) : AL.Quill.ScanV).2.2))])) (ofH [])] 38 [(2, vc (st [])), (3, vp 3 0)] [(3, AObj.row [.s (st (((x.1, x.2.1, 3) : AL.Quill.ScanV).1)), .s (i6 (((x.1, x.2.1, 3) : AL.Quill.ScanV).2.1)), .s (i6 (((x.1, x.2.1, 3) : AL.Quill.ScanV).2.2))])] (fails_c x 3) ?_
   exact gT (AV.tup [tc (st []), TV.agg [.s (st (((x.1, x.2.1, 3) : AL.Quill.ScanV).1)), .s (i6 (((x.1, x.2.1, 3) : AL.Quill.ScanV).2.1)), .s (i6 (((x.1, x.2.1, 3) : AL.Quill.ScanV).2.2))]]) (by rw [show rowQ x = ([], ((x.1, x.2.1, 3) : AL.Quill.ScanV)) from by first | rw [row_1 (by assumption)] | rw [row_2 (by assumption) (by assumption)] | (rw [row_3 (by assumption) (by assumption)]; done) | (rw [row_3 (by assumption) (by assumption)]; simp only [num_len, *])])
  ·
   refine AMx.skip ?_
   refine gS [] [] 38 [(1, vp 1 0), (3, vp 3 0), (4, vc (u6 ((numQ x 2).1))), (5, vp 5 0), (6, vc (i6 (((numQ x 2).2).2.1)))] [(1, AObj.row [.s (st x.1), .s (i6 x.2.1), .s (i6 x.2.2)]), (3, AObj.row [.s (st []), .s (i6 0), .s (i6 0)]), (5, AObj.row [.s (st (((numQ x 2).2).1)), .s (i6 (((numQ x 2).2).2.1)), .s (i6 (((numQ x 2).2).2.2))])] trivial ?_
   refine gS [] [InR .i64 ((numQ x 2).1), InR .i64 ((((numQ x 2).2).2.1) + ((numQ x 2).1))] 38 [(1, vp 1 0), (3, vp 3 0), (5, vp 5 0), (6, vc (i6 (((numQ x 2).2).2.1)))] [(1, AObj.row [.s (st x.1), .s (i6 x.2.1), .s (i6 x.2.2)]), (3, AObj.row [.s (st []), .s (i6 0), .s (i6 0)]), (5, AObj.row [.s (st (((numQ x 2).2).1)), .s (i6 ((((numQ x 2).2).2.1) + ((numQ x 2).1))), .s (i6 (((numQ x 2).2).2.2))])] ⟨(inR64 (by first | omega | (rw [ql] at *; omega) | (rw [ql]; omega)) (by first | omega | (rw [ql] at *; omega) | (rw [ql]; omega))), (show InR .i64 ((((numQ x 2).2).2.1) + ((numQ x 2).1)) from (inR64 (by first | omega | (rw [ql] at *; omega) | (rw [ql]; omega)) (by first | omega | (rw [ql] at *; omega) | (rw [ql]; omega))))⟩ ?_
   refine gY [] [(1, [1]), (4, [5]), (6, [5]), (8, [3])] [0 ≤ (((numQ x 2).2).2.1) + ((numQ x 2).1), (((numQ x 2).2).2.1) + ((numQ x 2).1) ≤ List.length x.1, 0 ≤ ((numQ x 2).2).2.1, ((numQ x 2).2).2.1 ≤ (((numQ x 2).2).2.1) + ((numQ x 2).1)] 38 [(2, vc (st (List.drop (((numQ x 2).2).2.1).toNat (List.take ((((numQ x 2).2).2.1) + ((numQ x 2).1)).toNat x.1)))), (3, vp 3 0)] [(3, AObj.row [.s (st (((numQ x 2).2).1)), .s (i6 ((((numQ x 2).2).2.1) + ((numQ x 2).1))), .s (i6 (((numQ x 2).2).2.2))])] mixed ⟨(by first | omega | (rw [ql] at *; omega) | (rw [ql]; omega)), (by first | omega | (rw [ql] at *; omega) | (rw [ql]; omega)), (by first | omega | (rw [ql] at *; omega) | (rw [ql]; omega)), (show ((numQ x 2).2).2.1 ≤ (((numQ x 2).2).2.1) + ((numQ x 2).1) from (by first | omega | (rw [ql] at *; omega) | (rw [ql]; omega)))⟩ ?_
   exact gT (AV.tup [tc (st (List.drop (((numQ x 2).2).2.1).toNat (List.take ((((numQ x 2).2).2.1) + ((numQ x 2).1)).toNat x.1))), TV.agg [.s (st (((numQ x 2).2).1)), .s (i6 ((((numQ x 2).2).2.1) + ((numQ x 2).1))), .s (i6 (((numQ x 2).2).2.2))]]) (by rw [show rowQ x = (List.drop (((numQ x 2).2).2.1).toNat (List.take ((((numQ x 2).2).2.1) + ((numQ x 2).1)).toNat x.1), ((((numQ x 2).2).1, (((numQ x 2).2).2.1) + ((numQ x 2).1), ((numQ x 2).2).2.2) : AL.Quill.ScanV)) from by first | rw [row_1 (by assumption)] | rw [row_2 (by assumption) (by assumption)] | (rw [row_3 (by assumption) (by assumption)]; done) | (rw [row_3 (by assumption) (by assumption)]; simp only [num_len, *])])
end AL.Quill
namespace AL.Policy
open Go Go.Proofs AL AL.Rune
set_option linter.unusedVariables false
set_option linter.unusedSimpArgs false
theorem f96_body : Tryz.f96.body = some (.seq (.region 0 (rg Tryz.f96 0) false) (.seq (.region 1 (rg Tryz.f96 1) false) (.seq (.region 2 (rg Tryz.f96 2) false) (.seq (.seq (.region 3 (rg Tryz.f96 3) false) (.block 0 (.loop (.seq (.region 4 (rg Tryz.f96 4) false) (.seq (.cond (.tmp 11) (.skip) (.exit 0)) (.block 1 (.seq (.region 5 (rg Tryz.f96 5) false) (.seq (.block 2 (.loop (.seq (.seq (.region 6 (rg Tryz.f96 6) false) (.cond (.tmp 21) (.skip) (.exit 2))) (.block 3 (.region 7 (rg Tryz.f96 7) false))))) (.seq (.seq (.region 8 (rg Tryz.f96 8) false) (.cond (.tmp 25) (.seq (.region 9 (rg Tryz.f96 9) false) (.ret)) (.skip))) (.seq (.region 10 (rg Tryz.f96 10) false) (.region 11 (rg Tryz.f96 11) false))))))))))) (.seq (.region 12 (rg Tryz.f96 12) false) (.ret)))))) := by kernel_rfl
set_option maxRecDepth 100000 in
set_option maxHeartbeats 8000000 in
theorem caps_c (s : Bytes) : Pure Tryz.prog 96 [tc (st s)] (AV.tup [tc (u8 ((capsR s).1)), tc (bo ((capsR s).2))]) := by
 refine Pure.of_body Tryz.func96 f96_body (by kernel_rfl) Tryz.ntmps96 (by kernel_rfl) (by kernel_rfl) ?_
 refine AMx.str 0 (b := s) rfl (fun hls => ?_)
 simp only [maxLen] at hls
 refine gS [] [] 33 [(0, vc (st s))] [] trivial ?_
 refine gS [] [] 33 [(0, vc (st s)), (4, vc (u8 0))] [] trivial ?_
 refine gS [] [] 33 [(0, vc (st s)), (4, vc (u8 0)), (5, vc (i6 0))] [] trivial ?_
 refine gQ ?_
 refine gS [] [] 33 [(4, vc (u8 0)), (5, vc (i6 0)), (9, vp 9 0)] [(9, AObj.iter s 0)] trivial ?_
 refine AMx.block ?_
 refine AMx.ent (s' := AS.lst 33 [(4, vc (u8 0)), (5, vc (i6 0)), (9, vp 9 0)] [(9, AObj.iter s 0)]) (ent_proj [4, 5, 9] [9]) ?_
 refine AMx.loop (fun mm ss => ∃ (pos : Nat) (out : Nat), (pos ≤ s.length ∧ out < 64 ∧ laysN out = List.take pos s) ∧ mm = s.length - pos ∧ ss = AS.lst 33 [(4, vc (u8 (out : Int))), (5, vc (i6 (atN out : Int))), (9, vp 9 0)] [(9, AObj.iter s pos)]) ⟨0, 0, ?_, rfl, ?_⟩ ?_
 · exact ⟨Nat.zero_le _, by omega, by rw [List.take_zero]; rfl⟩
 · rfl
 rintro mm ss ⟨pos, out, ⟨hI, hO, hS⟩, rfl, rfl⟩
 refine gQ ?_
 rcases Nat.lt_or_ge pos (List.length s) with hn1 | hn1
 ·
  have hd1 := AL.Rune.dec_ok hn1
  refine gR [(0, CE.str [])] [pos < List.length s, ((pos : Nat) : Int) ≤ 9223372036854775807] 33 [(4, vc (u8 (out : Int))), (5, vc (i6 (atN out : Int))), (9, vp 9 0), (10, AV.tup [tc (bo true), tc (i6 (pos : Int)), tc (i3 ((decS s pos).1 : Int))]), (11, vc (bo true))] [(9, AObj.iter s (pos + (decS s pos).2))] ⟨(by first | omega | (simp only [List.length_cons, List.length_nil]; omega)), (show ((pos : Nat) : Int) ≤ 9223372036854775807 from (by first | omega | (simp only [List.length_cons, List.length_nil]; omega)))⟩ ?_
  refine gQ ?_
  refine gBt ?_
  refine AMx.skip ?_
  refine AMx.block ?_
  refine gS [] [] 33 [(4, vc (u8 (out : Int))), (5, vc (i6 (atN out : Int))), (7, vc (i3 ((decS s pos).1 : Int))), (9, vp 9 0)] [(9, AObj.iter s (pos + (decS s pos).2))] trivial ?_
  refine gQ ?_
  refine AMx.block ?_
  refine AMx.ent (s' := AS.lst 33 [(4, vc (u8 (out : Int))), (5, vc (i6 (atN out : Int))), (7, vc (i3 ((decS s pos).1 : Int))), (9, vp 9 0)] [(9, AObj.iter s (pos + (decS s pos).2))]) (ent_proj [4, 5, 7, 9] [9]) ?_
  refine AMx.loop (fun mm ss => ∃ (j : Nat), (atN out ≤ j ∧ j ≤ 6 ∧ ∀ m, atN out ≤ m → m < j → ¬ (List.getD lets m 0).toNat = (decS s pos).1) ∧ mm = 6 - j ∧ ss = AS.lst 33 [(4, vc (u8 (out : Int))), (5, vc (i6 (j : Int))), (7, vc (i3 ((decS s pos).1 : Int))), (9, vp 9 0)] [(9, AObj.iter s (pos + (decS s pos).2))]) ⟨atN out, ?_, rfl, ?_⟩ ?_
  · exact ⟨Nat.le_refl _, at_le out hO, fun m h1 h2 => by omega⟩
  · rfl
  rintro mm ss ⟨j, ⟨hA, hJ, hL⟩, rfl, rfl⟩
  refine gQ ?_
  refine gS [] [((decide ((j : Int) < 6)) = true) → allP [(decide ((j : Int) < 6)) = true, (0 : Int) ≤ (j : Int), (j : Int) < List.length ([114, 119, 100, 120, 108, 115] : List UInt8)], ((decide ((j : Int) < 6)) = true) → allP [(decide ((j : Int) < 6)) = true], ((decide ((j : Int) < 6)) = true) → allP [(decide ((j : Int) < 6)) = true, (decide ((j : Int) < 6)) = true], (decide ((j : Int) < 6)) = true → allP [(decide ((j : Int) < 6)) = true]] 33 [(4, vc (u8 (out : Int))), (5, vc (i6 (j : Int))), (7, vc (i3 ((decS s pos).1 : Int))), (9, vp 9 0), (21, vc (bo ((decide ((j : Int) < 6)) && (!decide (((List.getD ([114, 119, 100, 120, 108, 115] : List UInt8) j 0).toNat : Int) = ((decS s pos).1 : Int))))))] [(9, AObj.iter s (pos + (decS s pos).2))] ⟨(fun hp => by have hq := hp; (try simp only [xT, xF, xA, xO, xB, xP, xN, xM, Bool.not_eq_true, Bool.not_eq_false] at hq); exact ⟨hp, (by first | omega | (simp only [List.length_cons, List.length_nil]; omega)), (show (j : Int) < List.length ([114, 119, 100, 120, 108, 115] : List UInt8) from (by first | omega | (simp only [List.length_cons, List.length_nil]; omega)))⟩), (fun hp => hp), (fun hp => ⟨hp, hp⟩), (fun hp2 => (by first | exact hp2 | exact ⟨hp, hp2⟩))⟩ ?_
  refine gB (((decide ((j : Int) < 6)) && (!decide (((List.getD ([114, 119, 100, 120, 108, 115] : List UInt8) j 0).toNat : Int) = ((decS s pos).1 : Int))))) (fun hc2 => ?_) fun hc2 => ?_
  ·
   try simp only [xT, xF, xA, xB, xN, xM] at hc2
   refine AMx.skip ?_
   refine AMx.block ?_
   refine gR [] [InR .i64 ((j : Int) + 1)] 33 [(4, vc (u8 (out : Int))), (5, vc (i6 ((j : Int) + 1))), (7, vc (i3 ((decS s pos).1 : Int))), (9, vp 9 0)] [(9, AObj.iter s (pos + (decS s pos).2))] (show InR .i64 ((j : Int) + 1) from (inR64 (by first | omega | (simp only [List.length_cons, List.length_nil]; omega)) (by first | omega | (simp only [List.length_cons, List.length_nil]; omega)))) ?_
   refine AMx.blk ?_
   refine AMx.ent_inv (s' := AS.lst 33 [(4, vc (u8 (out : Int))), (5, vc (i6 ((j : Int) + 1))), (7, vc (i3 ((decS s pos).1 : Int))), (9, vp 9 0)] [(9, AObj.iter s (pos + (decS s pos).2))]) (ent_proj [4, 5, 7, 9] [9]) ?_
   refine AMx.inv ⟨_, ?_, j + 1, ?_, rfl, ?_⟩
   rotate_left
   · exact ⟨by omega, by omega, fun m h1 h2 => by rcases Nat.lt_or_ge m j with q | q; exact hL m h1 q; rw [show m = j by omega]; exact fun q2 => hc2.2 (congrArg Int.ofNat q2)⟩
   · rfl
   · omega
  ·
   try simp only [xT, xF, xA, xB, xN, xM] at hc2
   refine AMx.exit ?_
   refine AMx.code_exit ?_
   refine AMx.inv_exit ?_
   refine AMx.blk_exit ?_
   refine gQ ?_
   refine gS [] [] 33 [(4, vc (u8 (out : Int))), (5, vc (i6 (j : Int))), (9, vp 9 0), (25, vc (bo (decide ((j : Int) = 6))))] [(9, AObj.iter s (pos + (decS s pos).2))] trivial ?_
   refine gC ((j : Int) = 6) (fun hc3 => ?_) fun hc3 => ?_
   ·
    refine gS [] [] 33 [(2, vc (u8 0)), (3, vc (bo false))] [] trivial ?_
    exact gT (AV.tup [tc (u8 0), tc (bo false)]) (by rw [show capsR s = (0, false) from by rw [caps_stop hO hS (by omega) (fun m h1 h2 => hL m h1 (by omega))]])
   ·
    refine AMx.skip ?_
    refine gS [] [(0 : Int) ≤ (j : Int)] 33 [(4, vc (u8 (IntKind.wrap .u8 ((BitVec.ofInt 8 (out : Int) ||| BitVec.ofInt 8 (IntKind.wrap .u8 (1 * 2 ^ (min ((j : Int) : Int).toNat (IntKind.bits .u8))))).toNat)))), (5, vc (i6 (j : Int))), (9, vp 9 0)] [(9, AObj.iter s (pos + (decS s pos).2))] (show (0 : Int) ≤ (j : Int) from (by first | omega | (simp only [List.length_cons, List.length_nil]; omega))) ?_
    refine gR [] [InR .i64 ((j : Int) + 1)] 33 [(4, vc (u8 (IntKind.wrap .u8 ((BitVec.ofInt 8 (out : Int) ||| BitVec.ofInt 8 (IntKind.wrap .u8 (1 * 2 ^ (min ((j : Int) : Int).toNat (IntKind.bits .u8))))).toNat)))), (5, vc (i6 ((j : Int) + 1))), (9, vp 9 0)] [(9, AObj.iter s (pos + (decS s pos).2))] (show InR .i64 ((j : Int) + 1) from (inR64 (by first | omega | (simp only [List.length_cons, List.length_nil]; omega)) (by first | omega | (simp only [List.length_cons, List.length_nil]; omega)))) ?_
    refine AMx.blk ?_
    refine AMx.ent_inv (s' := AS.lst 33 [(4, vc (u8 (IntKind.wrap .u8 ((BitVec.ofInt 8 (out : Int) ||| BitVec.ofInt 8 (IntKind.wrap .u8 (1 * 2 ^ (min ((j : Int) : Int).toNat (IntKind.bits .u8))))).toNat)))), (5, vc (i6 ((j : Int) + 1))), (9, vp 9 0)] [(9, AObj.iter s (pos + (decS s pos).2))]) (ent_proj [4, 5, 9] [9]) ?_
    refine AMx.inv ⟨_, ?_, pos + (decS s pos).2, out + 2 ^ j, ?_, rfl, ?_⟩
    rotate_left
    · obtain ⟨g1, g2, _⟩ := caps_next hO hS (by omega) (show j < 6 by omega) hA (by rcases hc2 with q | q; exact absurd q (by omega); exact Int.ofNat.inj q); exact ⟨by omega, g1, g2⟩
    · rw [← (caps_grow out hO j (show j < 6 by omega) hA).2.2.2, (caps_grow out hO j (show j < 6 by omega) hA).2.2.1]; rfl
    · omega
 ·
  refine gR [] [List.length s ≤ pos] 33 [(4, vc (u8 (out : Int))), (5, vc (i6 (atN out : Int))), (9, vp 9 0), (10, AV.tup [tc (bo false)]), (11, vc (bo false))] [(9, AObj.iter s pos)] (show List.length s ≤ pos from (by first | omega | (simp only [List.length_cons, List.length_nil]; omega))) ?_
  refine gQ ?_
  refine gBf ?_
  refine AMx.exit ?_
  refine AMx.code_exit ?_
  refine AMx.inv_exit ?_
  refine AMx.blk_exit ?_
  refine gS [] [] 33 [(2, vc (u8 (out : Int))), (3, vc (bo true))] [] trivial ?_
  exact gT (AV.tup [tc (u8 (out : Int)), tc (bo true)]) (by rw [show capsR s = ((out : Int), true) from by rw [caps_done hO hS (by omega)]])
theorem f66_body : Tryz.f66.body = some (.seq (.region 0 (rg Tryz.f66 0) false) (.seq (.seq (.region 1 (rg Tryz.f66 1) false) (.cond (.tmp 14) (.seq (.region 2 (rg Tryz.f66 2) false) (.ret)) (.skip))) (.seq (.region 3 (rg Tryz.f66 3) false) (.seq (.seq (.region 4 (rg Tryz.f66 4) false) (.block 0 (.loop (.seq (.region 5 (rg Tryz.f66 5) false) (.seq (.cond (.tmp 19) (.skip) (.exit 0)) (.seq (.block 1 (.seq (.region 6 (rg Tryz.f66 6) false) (.seq (.region 7 (rg Tryz.f66 7) false) (.seq (.region 8 (rg Tryz.f66 8) false) (.seq (.seq (.region 9 (rg Tryz.f66 9) false) (.cond (.tmp 38) (.seq (.region 10 (rg Tryz.f66 10) false) (.ret)) (.skip))) (.region 11 (rg Tryz.f66 11) false)))))) (.region 12 (rg Tryz.f66 12) false))))))) (.seq (.seq (.region 13 (rg Tryz.f66 13) false) (.seq (.region 14 (rg Tryz.f66 14) false) (.cond (.tmp 49) (.seq (.region 15 (rg Tryz.f66 15) false) (.ret)) (.skip)))) (.seq (.region 16 (rg Tryz.f66 16) false) (.ret))))))) := by kernel_rfl
set_option maxRecDepth 100000 in
set_option maxHeartbeats 8000000 in
theorem Parse_c (s : Bytes) (hb : s.length ≤ 100000) : Pure Tryz.prog 66 [tc (st s)] (AV.tup [tc (slP ((parseP s).1)), tc (i6 ((parseP s).2))]) := by
 refine Pure.of_body Tryz.func66 f66_body (by kernel_rfl) Tryz.ntmps66 (by kernel_rfl) (by kernel_rfl) ?_
 have hsl := split_le 44 s
 refine gS [] [] 52 [(0, vc (st s))] [] trivial ?_
 refine gQ ?_
 refine gS [] [] 52 [(0, vc (st s)), (14, vc (bo (decide (s = []))))] [] trivial ?_
 refine gC (s = []) (fun hc1 => ?_) fun hc1 => ?_
 ·
  refine gS [] [] 52 [(2, vc (SC.nilsl)), (3, vc (i6 0))] [] trivial ?_
  refine AMx.ent (ent_weak 2 (v' := vc (slP [])) (by kernel_rfl) (AV.le_t (TV.le_c AC.le_nil))) ?_
  exact gT (AV.tup [tc (slP []), tc (i6 0)]) (by rw [show parseP s = ([], 0) from by rw [hc1]; rfl])
 ·
  refine AMx.skip ?_
  refine gS [] [] 52 [(0, vc (st s)), (4, vc (SC.nilsl))] [] trivial ?_
  refine gQ ?_
  refine gS [(1, CE.call [] [] (vc (AL.Fnv.slS (AL.Sep.splitC 44 s))) [])] [Spec Tryz.prog 94 [tc (st s), tc (st [44])] (ofH []) (vc (AL.Fnv.slS (AL.Sep.splitC 44 s))) (ofH [])] 52 [(4, vc (SC.nilsl)), (16, vc (AL.Fnv.slS (AL.Sep.splitC 44 s))), (17, vc (i6 (List.length (AL.Sep.splitC 44 s : List Bytes) : Int))), (18, vc (i6 0))] [] (AL.Sep.Split_c 44 s (by first | omega | ((try simp only [List.length_append, List.length_cons, List.length_nil, List.length_replicate, List.length_map, List.length_take, List.length_drop, pref_len, ruled_len]); omega) | (have hpc := Sep.mem_len (Lib.getD_mem [] (AL.Sep.splitC 44 s) k (by omega)); omega))) ?_
  refine AMx.block ?_
  refine AMx.ent (s' := AS.lst 52 [(4, vo 4), (16, vc (AL.Fnv.slS (AL.Sep.splitC 44 s))), (17, vc (i6 (List.length (AL.Sep.splitC 44 s : List Bytes) : Int))), (18, vc (i6 0))] [(4, AObj.grow 80 2 RuleV ([], 0) rowP [])]) (ent_adopt (t := 4) (d := 4) 80 2 RuleV ([], 0) rowP (by kernel_rfl) (by kernel_rfl) (by kernel_rfl) (by kernel_rfl)) ?_
  refine AMx.ent (s' := AS.lst 52 [(4, vo 4), (16, vc (AL.Fnv.slS (AL.Sep.splitC 44 s))), (17, vc (i6 (List.length (AL.Sep.splitC 44 s : List Bytes) : Int))), (18, vc (i6 0))] [(4, AObj.grow 80 2 RuleV ([], 0) rowP [])]) (ent_proj [4, 16, 17, 18] [4]) ?_
  refine AMx.loop (fun mm ss => ∃ (k : Nat), (k ≤ (AL.Sep.splitC 44 s).length ∧ fineS (List.take k (AL.Sep.splitC 44 s)) = true) ∧ mm = (AL.Sep.splitC 44 s).length - k ∧ ss = AS.lst 52 [(4, vo 4), (16, vc (AL.Fnv.slS (AL.Sep.splitC 44 s))), (17, vc (i6 (List.length (AL.Sep.splitC 44 s : List Bytes) : Int))), (18, vc (i6 (k : Int)))] [(4, AObj.grow 80 2 RuleV ([], 0) rowP (ruled (List.take k (AL.Sep.splitC 44 s))))]) ⟨0, ?_, rfl, ?_⟩ ?_
  · exact ⟨Nat.zero_le _, rfl⟩
  · rfl
  rintro mm ss ⟨k, ⟨hI, hN⟩, rfl, rfl⟩
  refine gS [] [] 52 [(4, vo 4), (16, vc (AL.Fnv.slS (AL.Sep.splitC 44 s))), (17, vc (i6 (List.length (AL.Sep.splitC 44 s : List Bytes) : Int))), (18, vc (i6 (k : Int))), (19, vc (bo (decide ((k : Int) < (List.length (AL.Sep.splitC 44 s : List Bytes) : Int)))))] [(4, AObj.grow 80 2 RuleV ([], 0) rowP (ruled (List.take k (AL.Sep.splitC 44 s))))] trivial ?_
  refine gQ ?_
  refine gC ((k : Int) < (List.length (AL.Sep.splitC 44 s : List Bytes) : Int)) (fun hc2 => ?_) fun hc2 => ?_
  ·
   refine AMx.skip ?_
   refine gQ ?_
   refine AMx.block ?_
   refine gS [] [(0 : Int) ≤ (k : Int), (k : Int) < List.length (AL.Sep.splitC 44 s : List Bytes)] 52 [(4, vo 4), (6, vc (st (List.getD (AL.Sep.splitC 44 s) k []))), (16, vc (AL.Fnv.slS (AL.Sep.splitC 44 s))), (17, vc (i6 (List.length (AL.Sep.splitC 44 s : List Bytes) : Int))), (18, vc (i6 (k : Int)))] [(4, AObj.grow 80 2 RuleV ([], 0) rowP (ruled (List.take k (AL.Sep.splitC 44 s))))] ⟨(by first | omega | ((try simp only [List.length_append, List.length_cons, List.length_nil, List.length_replicate, List.length_map, List.length_take, List.length_drop, pref_len, ruled_len]); omega) | (have hpc := Sep.mem_len (Lib.getD_mem [] (AL.Sep.splitC 44 s) k (by omega)); omega)), (show (k : Int) < List.length (AL.Sep.splitC 44 s : List Bytes) from (by first | omega | ((try simp only [List.length_append, List.length_cons, List.length_nil, List.length_replicate, List.length_map, List.length_take, List.length_drop, pref_len, ruled_len]); omega) | (have hpc := Sep.mem_len (Lib.getD_mem [] (AL.Sep.splitC 44 s) k (by omega)); omega)))⟩ ?_
   refine gS [(1, CE.call [] [] (AV.tup [tc (st ((AL.Sep.cutAt 58 (List.getD (AL.Sep.splitC 44 s) k [])).1)), tc (st ((AL.Sep.cutAt 58 (List.getD (AL.Sep.splitC 44 s) k [])).2.1)), tc (bo ((AL.Sep.cutAt 58 (List.getD (AL.Sep.splitC 44 s) k [])).2.2))]) [])] [Spec Tryz.prog 95 [tc (st (List.getD (AL.Sep.splitC 44 s) k [])), tc (st [58])] (ofH []) (AV.tup [tc (st ((AL.Sep.cutAt 58 (List.getD (AL.Sep.splitC 44 s) k [])).1)), tc (st ((AL.Sep.cutAt 58 (List.getD (AL.Sep.splitC 44 s) k [])).2.1)), tc (bo ((AL.Sep.cutAt 58 (List.getD (AL.Sep.splitC 44 s) k [])).2.2))]) (ofH [])] 52 [(4, vo 4), (7, vc (st ((AL.Sep.cutAt 58 (List.getD (AL.Sep.splitC 44 s) k [])).1))), (8, vc (st ((AL.Sep.cutAt 58 (List.getD (AL.Sep.splitC 44 s) k [])).2.1))), (9, vc (bo ((AL.Sep.cutAt 58 (List.getD (AL.Sep.splitC 44 s) k [])).2.2))), (16, vc (AL.Fnv.slS (AL.Sep.splitC 44 s))), (17, vc (i6 (List.length (AL.Sep.splitC 44 s : List Bytes) : Int))), (18, vc (i6 (k : Int)))] [(4, AObj.grow 80 2 RuleV ([], 0) rowP (ruled (List.take k (AL.Sep.splitC 44 s))))] (AL.Sep.Cut_c 58 (List.getD (AL.Sep.splitC 44 s) k [])) ?_
   refine gS [(1, CE.call [] [] (AV.tup [tc (u8 ((capsR ((AL.Sep.cutAt 58 (List.getD (AL.Sep.splitC 44 s) k [])).2.1)).1)), tc (bo ((capsR ((AL.Sep.cutAt 58 (List.getD (AL.Sep.splitC 44 s) k [])).2.1)).2))]) [])] [Spec Tryz.prog 96 [tc (st ((AL.Sep.cutAt 58 (List.getD (AL.Sep.splitC 44 s) k [])).2.1))] (ofH []) (AV.tup [tc (u8 ((capsR ((AL.Sep.cutAt 58 (List.getD (AL.Sep.splitC 44 s) k [])).2.1)).1)), tc (bo ((capsR ((AL.Sep.cutAt 58 (List.getD (AL.Sep.splitC 44 s) k [])).2.1)).2))]) (ofH [])] 52 [(4, vo 4), (7, vc (st ((AL.Sep.cutAt 58 (List.getD (AL.Sep.splitC 44 s) k [])).1))), (9, vc (bo ((AL.Sep.cutAt 58 (List.getD (AL.Sep.splitC 44 s) k [])).2.2))), (10, vc (u8 ((capsR ((AL.Sep.cutAt 58 (List.getD (AL.Sep.splitC 44 s) k [])).2.1)).1))), (11, vc (bo ((capsR ((AL.Sep.cutAt 58 (List.getD (AL.Sep.splitC 44 s) k [])).2.1)).2))), (16, vc (AL.Fnv.slS (AL.Sep.splitC 44 s))), (17, vc (i6 (List.length (AL.Sep.splitC 44 s : List Bytes) : Int))), (18, vc (i6 (k : Int)))] [(4, AObj.grow 80 2 RuleV ([], 0) rowP (ruled (List.take k (AL.Sep.splitC 44 s))))] (caps_c ((AL.Sep.cutAt 58 (List.getD (AL.Sep.splitC 44 s) k [])).2.1)) ?_
   refine gQ ?_
   refine gS [] [((!((AL.Sep.cutAt 58 (List.getD (AL.Sep.splitC 44 s) k [])).2.2)) = false) → allP [(!((AL.Sep.cutAt 58 (List.getD (AL.Sep.splitC 44 s) k [])).2.2)) = false], (!((AL.Sep.cutAt 58 (List.getD (AL.Sep.splitC 44 s) k [])).2.2)) = false → allP [(!((AL.Sep.cutAt 58 (List.getD (AL.Sep.splitC 44 s) k [])).2.2)) = false]] 52 [(4, vo 4), (7, vc (st ((AL.Sep.cutAt 58 (List.getD (AL.Sep.splitC 44 s) k [])).1))), (10, vc (u8 ((capsR ((AL.Sep.cutAt 58 (List.getD (AL.Sep.splitC 44 s) k [])).2.1)).1))), (16, vc (AL.Fnv.slS (AL.Sep.splitC 44 s))), (17, vc (i6 (List.length (AL.Sep.splitC 44 s : List Bytes) : Int))), (18, vc (i6 (k : Int))), (38, vc (bo ((!((AL.Sep.cutAt 58 (List.getD (AL.Sep.splitC 44 s) k [])).2.2)) || (!((capsR ((AL.Sep.cutAt 58 (List.getD (AL.Sep.splitC 44 s) k [])).2.1)).2)))))] [(4, AObj.grow 80 2 RuleV ([], 0) rowP (ruled (List.take k (AL.Sep.splitC 44 s))))] ⟨(fun hp => hp), (fun hp2 => (by first | exact hp2 | exact ⟨hp, hp2⟩))⟩ ?_
   refine gB (((!((AL.Sep.cutAt 58 (List.getD (AL.Sep.splitC 44 s) k [])).2.2)) || (!((capsR ((AL.Sep.cutAt 58 (List.getD (AL.Sep.splitC 44 s) k [])).2.1)).2)))) (fun hc3 => ?_) fun hc3 => ?_
   ·
    try simp only [xT, xF, xO, xP, xN, xM] at hc3
    refine gS [] [] 52 [(2, vc (SC.nilsl)), (3, vc (i6 4))] [] trivial ?_
    refine AMx.ent (ent_weak 2 (v' := vc (slP [])) (by kernel_rfl) (AV.le_t (TV.le_c AC.le_nil))) ?_
    exact gT (AV.tup [tc (slP []), tc (i6 4)]) (by rw [show parseP s = ([], 4) from by rw [parse_bad hc1 (fine_bad (k := k) (by omega) (by rw [scan_no (fun q => by rcases hc3 with z | z; rw [q.1] at z; cases z; rw [q.2] at z; cases z)]))]])
   ·
    try simp only [xT, xF, xO, xP, xN, xM] at hc3
    refine AMx.skip ?_
    refine gR [(4, CE.obj (AObj.grow 80 2 RuleV ([], 0) rowP [(((AL.Sep.cutAt 58 (List.getD (AL.Sep.splitC 44 s) k [])).1, (capsR ((AL.Sep.cutAt 58 (List.getD (AL.Sep.splitC 44 s) k [])).2.1)).1) : RuleV)])), (5, CE.obj (AObj.grow 80 2 RuleV ([], 0) rowP ((ruled (List.take k (AL.Sep.splitC 44 s))) ++ [(((AL.Sep.cutAt 58 (List.getD (AL.Sep.splitC 44 s) k [])).1, (capsR ((AL.Sep.cutAt 58 (List.getD (AL.Sep.splitC 44 s) k [])).2.1)).1) : RuleV)])))] [flat 2 rowP [(((AL.Sep.cutAt 58 (List.getD (AL.Sep.splitC 44 s) k [])).1, (capsR ((AL.Sep.cutAt 58 (List.getD (AL.Sep.splitC 44 s) k [])).2.1)).1) : RuleV)] = [.s (st ((AL.Sep.cutAt 58 (List.getD (AL.Sep.splitC 44 s) k [])).1)), .s (u8 ((capsR ((AL.Sep.cutAt 58 (List.getD (AL.Sep.splitC 44 s) k [])).2.1)).1))], List.length ([(((AL.Sep.cutAt 58 (List.getD (AL.Sep.splitC 44 s) k [])).1, (capsR ((AL.Sep.cutAt 58 (List.getD (AL.Sep.splitC 44 s) k [])).2.1)).1) : RuleV)] : List RuleV) = 1, AppC (flat 2 rowP [(((AL.Sep.cutAt 58 (List.getD (AL.Sep.splitC 44 s) k [])).1, (capsR ((AL.Sep.cutAt 58 (List.getD (AL.Sep.splitC 44 s) k [])).2.1)).1) : RuleV)]) (List.length ([(((AL.Sep.cutAt 58 (List.getD (AL.Sep.splitC 44 s) k [])).1, (capsR ((AL.Sep.cutAt 58 (List.getD (AL.Sep.splitC 44 s) k [])).2.1)).1) : RuleV)] : List RuleV)) 24 (AObj.grow 80 2 RuleV ([], 0) rowP (ruled (List.take k (AL.Sep.splitC 44 s)))) (AObj.grow 80 2 RuleV ([], 0) rowP ((ruled (List.take k (AL.Sep.splitC 44 s))) ++ [(((AL.Sep.cutAt 58 (List.getD (AL.Sep.splitC 44 s) k [])).1, (capsR ((AL.Sep.cutAt 58 (List.getD (AL.Sep.splitC 44 s) k [])).2.1)).1) : RuleV)]))] 52 [(4, vo 44), (16, vc (AL.Fnv.slS (AL.Sep.splitC 44 s))), (17, vc (i6 (List.length (AL.Sep.splitC 44 s : List Bytes) : Int))), (18, vc (i6 (k : Int)))] [(44, AObj.grow 80 2 RuleV ([], 0) rowP ((ruled (List.take k (AL.Sep.splitC 44 s))) ++ [(((AL.Sep.cutAt 58 (List.getD (AL.Sep.splitC 44 s) k [])).1, (capsR ((AL.Sep.cutAt 58 (List.getD (AL.Sep.splitC 44 s) k [])).2.1)).1) : RuleV)]))] ⟨rfl, rfl, (⟨_, rfl, rfl, rfl, by simp only [List.length_append, List.length_cons, List.length_nil, List.length_replicate, List.length_map, List.length_take, List.length_drop, pref_len, ruled_len]; omega, by simp only [maxLen, List.length_append, List.length_cons, List.length_nil, List.length_replicate, List.length_map, List.length_take, List.length_drop, pref_len, ruled_len]; omega⟩)⟩ ?_
    refine AMx.blk ?_
    refine gR [] [InR .i64 ((k : Int) + 1)] 52 [(4, vo 44), (16, vc (AL.Fnv.slS (AL.Sep.splitC 44 s))), (17, vc (i6 (List.length (AL.Sep.splitC 44 s : List Bytes) : Int))), (18, vc (i6 ((k : Int) + 1)))] [(44, AObj.grow 80 2 RuleV ([], 0) rowP ((ruled (List.take k (AL.Sep.splitC 44 s))) ++ [(((AL.Sep.cutAt 58 (List.getD (AL.Sep.splitC 44 s) k [])).1, (capsR ((AL.Sep.cutAt 58 (List.getD (AL.Sep.splitC 44 s) k [])).2.1)).1) : RuleV)]))] (show InR .i64 ((k : Int) + 1) from (inR64 (by first | omega | ((try simp only [List.length_append, List.length_cons, List.length_nil, List.length_replicate, List.length_map, List.length_take, List.length_drop, pref_len, ruled_len]); omega) | (have hpc := Sep.mem_len (Lib.getD_mem [] (AL.Sep.splitC 44 s) k (by omega)); omega)) (by first | omega | ((try simp only [List.length_append, List.length_cons, List.length_nil, List.length_replicate, List.length_map, List.length_take, List.length_drop, pref_len, ruled_len]); omega) | (have hpc := Sep.mem_len (Lib.getD_mem [] (AL.Sep.splitC 44 s) k (by omega)); omega)))) ?_
    refine AMx.ent_inv (s' := AS.lst 52 [(4, vo 4), (16, vc (AL.Fnv.slS (AL.Sep.splitC 44 s))), (17, vc (i6 (List.length (AL.Sep.splitC 44 s : List Bytes) : Int))), (18, vc (i6 ((k : Int) + 1)))] [(4, AObj.grow 80 2 RuleV ([], 0) rowP ((ruled (List.take k (AL.Sep.splitC 44 s))) ++ [(((AL.Sep.cutAt 58 (List.getD (AL.Sep.splitC 44 s) k [])).1, (capsR ((AL.Sep.cutAt 58 (List.getD (AL.Sep.splitC 44 s) k [])).2.1)).1) : RuleV)]))]) (ent_swap 44 4 (by kernel_rfl) (by kernel_rfl)) ?_
    refine AMx.ent_inv (s' := AS.lst 52 [(4, vo 4), (16, vc (AL.Fnv.slS (AL.Sep.splitC 44 s))), (17, vc (i6 (List.length (AL.Sep.splitC 44 s : List Bytes) : Int))), (18, vc (i6 ((k : Int) + 1)))] [(4, AObj.grow 80 2 RuleV ([], 0) rowP ((ruled (List.take k (AL.Sep.splitC 44 s))) ++ [(((AL.Sep.cutAt 58 (List.getD (AL.Sep.splitC 44 s) k [])).1, (capsR ((AL.Sep.cutAt 58 (List.getD (AL.Sep.splitC 44 s) k [])).2.1)).1) : RuleV)]))]) (ent_proj [4, 16, 17, 18] [4]) ?_
    refine AMx.inv ⟨_, ?_, k + 1, ?_, rfl, ?_⟩
    rotate_left
    · exact ⟨by omega, fine_step (by omega) hN (by rw [scan_ok hc3.1 hc3.2])⟩
    · rw [← ruled_step (AL.Sep.splitC 44 s) k (by omega), scan_ok hc3.1 hc3.2]; rfl
    · omega
  ·
   refine AMx.exit ?_
   refine AMx.code_exit ?_
   refine AMx.inv_exit ?_
   refine AMx.blk_exit ?_
   rw [show List.take k (AL.Sep.splitC 44 s) = AL.Sep.splitC 44 s from List.take_of_length_le (by omega)]
   refine gQ ?_
   refine gQ ?_
   refine AMx.ent (s' := AS.lst 52 [(4, vc (slP (ruled (AL.Sep.splitC 44 s)))), (16, vc (AL.Fnv.slS (AL.Sep.splitC 44 s))), (17, vc (i6 (List.length (AL.Sep.splitC 44 s : List Bytes) : Int))), (18, vc (i6 (k : Int))), (19, vc (bo (decide ((k : Int) < (List.length (AL.Sep.splitC 44 s : List Bytes) : Int)))))] []) (ent_freeze (id := 4) (T := 80) (by kernel_rfl)) ?_
   refine gR [(1, CE.call [] [] (vc (i6 (checkP (ruled (AL.Sep.splitC 44 s))))) [])] [Spec Tryz.prog 41 [tc (slP (ruled (AL.Sep.splitC 44 s)))] (ofH []) (vc (i6 (checkP (ruled (AL.Sep.splitC 44 s))))) (ofH [])] 52 [(4, vc (slP (ruled (AL.Sep.splitC 44 s)))), (12, vc (i6 (checkP (ruled (AL.Sep.splitC 44 s)))))] [] (Check_c (ruled (AL.Sep.splitC 44 s))) ?_
   refine gS [] [] 52 [(4, vc (slP (ruled (AL.Sep.splitC 44 s)))), (12, vc (i6 (checkP (ruled (AL.Sep.splitC 44 s))))), (49, vc (bo (!decide (checkP (ruled (AL.Sep.splitC 44 s)) = 0))))] [] trivial ?_
   refine gN (checkP (ruled (AL.Sep.splitC 44 s)) = 0) (fun hc4 => ?_) fun hc4 => ?_
   ·
    refine gS [] [] 52 [(2, vc (SC.nilsl)), (3, vc (i6 (checkP (ruled (AL.Sep.splitC 44 s)))))] [] trivial ?_
    refine AMx.ent (ent_weak 2 (v' := vc (slP [])) (by kernel_rfl) (AV.le_t (TV.le_c AC.le_nil))) ?_
    exact gT (AV.tup [tc (slP []), tc (i6 (checkP (ruled (AL.Sep.splitC 44 s))))]) (by rw [show parseP s = ([], checkP (ruled (AL.Sep.splitC 44 s))) from by have hf : fineS (Sep.splitC 44 s) = true := (by rw [← hN, List.take_of_length_le (by omega)]); rw [parse_no hc1 hf (by assumption)]])
   ·
    refine AMx.skip ?_
    refine gS [] [] 52 [(2, vc (slP (ruled (AL.Sep.splitC 44 s)))), (3, vc (i6 0))] [] trivial ?_
    exact gT (AV.tup [tc (slP (ruled (AL.Sep.splitC 44 s))), tc (i6 0)]) (by rw [show parseP s = (ruled (AL.Sep.splitC 44 s), 0) from by have hf : fineS (Sep.splitC 44 s) = true := (by rw [← hN, List.take_of_length_le (by omega)]); rw [parse_ok hc1 hf (by assumption)]])
end AL.Policy
namespace AL.Token
open Go Go.Proofs AL
open AL.Policy (RuleV rowP slP checkP coversS capsP)
set_option linter.unusedVariables false
set_option linter.unusedSimpArgs false
theorem f62_body : Tryz.f62.body = some (.seq (.region 0 (rg Tryz.f62 0) false) (.seq (.seq (.region 1 (rg Tryz.f62 1) false) (.cond (.tmp 12) (.seq (.region 2 (rg Tryz.f62 2) false) (.ret)) (.skip))) (.seq (.region 3 (rg Tryz.f62 3) false) (.seq (.seq (.region 4 (rg Tryz.f62 4) false) (.block 0 (.loop (.seq (.region 5 (rg Tryz.f62 5) false) (.seq (.cond (.tmp 16) (.skip) (.exit 0)) (.seq (.block 1 (.seq (.region 6 (rg Tryz.f62 6) false) (.seq (.seq (.region 7 (rg Tryz.f62 7) false) (.cond (.tmp 21) (.seq (.region 8 (rg Tryz.f62 8) false) (.ret)) (.skip))) (.region 9 (rg Tryz.f62 9) false)))) (.region 10 (rg Tryz.f62 10) false))))))) (.seq (.region 11 (rg Tryz.f62 11) false) (.seq (.seq (.region 12 (rg Tryz.f62 12) false) (.block 2 (.loop (.seq (.region 13 (rg Tryz.f62 13) false) (.seq (.cond (.tmp 33) (.skip) (.exit 2)) (.seq (.block 3 (.seq (.region 14 (rg Tryz.f62 14) false) (.seq (.region 15 (rg Tryz.f62 15) false) (.region 16 (rg Tryz.f62 16) false)))) (.region 17 (rg Tryz.f62 17) false))))))) (.seq (.region 18 (rg Tryz.f62 18) false) (.ret)))))))) := by kernel_rfl
set_option maxRecDepth 100000 in
set_option maxHeartbeats 8000000 in
theorem Rows_c (l : List Bytes) (hl : l.length ≤ 1000) (hs : ∀ s ∈ l, s.length ≤ 65535) (ht : (rowsB l).length ≤ 800000) : ∀ d, Spec Tryz.prog 62 [tc (AL.Fnv.slS l)] H0 (.tup [.c (.own d), tc (i6 0)]) (ofH [(d, AObj.grow 5 1 UInt8 0 rowU8 (rowsB l))]) := by
 refine OwnT.of_body Tryz.func62 f62_body (by kernel_rfl) Tryz.ntmps62 (by kernel_rfl) rfl (by kernel_rfl) ?_
 refine gS [] [] 46 [(0, vc (AL.Fnv.slS l))] [] trivial ?_
 refine gQ ?_
 refine gS [] [] 46 [(0, vc (AL.Fnv.slS l)), (12, vc (bo (decide (1024 < (List.length l : Int)))))] [] trivial ?_
 refine gC (1024 < (List.length l : Int)) (fun hc1 => ?_) fun hc1 => ?_
 ·
  refine gS [] [] 46 [(2, vc (SC.nilsl)), (3, vc (i6 24))] [] trivial ?_
  exfalso
  first | omega | (have z2 := rows_le l k; omega) | (have z1 := rows_len l k (by omega); have z2 := rows_le l (k + 1); have z3 := hs _ (Lib.getD_mem [] l k (by omega)); first | omega | (simp only [List.length_append, List.length_cons, List.length_nil, AL.Quill.be2_len]; omega)) | (have z1 := rows_len l m (by omega); have z2 := rows_le l (m + 1); have z3 := hs _ (Lib.getD_mem [] l m (by omega)); first | omega | (simp only [List.length_append, List.length_cons, List.length_nil, AL.Quill.be2_len]; omega))
 ·
  refine AMx.skip ?_
  refine gS [] [] 46 [(0, vc (AL.Fnv.slS l)), (4, vc (i6 0))] [] trivial ?_
  refine gQ ?_
  refine gS [] [] 46 [(0, vc (AL.Fnv.slS l)), (4, vc (i6 0)), (13, vc (AL.Fnv.slS l)), (14, vc (i6 (List.length l : Int))), (15, vc (i6 0))] [] trivial ?_
  refine AMx.block ?_
  refine AMx.ent (s' := AS.lst 46 [(0, vc (AL.Fnv.slS l)), (4, vc (i6 0)), (13, vc (AL.Fnv.slS l)), (14, vc (i6 (List.length l : Int))), (15, vc (i6 0))] []) (ent_proj [0, 4, 13, 14, 15] []) ?_
  refine AMx.loop (fun mm ss => ∃ (k : Nat), (k ≤ l.length) ∧ mm = l.length - k ∧ ss = AS.lst 46 [(0, vc (AL.Fnv.slS l)), (4, vc (i6 ((rowsB (List.take k l)).length : Int))), (13, vc (AL.Fnv.slS l)), (14, vc (i6 (List.length l : Int))), (15, vc (i6 (k : Int)))] []) ⟨0, ?_, rfl, ?_⟩ ?_
  · omega
  · rfl
  rintro mm ss ⟨k, hI, rfl, rfl⟩
  refine gS [] [] 46 [(0, vc (AL.Fnv.slS l)), (4, vc (i6 ((rowsB (List.take k l)).length : Int))), (13, vc (AL.Fnv.slS l)), (14, vc (i6 (List.length l : Int))), (15, vc (i6 (k : Int))), (16, vc (bo (decide ((k : Int) < (List.length l : Int)))))] [] trivial ?_
  refine gQ ?_
  refine gC ((k : Int) < (List.length l : Int)) (fun hc2 => ?_) fun hc2 => ?_
  ·
   refine AMx.skip ?_
   refine gQ ?_
   refine AMx.block ?_
   refine gS [] [(0 : Int) ≤ (k : Int), (k : Int) < List.length l] 46 [(0, vc (AL.Fnv.slS l)), (4, vc (i6 ((rowsB (List.take k l)).length : Int))), (6, vc (st (List.getD l k []))), (13, vc (AL.Fnv.slS l)), (14, vc (i6 (List.length l : Int))), (15, vc (i6 (k : Int)))] [] ⟨(by first | omega | (have z2 := rows_le l k; omega) | (have z1 := rows_len l k (by omega); have z2 := rows_le l (k + 1); have z3 := hs _ (Lib.getD_mem [] l k (by omega)); first | omega | (simp only [List.length_append, List.length_cons, List.length_nil, AL.Quill.be2_len]; omega)) | (have z1 := rows_len l m (by omega); have z2 := rows_le l (m + 1); have z3 := hs _ (Lib.getD_mem [] l m (by omega)); first | omega | (simp only [List.length_append, List.length_cons, List.length_nil, AL.Quill.be2_len]; omega))), (show (k : Int) < List.length l from (by first | omega | (have z2 := rows_le l k; omega) | (have z1 := rows_len l k (by omega); have z2 := rows_le l (k + 1); have z3 := hs _ (Lib.getD_mem [] l k (by omega)); first | omega | (simp only [List.length_append, List.length_cons, List.length_nil, AL.Quill.be2_len]; omega)) | (have z1 := rows_len l m (by omega); have z2 := rows_le l (m + 1); have z3 := hs _ (Lib.getD_mem [] l m (by omega)); first | omega | (simp only [List.length_append, List.length_cons, List.length_nil, AL.Quill.be2_len]; omega))))⟩ ?_
   refine gQ ?_
   refine gS [] [] 46 [(0, vc (AL.Fnv.slS l)), (4, vc (i6 ((rowsB (List.take k l)).length : Int))), (6, vc (st (List.getD l k []))), (13, vc (AL.Fnv.slS l)), (14, vc (i6 (List.length l : Int))), (15, vc (i6 (k : Int))), (21, vc (bo (decide (65535 < (List.length ((List.getD l k []) : List UInt8) : Int)))))] [] trivial ?_
   refine gC (65535 < (List.length ((List.getD l k []) : List UInt8) : Int)) (fun hc3 => ?_) fun hc3 => ?_
   ·
    refine gS [] [] 46 [(2, vc (SC.nilsl)), (3, vc (i6 5))] [] trivial ?_
    exfalso
    first | omega | (have z2 := rows_le l k; omega) | (have z1 := rows_len l k (by omega); have z2 := rows_le l (k + 1); have z3 := hs _ (Lib.getD_mem [] l k (by omega)); first | omega | (simp only [List.length_append, List.length_cons, List.length_nil, AL.Quill.be2_len]; omega)) | (have z1 := rows_len l m (by omega); have z2 := rows_le l (m + 1); have z3 := hs _ (Lib.getD_mem [] l m (by omega)); first | omega | (simp only [List.length_append, List.length_cons, List.length_nil, AL.Quill.be2_len]; omega))
   ·
    refine AMx.skip ?_
    refine gR [] [InR .i64 (2 + (List.length ((List.getD l k []) : List UInt8) : Int)), InR .i64 (((rowsB (List.take k l)).length : Int) + (2 + (List.length ((List.getD l k []) : List UInt8) : Int)))] 46 [(0, vc (AL.Fnv.slS l)), (4, vc (i6 (((rowsB (List.take k l)).length : Int) + (2 + (List.length ((List.getD l k []) : List UInt8) : Int))))), (13, vc (AL.Fnv.slS l)), (14, vc (i6 (List.length l : Int))), (15, vc (i6 (k : Int)))] [] ⟨(inR64 (by first | omega | (have z2 := rows_le l k; omega) | (have z1 := rows_len l k (by omega); have z2 := rows_le l (k + 1); have z3 := hs _ (Lib.getD_mem [] l k (by omega)); first | omega | (simp only [List.length_append, List.length_cons, List.length_nil, AL.Quill.be2_len]; omega)) | (have z1 := rows_len l m (by omega); have z2 := rows_le l (m + 1); have z3 := hs _ (Lib.getD_mem [] l m (by omega)); first | omega | (simp only [List.length_append, List.length_cons, List.length_nil, AL.Quill.be2_len]; omega))) (by first | omega | (have z2 := rows_le l k; omega) | (have z1 := rows_len l k (by omega); have z2 := rows_le l (k + 1); have z3 := hs _ (Lib.getD_mem [] l k (by omega)); first | omega | (simp only [List.length_append, List.length_cons, List.length_nil, AL.Quill.be2_len]; omega)) | (have z1 := rows_len l m (by omega); have z2 := rows_le l (m + 1); have z3 := hs _ (Lib.getD_mem [] l m (by omega)); first | omega | (simp only [List.length_append, List.length_cons, List.length_nil, AL.Quill.be2_len]; omega)))), (show InR .i64 (((rowsB (List.take k l)).length : Int) + (2 + (List.length ((List.getD l k []) : List UInt8) : Int))) from (inR64 (by first | omega | (have z2 := rows_le l k; omega) | (have z1 := rows_len l k (by omega); have z2 := rows_le l (k + 1); have z3 := hs _ (Lib.getD_mem [] l k (by omega)); first | omega | (simp only [List.length_append, List.length_cons, List.length_nil, AL.Quill.be2_len]; omega)) | (have z1 := rows_len l m (by omega); have z2 := rows_le l (m + 1); have z3 := hs _ (Lib.getD_mem [] l m (by omega)); first | omega | (simp only [List.length_append, List.length_cons, List.length_nil, AL.Quill.be2_len]; omega))) (by first | omega | (have z2 := rows_le l k; omega) | (have z1 := rows_len l k (by omega); have z2 := rows_le l (k + 1); have z3 := hs _ (Lib.getD_mem [] l k (by omega)); first | omega | (simp only [List.length_append, List.length_cons, List.length_nil, AL.Quill.be2_len]; omega)) | (have z1 := rows_len l m (by omega); have z2 := rows_le l (m + 1); have z3 := hs _ (Lib.getD_mem [] l m (by omega)); first | omega | (simp only [List.length_append, List.length_cons, List.length_nil, AL.Quill.be2_len]; omega)))))⟩ ?_
    refine AMx.blk ?_
    refine gR [] [InR .i64 ((k : Int) + 1)] 46 [(0, vc (AL.Fnv.slS l)), (4, vc (i6 (((rowsB (List.take k l)).length : Int) + (2 + (List.length ((List.getD l k []) : List UInt8) : Int))))), (13, vc (AL.Fnv.slS l)), (14, vc (i6 (List.length l : Int))), (15, vc (i6 ((k : Int) + 1)))] [] (show InR .i64 ((k : Int) + 1) from (inR64 (by first | omega | (have z2 := rows_le l k; omega) | (have z1 := rows_len l k (by omega); have z2 := rows_le l (k + 1); have z3 := hs _ (Lib.getD_mem [] l k (by omega)); first | omega | (simp only [List.length_append, List.length_cons, List.length_nil, AL.Quill.be2_len]; omega)) | (have z1 := rows_len l m (by omega); have z2 := rows_le l (m + 1); have z3 := hs _ (Lib.getD_mem [] l m (by omega)); first | omega | (simp only [List.length_append, List.length_cons, List.length_nil, AL.Quill.be2_len]; omega))) (by first | omega | (have z2 := rows_le l k; omega) | (have z1 := rows_len l k (by omega); have z2 := rows_le l (k + 1); have z3 := hs _ (Lib.getD_mem [] l k (by omega)); first | omega | (simp only [List.length_append, List.length_cons, List.length_nil, AL.Quill.be2_len]; omega)) | (have z1 := rows_len l m (by omega); have z2 := rows_le l (m + 1); have z3 := hs _ (Lib.getD_mem [] l m (by omega)); first | omega | (simp only [List.length_append, List.length_cons, List.length_nil, AL.Quill.be2_len]; omega))))) ?_
    refine AMx.ent_inv (s' := AS.lst 46 [(0, vc (AL.Fnv.slS l)), (4, vc (i6 (((rowsB (List.take k l)).length : Int) + (2 + (List.length ((List.getD l k []) : List UInt8) : Int))))), (13, vc (AL.Fnv.slS l)), (14, vc (i6 (List.length l : Int))), (15, vc (i6 ((k : Int) + 1)))] []) (ent_proj [0, 4, 13, 14, 15] []) ?_
    refine AMx.inv ⟨_, ?_, k + 1, ?_, rfl, ?_⟩
    rotate_left
    · omega
    · rw [rows_len l k (by omega), show (((rowsB (List.take k l)).length + (2 + (List.getD l k []).length) : Nat) : Int) = ((rowsB (List.take k l)).length : Int) + (2 + ((List.getD l k []).length : Int)) by omega]; rfl
    · omega
  ·
   refine AMx.exit ?_
   refine AMx.code_exit ?_
   refine AMx.inv_exit ?_
   refine AMx.blk_exit ?_
   refine gS [(1, CE.obj (AObj.grow 5 1 UInt8 0 rowU8 (List.replicate 0 0)))] [0 ≤ (0 : Int), (0 : Int) ≤ ((rowsB (List.take k l)).length : Int), (1 : Int) * ((rowsB (List.take k l)).length : Int) ≤ 281474976710656, ((rowsB (List.take k l)).length : Int) ≤ 9223372036854775807, MakeC 0 [.s (u8 0)] (AObj.grow 5 1 UInt8 0 rowU8 (List.replicate 0 0))] 46 [(0, vc (AL.Fnv.slS l)), (7, vo 29)] [(29, AObj.grow 5 1 UInt8 0 rowU8 (List.replicate 0 0))] ⟨(by first | omega | (have z2 := rows_le l k; omega) | (have z1 := rows_len l k (by omega); have z2 := rows_le l (k + 1); have z3 := hs _ (Lib.getD_mem [] l k (by omega)); first | omega | (simp only [List.length_append, List.length_cons, List.length_nil, AL.Quill.be2_len]; omega)) | (have z1 := rows_len l m (by omega); have z2 := rows_le l (m + 1); have z3 := hs _ (Lib.getD_mem [] l m (by omega)); first | omega | (simp only [List.length_append, List.length_cons, List.length_nil, AL.Quill.be2_len]; omega))), (by first | omega | (have z2 := rows_le l k; omega) | (have z1 := rows_len l k (by omega); have z2 := rows_le l (k + 1); have z3 := hs _ (Lib.getD_mem [] l k (by omega)); first | omega | (simp only [List.length_append, List.length_cons, List.length_nil, AL.Quill.be2_len]; omega)) | (have z1 := rows_len l m (by omega); have z2 := rows_le l (m + 1); have z3 := hs _ (Lib.getD_mem [] l m (by omega)); first | omega | (simp only [List.length_append, List.length_cons, List.length_nil, AL.Quill.be2_len]; omega))), (by first | omega | (have z2 := rows_le l k; omega) | (have z1 := rows_len l k (by omega); have z2 := rows_le l (k + 1); have z3 := hs _ (Lib.getD_mem [] l k (by omega)); first | omega | (simp only [List.length_append, List.length_cons, List.length_nil, AL.Quill.be2_len]; omega)) | (have z1 := rows_len l m (by omega); have z2 := rows_le l (m + 1); have z3 := hs _ (Lib.getD_mem [] l m (by omega)); first | omega | (simp only [List.length_append, List.length_cons, List.length_nil, AL.Quill.be2_len]; omega))), (by first | omega | (have z2 := rows_le l k; omega) | (have z1 := rows_len l k (by omega); have z2 := rows_le l (k + 1); have z3 := hs _ (Lib.getD_mem [] l k (by omega)); first | omega | (simp only [List.length_append, List.length_cons, List.length_nil, AL.Quill.be2_len]; omega)) | (have z1 := rows_len l m (by omega); have z2 := rows_le l (m + 1); have z3 := hs _ (Lib.getD_mem [] l m (by omega)); first | omega | (simp only [List.length_append, List.length_cons, List.length_nil, AL.Quill.be2_len]; omega))), (⟨_, rfl, rfl⟩)⟩ ?_
   refine gQ ?_
   refine gS [] [] 46 [(7, vo 29), (30, vc (AL.Fnv.slS l)), (31, vc (i6 (List.length l : Int))), (32, vc (i6 0))] [(29, AObj.grow 5 1 UInt8 0 rowU8 (List.replicate 0 0))] trivial ?_
   refine AMx.block ?_
   refine AMx.ent (s' := AS.lst 46 [(7, vo 29), (30, vc (AL.Fnv.slS l)), (31, vc (i6 (List.length l : Int))), (32, vc (i6 0))] [(29, AObj.grow 5 1 UInt8 0 rowU8 (List.replicate 0 0))]) (ent_proj [7, 30, 31, 32] [29]) ?_
   refine AMx.loop (fun mm ss => ∃ (m : Nat), (m ≤ l.length) ∧ mm = l.length - m ∧ ss = AS.lst 46 [(7, vo 29), (30, vc (AL.Fnv.slS l)), (31, vc (i6 (List.length l : Int))), (32, vc (i6 (m : Int)))] [(29, AObj.grow 5 1 UInt8 0 rowU8 (rowsB (List.take m l)))]) ⟨0, ?_, rfl, ?_⟩ ?_
   · omega
   · rfl
   rintro mm ss ⟨m, hI, rfl, rfl⟩
   refine gS [] [] 46 [(7, vo 29), (30, vc (AL.Fnv.slS l)), (31, vc (i6 (List.length l : Int))), (32, vc (i6 (m : Int))), (33, vc (bo (decide ((m : Int) < (List.length l : Int)))))] [(29, AObj.grow 5 1 UInt8 0 rowU8 (rowsB (List.take m l)))] trivial ?_
   refine gQ ?_
   refine gC ((m : Int) < (List.length l : Int)) (fun hc4 => ?_) fun hc4 => ?_
   ·
    refine AMx.skip ?_
    refine gQ ?_
    refine AMx.block ?_
    refine gS [] [(0 : Int) ≤ (m : Int), (m : Int) < List.length l] 46 [(7, vo 29), (9, vc (st (List.getD l m []))), (30, vc (AL.Fnv.slS l)), (31, vc (i6 (List.length l : Int))), (32, vc (i6 (m : Int)))] [(29, AObj.grow 5 1 UInt8 0 rowU8 (rowsB (List.take m l)))] ⟨(by first | omega | (have z2 := rows_le l k; omega) | (have z1 := rows_len l k (by omega); have z2 := rows_le l (k + 1); have z3 := hs _ (Lib.getD_mem [] l k (by omega)); first | omega | (simp only [List.length_append, List.length_cons, List.length_nil, AL.Quill.be2_len]; omega)) | (have z1 := rows_len l m (by omega); have z2 := rows_le l (m + 1); have z3 := hs _ (Lib.getD_mem [] l m (by omega)); first | omega | (simp only [List.length_append, List.length_cons, List.length_nil, AL.Quill.be2_len]; omega))), (show (m : Int) < List.length l from (by first | omega | (have z2 := rows_le l k; omega) | (have z1 := rows_len l k (by omega); have z2 := rows_le l (k + 1); have z3 := hs _ (Lib.getD_mem [] l k (by omega)); first | omega | (simp only [List.length_append, List.length_cons, List.length_nil, AL.Quill.be2_len]; omega)) | (have z1 := rows_len l m (by omega); have z2 := rows_le l (m + 1); have z3 := hs _ (Lib.getD_mem [] l m (by omega)); first | omega | (simp only [List.length_append, List.length_cons, List.length_nil, AL.Quill.be2_len]; omega))))⟩ ?_
    refine gS [(4, CE.call [] [29] (vo 40) [(40, AObj.grow 5 1 UInt8 0 rowU8 ((rowsB (List.take m l)) ++ AL.Quill.be2 ((List.length ((List.getD l m []) : List UInt8) : Int))))])] [Spec Tryz.prog 89 [TV.c (.own 29), tc (i6 2), tc (u6 (IntKind.wrap .u64 ((List.length ((List.getD l m []) : List UInt8) : Int))))] (ofH [(29, AObj.grow 5 1 UInt8 0 rowU8 (rowsB (List.take m l)))]) (vo 40) (ofH [(40, AObj.grow 5 1 UInt8 0 rowU8 ((rowsB (List.take m l)) ++ AL.Quill.be2 ((List.length ((List.getD l m []) : List UInt8) : Int))))])] 46 [(7, vo 40), (9, vc (st (List.getD l m []))), (30, vc (AL.Fnv.slS l)), (31, vc (i6 (List.length l : Int))), (32, vc (i6 (m : Int)))] [(40, AObj.grow 5 1 UInt8 0 rowU8 ((rowsB (List.take m l)) ++ AL.Quill.be2 ((List.length ((List.getD l m []) : List UInt8) : Int))))] (AL.Quill.lay_c (rowsB (List.take m l)) (IntKind.wrap .u64 ((List.length ((List.getD l m []) : List UInt8) : Int))) ((List.length ((List.getD l m []) : List UInt8) : Int)) (AL.Quill.wrap_64 (by first | omega | (have z2 := rows_le l k; omega) | (have z1 := rows_len l k (by omega); have z2 := rows_le l (k + 1); have z3 := hs _ (Lib.getD_mem [] l k (by omega)); first | omega | (simp only [List.length_append, List.length_cons, List.length_nil, AL.Quill.be2_len]; omega)) | (have z1 := rows_len l m (by omega); have z2 := rows_le l (m + 1); have z3 := hs _ (Lib.getD_mem [] l m (by omega)); first | omega | (simp only [List.length_append, List.length_cons, List.length_nil, AL.Quill.be2_len]; omega))) (by first | omega | (have z2 := rows_le l k; omega) | (have z1 := rows_len l k (by omega); have z2 := rows_le l (k + 1); have z3 := hs _ (Lib.getD_mem [] l k (by omega)); first | omega | (simp only [List.length_append, List.length_cons, List.length_nil, AL.Quill.be2_len]; omega)) | (have z1 := rows_len l m (by omega); have z2 := rows_le l (m + 1); have z3 := hs _ (Lib.getD_mem [] l m (by omega)); first | omega | (simp only [List.length_append, List.length_cons, List.length_nil, AL.Quill.be2_len]; omega)))) (by first | omega | (have z2 := rows_le l k; omega) | (have z1 := rows_len l k (by omega); have z2 := rows_le l (k + 1); have z3 := hs _ (Lib.getD_mem [] l k (by omega)); first | omega | (simp only [List.length_append, List.length_cons, List.length_nil, AL.Quill.be2_len]; omega)) | (have z1 := rows_len l m (by omega); have z2 := rows_le l (m + 1); have z3 := hs _ (Lib.getD_mem [] l m (by omega)); first | omega | (simp only [List.length_append, List.length_cons, List.length_nil, AL.Quill.be2_len]; omega))) (by first | omega | (have z2 := rows_le l k; omega) | (have z1 := rows_len l k (by omega); have z2 := rows_le l (k + 1); have z3 := hs _ (Lib.getD_mem [] l k (by omega)); first | omega | (simp only [List.length_append, List.length_cons, List.length_nil, AL.Quill.be2_len]; omega)) | (have z1 := rows_len l m (by omega); have z2 := rows_le l (m + 1); have z3 := hs _ (Lib.getD_mem [] l m (by omega)); first | omega | (simp only [List.length_append, List.length_cons, List.length_nil, AL.Quill.be2_len]; omega))) (by first | omega | (have z2 := rows_le l k; omega) | (have z1 := rows_len l k (by omega); have z2 := rows_le l (k + 1); have z3 := hs _ (Lib.getD_mem [] l k (by omega)); first | omega | (simp only [List.length_append, List.length_cons, List.length_nil, AL.Quill.be2_len]; omega)) | (have z1 := rows_len l m (by omega); have z2 := rows_le l (m + 1); have z3 := hs _ (Lib.getD_mem [] l m (by omega)); first | omega | (simp only [List.length_append, List.length_cons, List.length_nil, AL.Quill.be2_len]; omega))) 29 40 rfl) ?_
    refine gR [(2, CE.obj (AObj.grow 5 1 UInt8 0 rowU8 (((rowsB (List.take m l)) ++ AL.Quill.be2 ((List.length ((List.getD l m []) : List UInt8) : Int))) ++ (List.getD l m []))))] [AppC (flat 1 rowU8 (List.getD l m [])) (List.length ((List.getD l m []) : List UInt8)) 1 (AObj.grow 5 1 UInt8 0 rowU8 ((rowsB (List.take m l)) ++ AL.Quill.be2 ((List.length ((List.getD l m []) : List UInt8) : Int)))) (AObj.grow 5 1 UInt8 0 rowU8 (((rowsB (List.take m l)) ++ AL.Quill.be2 ((List.length ((List.getD l m []) : List UInt8) : Int))) ++ (List.getD l m [])))] 46 [(7, vo 43), (30, vc (AL.Fnv.slS l)), (31, vc (i6 (List.length l : Int))), (32, vc (i6 (m : Int)))] [(43, AObj.grow 5 1 UInt8 0 rowU8 (((rowsB (List.take m l)) ++ AL.Quill.be2 ((List.length ((List.getD l m []) : List UInt8) : Int))) ++ (List.getD l m [])))] (⟨_, rfl, rfl, rfl, by have z1 := rows_len l m (by omega); have z2 := rows_le l (m + 1); have z3 := hs _ (Lib.getD_mem [] l m (by omega)); simp only [List.length_append, List.length_cons, List.length_nil, AL.Quill.be2_len]; omega, by have z1 := rows_len l m (by omega); have z2 := rows_le l (m + 1); have z3 := hs _ (Lib.getD_mem [] l m (by omega)); simp only [maxLen, List.length_append, List.length_cons, List.length_nil, AL.Quill.be2_len]; omega⟩) ?_
    refine AMx.blk ?_
    refine gR [] [InR .i64 ((m : Int) + 1)] 46 [(7, vo 43), (30, vc (AL.Fnv.slS l)), (31, vc (i6 (List.length l : Int))), (32, vc (i6 ((m : Int) + 1)))] [(43, AObj.grow 5 1 UInt8 0 rowU8 (((rowsB (List.take m l)) ++ AL.Quill.be2 ((List.length ((List.getD l m []) : List UInt8) : Int))) ++ (List.getD l m [])))] (show InR .i64 ((m : Int) + 1) from (inR64 (by first | omega | (have z2 := rows_le l k; omega) | (have z1 := rows_len l k (by omega); have z2 := rows_le l (k + 1); have z3 := hs _ (Lib.getD_mem [] l k (by omega)); first | omega | (simp only [List.length_append, List.length_cons, List.length_nil, AL.Quill.be2_len]; omega)) | (have z1 := rows_len l m (by omega); have z2 := rows_le l (m + 1); have z3 := hs _ (Lib.getD_mem [] l m (by omega)); first | omega | (simp only [List.length_append, List.length_cons, List.length_nil, AL.Quill.be2_len]; omega))) (by first | omega | (have z2 := rows_le l k; omega) | (have z1 := rows_len l k (by omega); have z2 := rows_le l (k + 1); have z3 := hs _ (Lib.getD_mem [] l k (by omega)); first | omega | (simp only [List.length_append, List.length_cons, List.length_nil, AL.Quill.be2_len]; omega)) | (have z1 := rows_len l m (by omega); have z2 := rows_le l (m + 1); have z3 := hs _ (Lib.getD_mem [] l m (by omega)); first | omega | (simp only [List.length_append, List.length_cons, List.length_nil, AL.Quill.be2_len]; omega))))) ?_
    refine AMx.ent_inv (s' := AS.lst 46 [(7, vo 29), (30, vc (AL.Fnv.slS l)), (31, vc (i6 (List.length l : Int))), (32, vc (i6 ((m : Int) + 1)))] [(29, AObj.grow 5 1 UInt8 0 rowU8 (((rowsB (List.take m l)) ++ AL.Quill.be2 ((List.length ((List.getD l m []) : List UInt8) : Int))) ++ (List.getD l m [])))]) (ent_swap 43 29 (by kernel_rfl) (by kernel_rfl)) ?_
    refine AMx.ent_inv (s' := AS.lst 46 [(7, vo 29), (30, vc (AL.Fnv.slS l)), (31, vc (i6 (List.length l : Int))), (32, vc (i6 ((m : Int) + 1)))] [(29, AObj.grow 5 1 UInt8 0 rowU8 (((rowsB (List.take m l)) ++ AL.Quill.be2 ((List.length ((List.getD l m []) : List UInt8) : Int))) ++ (List.getD l m [])))]) (ent_proj [7, 30, 31, 32] [29]) ?_
    refine AMx.inv ⟨_, ?_, m + 1, ?_, rfl, ?_⟩
    rotate_left
    · omega
    · rw [rows_succ l m (by omega), List.append_assoc]; rfl
    · omega
   ·
    refine AMx.exit ?_
    refine AMx.code_exit ?_
    refine AMx.inv_exit ?_
    refine AMx.blk_exit ?_
    refine gS [] [] 46 [(2, vo 29), (3, vc (i6 0))] [(29, AObj.grow 5 1 UInt8 0 rowU8 (rowsB (List.take m l)))] trivial ?_
    refine AMx.ret ?_
    exact ⟨.inl rfl, 29, AObj.grow 5 1 UInt8 0 rowU8 (rowsB (List.take m l)), AV.tup [TV.c (.own 29), tc (i6 0)], by kernel_rfl, rfl, by kernel_rfl, (by rw [rows_all l (show l.length ≤ m by omega)])⟩
theorem f65_body : Tryz.f65.body = some (.seq (.region 0 (rg Tryz.f65 0) false) (.seq (.region 1 (rg Tryz.f65 1) false) (.seq (.region 2 (rg Tryz.f65 2) false) (.seq (.block 0 (.loop (.seq (.seq (.region 3 (rg Tryz.f65 3) false) (.cond (.tmp 11) (.skip) (.exit 0))) (.block 1 (.seq (.seq (.region 4 (rg Tryz.f65 4) false) (.cond (.tmp 14) (.seq (.region 5 (rg Tryz.f65 5) false) (.ret)) (.skip))) (.seq (.region 6 (rg Tryz.f65 6) false) (.seq (.seq (.region 7 (rg Tryz.f65 7) false) (.seq (.region 8 (rg Tryz.f65 8) false) (.cond (.tmp 22) (.seq (.region 9 (rg Tryz.f65 9) true) (.ret)) (.skip)))) (.region 10 (rg Tryz.f65 10) false)))))))) (.seq (.region 11 (rg Tryz.f65 11) false) (.ret)))))) := by kernel_rfl
set_option maxRecDepth 100000 in
set_option maxHeartbeats 8000000 in
theorem Split_c (s : Bytes) (hs : s.length ≤ 2000) : Pure Tryz.prog 65 [tc (st s)] (AV.tup [tc (AL.Fnv.slS ((splitR s).1)), tc (i6 ((splitR s).2))]) := by
 refine Pure.of_body Tryz.func65 f65_body (by kernel_rfl) Tryz.ntmps65 (by kernel_rfl) (by kernel_rfl) ?_
 refine gS [] [] 30 [(0, vc (st s))] [] trivial ?_
 refine gS [] [] 30 [(0, vc (st s)), (4, vc (SC.nilsl))] [] trivial ?_
 refine gS [] [] 30 [(4, vc (SC.nilsl)), (5, vp 5 0)] [(5, AObj.row [.s (st s), .s (i6 0), .s (i6 0)])] trivial ?_
 refine gQ ?_
 refine AMx.block ?_
 refine AMx.ent (s' := AS.lst 30 [(4, vo 4), (5, vp 5 0)] [(4, AObj.grow 9 1 Bytes [] AL.Fnv.rowS []), (5, AObj.row [.s (st s), .s (i6 0), .s (i6 0)])]) (ent_adopt (t := 4) (d := 4) 9 1 Bytes [] AL.Fnv.rowS (by kernel_rfl) (by kernel_rfl) (by kernel_rfl) (by kernel_rfl)) ?_
 refine AMx.ent (s' := AS.lst 30 [(4, vo 4), (5, vp 5 0)] [(4, AObj.grow 9 1 Bytes [] AL.Fnv.rowS []), (5, AObj.row [.s (st s), .s (i6 0), .s (i6 0)])]) (ent_proj [4, 5] [4, 5]) ?_
 refine AMx.loop (fun mm ss => ∃ (f : Nat) (o : List Bytes) (x : AL.Quill.ScanV), (SplI s f o x) ∧ mm = 1 + f ∧ ss = AS.lst 30 [(4, vo 4), (5, vp 5 0)] [(4, AObj.grow 9 1 Bytes [] AL.Fnv.rowS o), (5, AObj.row [.s (st x.1), .s (i6 x.2.1), .s (i6 x.2.2)])]) ⟨s.length, [], (s, 0, 0), ?_, rfl, ?_⟩ ?_
 · exact spl_0 s
 · rfl
 rintro mm ss ⟨f, o, x, hP, rfl, rfl⟩
 refine gQ ?_
 refine gS [(1, CE.call [] [] (vc (i6 ((List.length x.1 : Int) - x.2.1))) [])] [Spec Tryz.prog 92 [TV.agg [.s (st x.1), .s (i6 x.2.1), .s (i6 x.2.2)]] (ofH []) (vc (i6 ((List.length x.1 : Int) - x.2.1))) (ofH [])] 30 [(4, vo 4), (5, vp 5 0), (11, vc (bo (decide (0 < (List.length x.1 : Int) - x.2.1))))] [(4, AObj.grow 9 1 Bytes [] AL.Fnv.rowS o), (5, AObj.row [.s (st x.1), .s (i6 x.2.1), .s (i6 x.2.2)])] (AL.Quill.left_c x (by first | omega | (have z1 := hP.lo; have z2 := hP.hi; have z3 := hP.few; have z4 := hP.fuel; have z5 := hP.text; have z6 := congrArg List.length z5; first | omega | ((try simp only [List.length_append, List.length_cons, List.length_nil]); omega))) (by first | omega | (have z1 := hP.lo; have z2 := hP.hi; have z3 := hP.few; have z4 := hP.fuel; have z5 := hP.text; have z6 := congrArg List.length z5; first | omega | ((try simp only [List.length_append, List.length_cons, List.length_nil]); omega)))) ?_
 refine gC (0 < (List.length x.1 : Int) - x.2.1) (fun hc1 => ?_) fun hc1 => ?_
 ·
  refine AMx.skip ?_
  refine AMx.block ?_
  refine gQ ?_
  refine gS [] [] 30 [(4, vo 4), (5, vp 5 0), (14, vc (bo (decide ((List.length o : Int) = 1024))))] [(4, AObj.grow 9 1 Bytes [] AL.Fnv.rowS o), (5, AObj.row [.s (st x.1), .s (i6 x.2.1), .s (i6 x.2.2)])] trivial ?_
  refine gC ((List.length o : Int) = 1024) (fun hc2 => ?_) fun hc2 => ?_
  ·
   exfalso; first | omega | (have z1 := hP.lo; have z2 := hP.hi; have z3 := hP.few; have z4 := hP.fuel; have z5 := hP.text; have z6 := congrArg List.length z5; first | omega | ((try simp only [List.length_append, List.length_cons, List.length_nil]); omega))
  ·
   refine AMx.skip ?_
   refine gS [] [] 30 [(4, vo 4), (5, vp 5 0)] [(4, AObj.grow 9 1 Bytes [] AL.Fnv.rowS o), (5, AObj.row [.s (st x.1), .s (i6 x.2.1), .s (i6 x.2.2)])] trivial ?_
   refine gQ ?_
   refine gS [(1, CE.call [] [] (AV.tup [tc (st ((AL.Quill.rowQ x).1)), TV.agg [.s (st (((AL.Quill.rowQ x).2).1)), .s (i6 (((AL.Quill.rowQ x).2).2.1)), .s (i6 (((AL.Quill.rowQ x).2).2.2))]]) [])] [Spec Tryz.prog 93 [TV.agg [.s (st x.1), .s (i6 x.2.1), .s (i6 x.2.2)]] (ofH []) (AV.tup [tc (st ((AL.Quill.rowQ x).1)), TV.agg [.s (st (((AL.Quill.rowQ x).2).1)), .s (i6 (((AL.Quill.rowQ x).2).2.1)), .s (i6 (((AL.Quill.rowQ x).2).2.2))]]) (ofH [])] 30 [(4, vo 4), (5, vp 5 0), (6, vc (st ((AL.Quill.rowQ x).1)))] [(4, AObj.grow 9 1 Bytes [] AL.Fnv.rowS o), (5, AObj.row [.s (st (((AL.Quill.rowQ x).2).1)), .s (i6 (((AL.Quill.rowQ x).2).2.1)), .s (i6 (((AL.Quill.rowQ x).2).2.2))])] (AL.Quill.Row_c x (by first | omega | (have z1 := hP.lo; have z2 := hP.hi; have z3 := hP.few; have z4 := hP.fuel; have z5 := hP.text; have z6 := congrArg List.length z5; first | omega | ((try simp only [List.length_append, List.length_cons, List.length_nil]); omega)))) ?_
   refine gS [] [] 30 [(4, vo 4), (5, vp 5 0), (6, vc (st ((AL.Quill.rowQ x).1))), (22, vc (bo (!decide (((AL.Quill.rowQ x).2).2.2 = 0))))] [(4, AObj.grow 9 1 Bytes [] AL.Fnv.rowS o), (5, AObj.row [.s (st (((AL.Quill.rowQ x).2).1)), .s (i6 (((AL.Quill.rowQ x).2).2.1)), .s (i6 (((AL.Quill.rowQ x).2).2.2))])] trivial ?_
   refine gN (((AL.Quill.rowQ x).2).2.2 = 0) (fun hc3 => ?_) fun hc3 => ?_
   ·
    refine gY [] [(1, [5])] [] 30 [(2, vc (SC.nilsl)), (3, vc (i6 (((AL.Quill.rowQ x).2).2.2)))] [] mixed trivial ?_
    refine AMx.ent (ent_weak 2 (v' := vc (AL.Fnv.slS [])) (by kernel_rfl) (AV.le_t (TV.le_c AC.le_nil))) ?_
    exact gT (AV.tup [tc (AL.Fnv.slS []), tc (i6 (((AL.Quill.rowQ x).2).2.2))]) (by rw [show splitR s = ([], ((AL.Quill.rowQ x).2).2.2) from by first | exact spl_bad hP (by have z5 := hP.text; have z6 := congrArg List.length z5; omega) (by assumption) | exact spl_end hP (by have z5 := hP.text; have z6 := congrArg List.length z5; omega)])
   ·
    refine AMx.skip ?_
    refine gR [(2, CE.obj (AObj.grow 9 1 Bytes [] AL.Fnv.rowS [(AL.Quill.rowQ x).1])), (3, CE.obj (AObj.grow 9 1 Bytes [] AL.Fnv.rowS (o ++ [(AL.Quill.rowQ x).1])))] [flat 1 AL.Fnv.rowS [(AL.Quill.rowQ x).1] = [.s (st ((AL.Quill.rowQ x).1))], List.length ([(AL.Quill.rowQ x).1] : List Bytes) = 1, AppC (flat 1 AL.Fnv.rowS [(AL.Quill.rowQ x).1]) (List.length ([(AL.Quill.rowQ x).1] : List Bytes)) 16 (AObj.grow 9 1 Bytes [] AL.Fnv.rowS o) (AObj.grow 9 1 Bytes [] AL.Fnv.rowS (o ++ [(AL.Quill.rowQ x).1]))] 30 [(4, vo 28), (5, vp 5 0)] [(5, AObj.row [.s (st (((AL.Quill.rowQ x).2).1)), .s (i6 (((AL.Quill.rowQ x).2).2.1)), .s (i6 (((AL.Quill.rowQ x).2).2.2))]), (28, AObj.grow 9 1 Bytes [] AL.Fnv.rowS (o ++ [(AL.Quill.rowQ x).1]))] ⟨rfl, rfl, (⟨_, rfl, rfl, rfl, by have z1 := hP.few; have z2 := hP.hi; simp only [List.length_append, List.length_cons, List.length_nil]; omega, by have z1 := hP.few; have z2 := hP.hi; simp only [maxLen, List.length_append, List.length_cons, List.length_nil]; omega⟩)⟩ ?_
    refine AMx.blk ?_
    refine AMx.ent_inv (s' := AS.lst 30 [(4, vo 4), (5, vp 5 0)] [(5, AObj.row [.s (st (((AL.Quill.rowQ x).2).1)), .s (i6 (((AL.Quill.rowQ x).2).2.1)), .s (i6 (((AL.Quill.rowQ x).2).2.2))]), (4, AObj.grow 9 1 Bytes [] AL.Fnv.rowS (o ++ [(AL.Quill.rowQ x).1]))]) (ent_swap 28 4 (by kernel_rfl) (by kernel_rfl)) ?_
    refine AMx.ent_inv (s' := AS.lst 30 [(4, vo 4), (5, vp 5 0)] [(4, AObj.grow 9 1 Bytes [] AL.Fnv.rowS (o ++ [(AL.Quill.rowQ x).1])), (5, AObj.row [.s (st (((AL.Quill.rowQ x).2).1)), .s (i6 (((AL.Quill.rowQ x).2).2.1)), .s (i6 (((AL.Quill.rowQ x).2).2.2))])]) (ent_proj [4, 5] [4, 5]) ?_
    refine AMx.inv ⟨_, ?_, f - 1, o ++ [(AL.Quill.rowQ x).1], (AL.Quill.rowQ x).2, ?_, rfl, ?_⟩
    rotate_left
    · exact (spl_next hP (by have z5 := hP.text; have z6 := congrArg List.length z5; omega) (by assumption)).1
    · rfl
    · have z := (spl_next hP (by have z5 := hP.text; have z6 := congrArg List.length z5; omega) (by assumption)).2; omega
 ·
  refine AMx.exit ?_
  refine AMx.code_exit ?_
  refine AMx.inv_exit ?_
  refine AMx.blk_exit ?_
  refine gS [] [] 30 [(2, vo 4), (3, vc (i6 0))] [(4, AObj.grow 9 1 Bytes [] AL.Fnv.rowS o)] trivial ?_
  refine AMx.ent (s' := AS.lst 30 [(2, vc (AL.Fnv.slS o)), (3, vc (i6 0))] []) (ent_freeze (id := 4) (T := 9) (by kernel_rfl)) ?_
  exact gT (AV.tup [tc (AL.Fnv.slS o), tc (i6 0)]) (by rw [show splitR s = (o, 0) from by first | exact spl_bad hP (by have z5 := hP.text; have z6 := congrArg List.length z5; omega) (by assumption) | exact spl_end hP (by have z5 := hP.text; have z6 := congrArg List.length z5; omega)])
theorem f30_body : Tryz.f30.body = some (.seq (.region 0 (rg Tryz.f30 0) false) (.seq (.seq (.region 1 (rg Tryz.f30 1) false) (.seq (.region 2 (rg Tryz.f30 2) false) (.cond (.tmp 12) (.seq (.region 3 (rg Tryz.f30 3) false) (.ret)) (.skip)))) (.seq (.region 4 (rg Tryz.f30 4) false) (.seq (.region 5 (rg Tryz.f30 5) false) (.seq (.region 6 (rg Tryz.f30 6) false) (.ret)))))) := by kernel_rfl
set_option maxRecDepth 100000 in
set_option maxHeartbeats 8000000 in
theorem Text_c (t : TokV) : Pure Tryz.prog 30 [TV.agg [.s (st t.1), .s (st t.2.1), .s (AL.Policy.slP t.2.2)]] (AV.tup [tc (st ((textT t).1)), tc (i6 ((textT t).2))]) := by
 refine Pure.of_body Tryz.func30 f30_body (by kernel_rfl) Tryz.ntmps30 (by kernel_rfl) (by kernel_rfl) ?_
 refine gS [] [] 31 [(1, vp 1 0)] [(1, AObj.row [.s (st t.1), .s (st t.2.1), .s (AL.Policy.slP t.2.2)])] trivial ?_
 refine gQ ?_
 refine gS [(1, CE.call [] [] (vc (i6 (checkT t))) [])] [Spec Tryz.prog 13 [TV.agg [.s (st t.1), .s (st t.2.1), .s (AL.Policy.slP t.2.2)]] (ofH []) (vc (i6 (checkT t))) (ofH [])] 31 [(1, vp 1 0), (4, vc (i6 (checkT t)))] [(1, AObj.row [.s (st t.1), .s (st t.2.1), .s (AL.Policy.slP t.2.2)])] (Check_c t) ?_
 refine gS [] [] 31 [(1, vp 1 0), (4, vc (i6 (checkT t))), (12, vc (bo (!decide (checkT t = 0))))] [(1, AObj.row [.s (st t.1), .s (st t.2.1), .s (AL.Policy.slP t.2.2)])] trivial ?_
 refine gN (checkT t = 0) (fun hc1 => ?_) fun hc1 => ?_
 ·
  refine gS [] [] 31 [(2, vc (st [])), (3, vc (i6 (checkT t)))] [] trivial ?_
  exact gT (AV.tup [tc (st []), tc (i6 (checkT t))]) (by rw [show textT t = ([], checkT t) from by unfold textT; first | (rw [if_pos (by assumption)]; done) | (rw [if_neg (by omega)]; done)])
 ·
  refine AMx.skip ?_
  refine gS [(2, CE.call [] [] (AV.tup [tc (st ((Policy.textP t.2.2).1)), tc (i6 ((Policy.textP t.2.2).2))]) [])] [Spec Tryz.prog 61 [tc (AL.Policy.slP t.2.2)] (ofH []) (AV.tup [tc (st ((Policy.textP t.2.2).1)), tc (i6 ((Policy.textP t.2.2).2))]) (ofH [])] 31 [(1, vp 1 0), (5, vc (st ((Policy.textP t.2.2).1)))] [(1, AObj.row [.s (st t.1), .s (st t.2.1), .s (AL.Policy.slP t.2.2)])] (Policy.Text_c t.2.2) ?_
  refine gS [(3, CE.obj (AObj.grow 9 1 Bytes [] AL.Fnv.rowS [t.2.1, (Policy.textP t.2.2).1])), (4, CE.call [24] [] (AV.tup [TV.c (.own 25), tc (i6 0)]) [(25, AObj.grow 5 1 UInt8 0 rowU8 (rowsB [t.2.1, (Policy.textP t.2.2).1]))])] [flat 1 AL.Fnv.rowS [t.2.1, (Policy.textP t.2.2).1] = [.s (st t.2.1), .s (st ((Policy.textP t.2.2).1))], List.length ([t.2.1, (Policy.textP t.2.2).1] : List Bytes) = 2, Spec Tryz.prog 62 [tc (AL.Fnv.slS [t.2.1, (Policy.textP t.2.2).1])] (ofH []) (AV.tup [TV.c (.own 25), tc (i6 0)]) (ofH [(25, AObj.grow 5 1 UInt8 0 rowU8 (rowsB [t.2.1, (Policy.textP t.2.2).1]))])] 31 [(7, vo 25), (8, vc (i6 0))] [(25, AObj.grow 5 1 UInt8 0 rowU8 (rowsB [t.2.1, (Policy.textP t.2.2).1]))] ⟨rfl, rfl, (Rows_c [t.2.1, (Policy.textP t.2.2).1] (by first | omega | (have z := two_len (t := t) (by omega); first | omega | (simp only [List.length_cons, List.length_nil]; omega))) (by exact two_le (by omega)) (by first | omega | (have z := two_len (t := t) (by omega); first | omega | (simp only [List.length_cons, List.length_nil]; omega))) 25)⟩ ?_
  refine gS [(1, CE.str (rowsB [t.2.1, (Policy.textP t.2.2).1]))] [flat 1 rowU8 (rowsB [t.2.1, (Policy.textP t.2.2).1]) = flat 1 rowU8 (rowsB [t.2.1, (Policy.textP t.2.2).1]), List.length (rowsB [t.2.1, (Policy.textP t.2.2).1] : List UInt8) = List.length (rowsB [t.2.1, (Policy.textP t.2.2).1] : List UInt8), (List.length (rowsB [t.2.1, (Policy.textP t.2.2).1] : List UInt8) : Int) ≤ 140737488355328] 31 [(2, vc (st (rowsB [t.2.1, (Policy.textP t.2.2).1]))), (3, vc (i6 0))] [] ⟨rfl, rfl, (show (List.length (rowsB [t.2.1, (Policy.textP t.2.2).1] : List UInt8) : Int) ≤ 140737488355328 from (by first | omega | (have z := two_len (t := t) (by omega); first | omega | (simp only [List.length_cons, List.length_nil]; omega))))⟩ ?_
  exact gT (AV.tup [tc (st (rowsB [t.2.1, (Policy.textP t.2.2).1])), tc (i6 0)]) (by rw [show textT t = (rowsB [t.2.1, (Policy.textP t.2.2).1], 0) from by unfold textT; first | (rw [if_pos (by assumption)]; done) | (rw [if_neg (by omega)]; done)])
theorem f32_body : Tryz.f32.body = some (.seq (.region 0 (rg Tryz.f32 0) false) (.seq (.region 1 (rg Tryz.f32 1) false) (.seq (.seq (.region 2 (rg Tryz.f32 2) false) (.cond (.tmp 16) (.seq (.region 3 (rg Tryz.f32 3) false) (.ret)) (.skip))) (.seq (.seq (.region 4 (rg Tryz.f32 4) false) (.cond (.tmp 21) (.seq (.region 5 (rg Tryz.f32 5) false) (.ret)) (.skip))) (.seq (.region 6 (rg Tryz.f32 6) false) (.seq (.region 7 (rg Tryz.f32 7) false) (.seq (.seq (.region 8 (rg Tryz.f32 8) false) (.cond (.tmp 42) (.seq (.region 9 (rg Tryz.f32 9) false) (.ret)) (.skip))) (.seq (.region 10 (rg Tryz.f32 10) false) (.ret))))))))) := by kernel_rfl
set_option maxRecDepth 100000 in
set_option maxHeartbeats 8000000 in
theorem Parse_c (n s : Bytes) (hs : s.length ≤ 2000) : Pure Tryz.prog 32 [tc (st n), tc (st s)] (AV.tup [TV.agg [.s (st (((parseT n s).1).1)), .s (st (((parseT n s).1).2.1)), .s (AL.Policy.slP (((parseT n s).1).2.2))], tc (i6 ((parseT n s).2))]) := by
 refine Pure.of_body Tryz.func32 f32_body (by kernel_rfl) Tryz.ntmps32 (by kernel_rfl) (by kernel_rfl) ?_
 refine gS [] [] 45 [(0, vc (st n)), (1, vc (st s)), (4, vp 4 0)] [(4, AObj.row [.s (st []), .s (st []), .s (SC.nilsl)])] trivial ?_
 refine gS [(1, CE.call [] [] (AV.tup [tc (AL.Fnv.slS ((splitR s).1)), tc (i6 ((splitR s).2))]) [])] [Spec Tryz.prog 65 [tc (st s)] (ofH []) (AV.tup [tc (AL.Fnv.slS ((splitR s).1)), tc (i6 ((splitR s).2))]) (ofH [])] 45 [(0, vc (st n)), (4, vp 4 0), (6, vc (AL.Fnv.slS ((splitR s).1))), (7, vc (i6 ((splitR s).2)))] [(4, AObj.row [.s (st []), .s (st []), .s (SC.nilsl)])] (Split_c s (by first | omega | (have z := piece_le (s := s) 1; omega))) ?_
 refine gQ ?_
 refine gS [] [] 45 [(0, vc (st n)), (4, vp 4 0), (6, vc (AL.Fnv.slS ((splitR s).1))), (7, vc (i6 ((splitR s).2))), (16, vc (bo (!decide ((splitR s).2 = 0))))] [(4, AObj.row [.s (st []), .s (st []), .s (SC.nilsl)])] trivial ?_
 refine gN ((splitR s).2 = 0) (fun hc1 => ?_) fun hc1 => ?_
 ·
  refine gS [] [] 45 [(4, vp 4 0), (5, vc (i6 ((splitR s).2)))] [(4, AObj.row [.s (st []), .s (st []), .s (SC.nilsl)])] trivial ?_
  refine AMx.ent (ent_row 4 (l := [.s (st []), .s (st []), .s (SC.nilsl)]) (m := [.s (st []), .s (st []), .s (AL.Policy.slP [])]) (by kernel_rfl) ⟨AC.le_rfl, AC.le_rfl, AC.le_nil, trivial⟩) ?_
  exact gT (AV.tup [TV.agg [.s (st []), .s (st []), .s (AL.Policy.slP [])], tc (i6 ((splitR s).2))]) (by rw [show parseT n s = ((([], [], []) : TokV), (splitR s).2) from by unfold parseT; first | (rw [if_pos (by assumption)]; done) | (rw [if_pos (by assumption)]; rfl) | (rw [if_neg (by omega), if_pos (by omega)]; rfl) | (rw [if_neg (by omega), if_neg (by omega), if_pos (by assumption)]; rfl) | (rw [if_neg (by omega), if_neg (by omega), if_neg (by grind)]; done)])
 ·
  refine AMx.skip ?_
  refine gQ ?_
  refine gS [] [] 45 [(0, vc (st n)), (4, vp 4 0), (6, vc (AL.Fnv.slS ((splitR s).1))), (21, vc (bo (!decide ((List.length ((splitR s).1 : List Bytes) : Int) = 2))))] [(4, AObj.row [.s (st []), .s (st []), .s (SC.nilsl)])] trivial ?_
  refine gN ((List.length ((splitR s).1 : List Bytes) : Int) = 2) (fun hc2 => ?_) fun hc2 => ?_
  ·
   refine gS [] [] 45 [(4, vp 4 0), (5, vc (i6 4))] [(4, AObj.row [.s (st []), .s (st []), .s (SC.nilsl)])] trivial ?_
   refine AMx.ent (ent_row 4 (l := [.s (st []), .s (st []), .s (SC.nilsl)]) (m := [.s (st []), .s (st []), .s (AL.Policy.slP [])]) (by kernel_rfl) ⟨AC.le_rfl, AC.le_rfl, AC.le_nil, trivial⟩) ?_
   exact gT (AV.tup [TV.agg [.s (st []), .s (st []), .s (AL.Policy.slP [])], tc (i6 4)]) (by rw [show parseT n s = ((([], [], []) : TokV), 4) from by unfold parseT; first | (rw [if_pos (by assumption)]; done) | (rw [if_pos (by assumption)]; rfl) | (rw [if_neg (by omega), if_pos (by omega)]; rfl) | (rw [if_neg (by omega), if_neg (by omega), if_pos (by assumption)]; rfl) | (rw [if_neg (by omega), if_neg (by omega), if_neg (by grind)]; done)])
  ·
   refine AMx.skip ?_
   refine gS [(3, CE.call [] [] (AV.tup [tc (AL.Policy.slP ((Policy.parseP (List.getD ((splitR s).1) 1 [])).1)), tc (i6 ((Policy.parseP (List.getD ((splitR s).1) 1 [])).2))]) [])] [(0 : Int) ≤ 1, (1 : Int) < List.length ((splitR s).1 : List Bytes), Spec Tryz.prog 66 [tc (st (List.getD ((splitR s).1) 1 []))] (ofH []) (AV.tup [tc (AL.Policy.slP ((Policy.parseP (List.getD ((splitR s).1) 1 [])).1)), tc (i6 ((Policy.parseP (List.getD ((splitR s).1) 1 [])).2))]) (ofH [])] 45 [(0, vc (st n)), (4, vp 4 0), (6, vc (AL.Fnv.slS ((splitR s).1))), (7, vc (i6 ((Policy.parseP (List.getD ((splitR s).1) 1 [])).2))), (8, vc (AL.Policy.slP ((Policy.parseP (List.getD ((splitR s).1) 1 [])).1)))] [(4, AObj.row [.s (st []), .s (st []), .s (SC.nilsl)])] ⟨(by first | omega | (have z := piece_le (s := s) 1; omega)), (by first | omega | (have z := piece_le (s := s) 1; omega)), (Policy.Parse_c (List.getD ((splitR s).1) 1 []) (by first | omega | (have z := piece_le (s := s) 1; omega)))⟩ ?_
   refine gS [] [(0 : Int) ≤ 0, (0 : Int) < List.length ((splitR s).1 : List Bytes)] 45 [(4, vp 4 0), (7, vc (i6 ((Policy.parseP (List.getD ((splitR s).1) 1 [])).2))), (9, vp 9 0)] [(4, AObj.row [.s (st []), .s (st []), .s (SC.nilsl)]), (9, AObj.row [.s (st n), .s (st (List.getD ((splitR s).1) 0 [])), .s (AL.Policy.slP ((Policy.parseP (List.getD ((splitR s).1) 1 [])).1))])] ⟨(by first | omega | (have z := piece_le (s := s) 1; omega)), (show (0 : Int) < List.length ((splitR s).1 : List Bytes) from (by first | omega | (have z := piece_le (s := s) 1; omega)))⟩ ?_
   refine gQ ?_
   refine gS [(4, CE.call [] [] (vc (i6 (checkT ((n, (List.getD ((splitR s).1) 0 []), (Policy.parseP (List.getD ((splitR s).1) 1 [])).1) : TokV)))) [])] [((!decide ((Policy.parseP (List.getD ((splitR s).1) 1 [])).2 = 0)) = false) → allP [(!decide ((Policy.parseP (List.getD ((splitR s).1) 1 [])).2 = 0)) = false, Spec Tryz.prog 13 [TV.agg [.s (st n), .s (st (List.getD ((splitR s).1) 0 [])), .s (AL.Policy.slP ((Policy.parseP (List.getD ((splitR s).1) 1 [])).1))]] (ofH []) (vc (i6 (checkT ((n, (List.getD ((splitR s).1) 0 []), (Policy.parseP (List.getD ((splitR s).1) 1 [])).1) : TokV)))) (ofH [])], ((!decide ((Policy.parseP (List.getD ((splitR s).1) 1 [])).2 = 0)) = false) → allP [(!decide ((Policy.parseP (List.getD ((splitR s).1) 1 [])).2 = 0)) = false], (!decide ((Policy.parseP (List.getD ((splitR s).1) 1 [])).2 = 0)) = false → allP [(!decide ((Policy.parseP (List.getD ((splitR s).1) 1 [])).2 = 0)) = false]] 45 [(4, vp 4 0), (9, vp 9 0), (42, vc (bo ((!decide ((Policy.parseP (List.getD ((splitR s).1) 1 [])).2 = 0)) || (!decide (checkT ((n, (List.getD ((splitR s).1) 0 []), (Policy.parseP (List.getD ((splitR s).1) 1 [])).1) : TokV) = 0)))))] [(4, AObj.row [.s (st []), .s (st []), .s (SC.nilsl)]), (9, AObj.row [.s (st n), .s (st (List.getD ((splitR s).1) 0 [])), .s (AL.Policy.slP ((Policy.parseP (List.getD ((splitR s).1) 1 [])).1))])] ⟨(fun hp => by have hq := hp; (try simp only [xT, xF, xA, xO, xB, xP, xN, xM, Bool.not_eq_true, Bool.not_eq_false] at hq); exact ⟨hp, (Check_c ((n, (List.getD ((splitR s).1) 0 []), (Policy.parseP (List.getD ((splitR s).1) 1 [])).1) : TokV))⟩), (fun hp => hp), (fun hp2 => (by first | exact hp2 | exact ⟨hp, hp2⟩))⟩ ?_
   refine gB (((!decide ((Policy.parseP (List.getD ((splitR s).1) 1 [])).2 = 0)) || (!decide (checkT ((n, (List.getD ((splitR s).1) 0 []), (Policy.parseP (List.getD ((splitR s).1) 1 [])).1) : TokV) = 0)))) (fun hc3 => ?_) fun hc3 => ?_
   ·
    try simp only [xT, xF, xO, xP, xN, xM] at hc3
    refine gS [] [] 45 [(4, vp 4 0), (5, vc (i6 4))] [(4, AObj.row [.s (st []), .s (st []), .s (SC.nilsl)])] trivial ?_
    refine AMx.ent (ent_row 4 (l := [.s (st []), .s (st []), .s (SC.nilsl)]) (m := [.s (st []), .s (st []), .s (AL.Policy.slP [])]) (by kernel_rfl) ⟨AC.le_rfl, AC.le_rfl, AC.le_nil, trivial⟩) ?_
    exact gT (AV.tup [TV.agg [.s (st []), .s (st []), .s (AL.Policy.slP [])], tc (i6 4)]) (by rw [show parseT n s = ((([], [], []) : TokV), 4) from by unfold parseT; first | (rw [if_pos (by assumption)]; done) | (rw [if_pos (by assumption)]; rfl) | (rw [if_neg (by omega), if_pos (by omega)]; rfl) | (rw [if_neg (by omega), if_neg (by omega), if_pos (by assumption)]; rfl) | (rw [if_neg (by omega), if_neg (by omega), if_neg (by grind)]; done)])
   ·
    try simp only [xT, xF, xO, xP, xN, xM] at hc3
    refine AMx.skip ?_
    refine gS [] [] 45 [(4, vp 4 0), (5, vc (i6 0))] [(4, AObj.row [.s (st n), .s (st (List.getD ((splitR s).1) 0 [])), .s (AL.Policy.slP ((Policy.parseP (List.getD ((splitR s).1) 1 [])).1))])] trivial ?_
    exact gT (AV.tup [TV.agg [.s (st n), .s (st (List.getD ((splitR s).1) 0 [])), .s (AL.Policy.slP ((Policy.parseP (List.getD ((splitR s).1) 1 [])).1))], tc (i6 0)]) (by rw [show parseT n s = (((n, (List.getD ((splitR s).1) 0 []), (Policy.parseP (List.getD ((splitR s).1) 1 [])).1) : TokV), 0) from by unfold parseT; first | (rw [if_pos (by assumption)]; done) | (rw [if_pos (by assumption)]; rfl) | (rw [if_neg (by omega), if_pos (by omega)]; rfl) | (rw [if_neg (by omega), if_neg (by omega), if_pos (by assumption)]; rfl) | (rw [if_neg (by omega), if_neg (by omega), if_neg (by grind)]; done)])
end AL.Token
namespace AL.Token
open Go AL
open AL.Policy (RuleV rowP slP checkP coversS capsP)
set_option linter.unusedVariables false
set_option linter.unusedSimpArgs false
theorem make_cases (l : List TokV) (t : TokV) : ((makeT l t).1 = l ∧ ¬ (makeT l t).2 = 0) ∨ (makeT l t = (intoT l t, 0) ∧ checkT t = 0 ∧ ¬ t.2.1 = [] ∧ findT l t.1 < 0 ∧ 0 ≤ findT l t.2.1 ∧ coversS t.2.2 (List.getD l (findT l t.2.1).toNat tokd).2.2 = true) := by
  unfold makeT
  split
  · exact .inl ⟨rfl, by assumption⟩
  · split
    · exact .inl ⟨rfl, show ¬ (2 : Int) = 0 by decide⟩
    · split
      · exact .inl ⟨rfl, show ¬ (20 : Int) = 0 by decide⟩
      · split
        · exact .inl ⟨rfl, show ¬ (6 : Int) = 0 by decide⟩
        · split
          · exact .inl ⟨rfl, show ¬ (13 : Int) = 0 by decide⟩
          · rename_i h1 h2 h3 h4 h5
            exact .inr ⟨rfl, Decidable.not_not.1 h1, h2, by omega, by omega, by simpa using h5⟩
theorem make_sort {l : List TokV} {t : TokV} (h : SortT l) : SortT (makeT l t).1 := by
  rcases make_cases l t with ⟨h1, _⟩ | ⟨h1, _, _, h2, _⟩
  · rw [h1]; exact h
  · rw [h1]; exact into_sort h h2
theorem make_len (l : List TokV) (t : TokV) : l.length ≤ (makeT l t).1.length ∧ (makeT l t).1.length ≤ l.length + 1 := by
  rcases make_cases l t with ⟨h1, _⟩ | ⟨h1, _⟩
  · rw [h1]; omega
  · rw [h1]; have := into_len l t; dsimp only; omega
def addL (s : List TokV) (t : TokV) : Option (List TokV) :=
  if t = firstT ∧ (s.length : Int) = 0 then some (intoT s t) else if ¬ (makeT s t).2 = 0 ∨ t.1 = rootB then none else some (makeT s t).1
def passL : List TokV → List TokV → List TokV × List TokV
  | s, [] => (s, [])
  | s, t :: l => match addL s t with
    | some s' => passL s' l
    | none => ((passL s l).1, t :: (passL s l).2)
def loadL : Nat → List TokV → List TokV → List TokV × Int
  | 0, _, _ => ([], 4)
  | f + 1, s, left => if left.length = 0 then (s, 0) else if (passL s left).2.length = left.length then ([], 4) else loadL f (passL s left).1 (passL s left).2
def loadT (l : List TokV) : List TokV × Int := loadL (l.length + 1) [] l
structure LoadI (l : List TokV) (f : Nat) (s left : List TokV) : Prop where
  eq : loadT l = loadL f s left
  fuel : left.length < f
  rise : SortT s
  few : s.length + left.length ≤ l.length
structure PassI (s0 left : List TokV) (k : Nat) (s late : List TokV) : Prop where
  eq : passL s0 left = ((passL s (List.drop k left)).1, late ++ (passL s (List.drop k left)).2)
  rise : SortT s
  few : s.length + late.length ≤ s0.length + k
section
variable {s0 left s late : List TokV} {k : Nat}
end
def RootC (s : List TokV) (t : TokV) : Prop := (((t.2.1 = [] ∧ t.1 = rootB) ∧ checkT t = 0) ∧ t.2.2 = firstT.2.2) ∧ findT s rootB < 0
instance (s : List TokV) (t : TokV) : Decidable (RootC s t) := inferInstanceAs (Decidable (_ ∧ _))
def rootR (s : List TokV) (t : TokV) : List TokV := if RootC s t then intoT s t else s
def stepR (s : List TokV) (t : TokV) : List TokV := if (makeT (rootR s t) t).2 = 0 ∧ ¬ t.1 = rootB then (makeT (rootR s t) t).1 else rootR s t
def roundsR (l : List TokV) : Nat → List TokV
  | 0 => []
  | n + 1 => l.foldl stepR (roundsR l n)
structure RoundI (l : List TokV) (n i : Nat) (s : List TokV) : Prop where
  eq : s = (List.take i l).foldl stepR (roundsR l n)
  few : s.length ≤ 202 * n + 2 * i
end AL.Token
namespace AL.Token
open Go AL
open AL.Policy (RuleV rowP slP checkP coversS capsP textP parseP)
set_option linter.unusedVariables false
set_option linter.unusedSimpArgs false
theorem new_wf : WF [firstT] := ⟨fun t ht => by rw [List.mem_singleton.1 ht]; decide, fun _ => 0, fun t ht => .inl (List.mem_singleton.1 ht)⟩
theorem new_sort : SortT [firstT] := List.pairwise_singleton _ _
theorem make_wf {s : List TokV} {t : TokV} (hw : WF s) : WF (makeT s t).1 := by
  rcases make_cases s t with ⟨h, _⟩ | ⟨h, hc, hp, hn, hf, hv⟩
  · rw [h]; exact hw
  · rw [h]
    obtain ⟨d, hd⟩ := hw.ex
    have h1 := find_at hf
    have hne := find_no.1 hn
    refine ⟨fun x hx => ?_, fun n => if n = t.1 then d t.2.1 + 1 else d n, fun x hx => ?_⟩
    · rcases into_mem.1 hx with rfl | hx
      · exact hc
      · exact hw.chk x hx
    · rcases into_mem.1 hx with rfl | hx
      · right
        have h2 : ¬ x.2.1 = x.1 := fun e => hne _ h1.2 (h1.1.trans e)
        refine ⟨hp, ?_, _, into_mem.2 (.inr h1.2), h1.1, hv⟩
        dsimp only
        rw [if_pos rfl, if_neg h2]
      · rcases hd x hx with e | ⟨q1, q2, p, q3, q4, q5⟩
        · exact .inl e
        · right
          refine ⟨q1, ?_, p, into_mem.2 (.inr q3), q4, q5⟩
          dsimp only
          rw [if_neg (hne x hx), if_neg (fun e => hne p q3 (q4.trans e))]
          exact q2
theorem left_wf {s : List TokV} (hw : WF s) (hs : SortT s) (n : Bytes) : WF (leftT s n) := by
  obtain ⟨d, hd⟩ := hw.ex
  refine ⟨fun x hx => hw.chk x (List.mem_filter.1 hx).1, d, fun x hx => ?_⟩
  obtain ⟨hx, hg⟩ := List.mem_filter.1 hx
  rcases hd x hx with e | ⟨q1, q2, p, q3, q4, q5⟩
  · exact .inl e
  · refine .inr ⟨q1, q2, p, List.mem_filter.2 ⟨q3, ?_⟩, q4, q5⟩
    cases hgp : goneS s p n with
    | false => rfl
    | true =>
      have := (gone_anc hs hw hx).2 (.step q3 q4 ((gone_anc hs hw q3).1 hgp))
      rw [this] at hg
      cases hg
theorem left_sort {s : List TokV} (hs : SortT s) (n : Bytes) : SortT (leftT s n) := List.Pairwise.filter _ hs
theorem revoke_wf {s : List TokV} {n : Bytes} (hw : WF s) (hs : SortT s) : WF (revokeT s n).1 := by
  unfold revokeT
  split
  · exact hw
  · exact left_wf hw hs n
theorem revoke_sort {s : List TokV} {n : Bytes} (hs : SortT s) : SortT (revokeT s n).1 := by
  unfold revokeT
  split
  · exact hs
  · exact left_sort hs n
theorem revoke_len (s : List TokV) (n : Bytes) : (revokeT s n).1.length ≤ s.length := by
  unfold revokeT
  split
  · exact Nat.le_refl _
  · exact List.length_filter_le _ _
theorem wf_rules {s : List TokV} (hw : WF s) : ∀ x ∈ s, x.2.2.length ≤ 100000 := fun x hx => Nat.le_trans (check_le (hw.chk x hx)) (by decide)
def doT (s : List TokV) (o : OpT) : List TokV := if o.1 = true then (revokeT s o.2.1).1 else (makeT s o.2).1
structure Good (s : List TokV) (k : Nat) : Prop where
  wf : WF s
  rise : SortT s
  few : s.length ≤ k + 1
theorem good_0 : Good [firstT] 0 := ⟨new_wf, new_sort, Nat.le_refl _⟩
theorem good_rev {s : List TokV} {k : Nat} (h : Good s k) (n : Bytes) : Good (revokeT s n).1 (k + 1) := ⟨revoke_wf h.wf h.rise, revoke_sort h.rise, by have := revoke_len s n; have := h.few; omega⟩
theorem good_make {s : List TokV} {k : Nat} (h : Good s k) (t : TokV) : Good (makeT s t).1 (k + 1) := ⟨make_wf h.wf, make_sort h.rise, by have := (make_len s t).2; have := h.few; omega⟩
theorem good_do {s : List TokV} {k : Nat} (h : Good s k) (o : OpT) : Good (doT s o) (k + 1) := by
  unfold doT
  split
  · exact good_rev h _
  · exact good_make h _
def madeT (l : List OpT) : List TokV := l.foldl doT [firstT]
theorem made_step {l : List OpT} {k : Nat} (h : k < l.length) : madeT (List.take (k + 1) l) = doT (madeT (List.take k l)) (List.getD l k opd) := by
  unfold madeT
  rw [Lib.take_succ opd l k h, List.foldl_append]; rfl
theorem made_good (l : List OpT) : ∀ k, k ≤ l.length → Good (madeT (List.take k l)) k
  | 0, _ => good_0
  | k + 1, h => by rw [made_step (by omega)]; exact good_do (made_good l k (by omega)) _
theorem made_goodA (l : List OpT) : Good (madeT l) l.length := by
  have := made_good l l.length (Nat.le_refl _)
  rwa [List.take_length] at this
theorem made_y {l : List OpT} {k : Nat} (h : k < l.length) (h1 : (List.getD l k opd).1 = true) : (revokeT (madeT (List.take k l)) (List.getD l k opd).2.1).1 = madeT (List.take (k + 1) l) := by
  rw [made_step h, doT, if_pos h1]
theorem made_n {l : List OpT} {k : Nat} (h : k < l.length) (h1 : (List.getD l k opd).1 = false) : (makeT (madeT (List.take k l)) (List.getD l k opd).2).1 = madeT (List.take (k + 1) l) := by
  rw [made_step h, doT, if_neg (by rw [h1]; decide)]
def tokensO (l : List OpT) : List TokV := l.map (·.2)
theorem toks_step (l : List OpT) (k : Nat) (h : k < l.length) : tokensO (List.take k l) ++ [(List.getD l k opd).2] = tokensO (List.take (k + 1) l) := by
  unfold tokensO
  rw [Lib.take_succ opd l k h, List.map_append]; rfl
theorem toks_len (l : List OpT) : (tokensO l).length = l.length := List.length_map _
def bigT (x : TokV) : Bool := decide (40 < x.1.length) || (decide (40 < x.2.1.length) || decide (0 < Policy.overP x.2.2))
def overT (l : List TokV) : Int := if 12 < l.length ∨ l.any bigT = true then 1 else 0
def SmallTo (l : List TokV) (k : Nat) : Prop := ∀ x ∈ List.take k l, bigT x = false
theorem small_0 (l : List TokV) : SmallTo l 0 := fun x hx => by simp at hx
theorem small_step {l : List TokV} {k : Nat} (h : k < l.length) (hN : SmallTo l k) (h1 : (¬ (40 : Int) < (List.length (List.getD l k tokd).1 : Int) ∧ ¬ (40 : Int) < (List.length (List.getD l k tokd).2.1 : Int)) ∧ ¬ 0 < Policy.overP (List.getD l k tokd).2.2) : SmallTo l (k + 1) := by
  intro x hx
  rw [Lib.take_succ tokd l k h] at hx
  rcases List.mem_append.1 hx with q | q
  · exact hN x q
  · rw [List.mem_singleton.1 q]
    unfold bigT
    rw [decide_eq_false (by omega), decide_eq_false (by omega), decide_eq_false h1.2]; rfl
theorem over_1 {l : List TokV} (h : (12 : Int) < (List.length l : Int)) : overT l = 1 := if_pos (.inl (by omega))
theorem over_2 {l : List TokV} {k : Nat} (hk : k < l.length) (h : ((40 : Int) < (List.length (List.getD l k tokd).1 : Int) ∨ (40 : Int) < (List.length (List.getD l k tokd).2.1 : Int)) ∨ 0 < Policy.overP (List.getD l k tokd).2.2) : overT l = 1 := by
  refine if_pos (.inr (List.any_eq_true.2 ⟨_, Lib.getD_mem tokd l k hk, ?_⟩))
  unfold bigT
  rcases h with (h | h) | h
  · rw [decide_eq_true (p := 40 < (List.getD l k tokd).1.length) (by omega)]; rfl
  · rw [decide_eq_true (p := 40 < (List.getD l k tokd).2.1.length) (by omega)]; simp
  · rw [decide_eq_true (p := 0 < Policy.overP (List.getD l k tokd).2.2) h]; simp
theorem over_0 {l : List TokV} {k : Nat} (h12 : ¬ (12 : Int) < (List.length l : Int)) (hk : l.length ≤ k) (hN : SmallTo l k) : overT l = 0 := by
  unfold SmallTo at hN
  rw [List.take_of_length_le hk] at hN
  refine if_neg fun h => ?_
  rcases h with h | h
  · omega
  · obtain ⟨x, hx, h2⟩ := List.any_eq_true.1 h
    rw [hN x hx] at h2
    cases h2
theorem over_ok {l : List TokV} (h : ¬ 0 < overT l) : l.length ≤ 12 ∧ ∀ x ∈ l, x.1.length ≤ 40 ∧ x.2.1.length ≤ 40 ∧ x.2.2.length ≤ 8 := by
  unfold overT at h
  split at h
  · exact absurd h (by decide)
  · rename_i q
    rw [not_or] at q
    refine ⟨by omega, fun x hx => ?_⟩
    have : bigT x = false := by
      cases hb : bigT x with
      | false => rfl
      | true => exact absurd (List.any_eq_true.2 ⟨x, hx, hb⟩) q.2
    unfold bigT at this
    simp only [Bool.or_eq_false_iff, decide_eq_false_iff_not] at this
    exact ⟨by omega, by omega, (Policy.over_ok this.2.2).1⟩
theorem over_tok {l : List OpT} (h : ¬ 0 < overT (tokensO l)) : l.length ≤ 12 ∧ ∀ x ∈ l, x.2.1.length ≤ 40 ∧ x.2.2.1.length ≤ 40 ∧ x.2.2.2.length ≤ 8 := by
  have := over_ok h
  rw [toks_len] at this
  exact ⟨this.1, fun x hx => this.2 x.2 (List.mem_map.2 ⟨x, hx, rfl⟩)⟩
theorem names_at {l : List TokV} {i : Nat} (h : i < l.length) : List.getD (namesT l) i [] = (List.getD l i tokd).1 := by
  unfold namesT
  rw [Lib.getD_lt _ _ _ (by rw [List.length_map]; exact h), Lib.getD_lt _ _ _ h, List.getElem_map]
theorem findR_at {l : List TokV} (hs : SortT l) {i : Nat} (h : i < l.length) : findR l (List.getD l i tokd).1 = (List.getD l i tokd, true) := by
  have := find_yes hs (Lib.getD_mem tokd l i h) rfl
  unfold findR
  rw [if_neg (by omega), this.2]
inductive Thin (s : List TokV) : List TokV → List TokV → Prop
  | nil : Thin s [] []
  | keep {t a l} : Thin s a l → Thin s (t :: a) (t :: l)
  | drop {t a l} : 0 ≤ findT s t.1 → Thin s a l → Thin s (t :: a) l
theorem Thin.refl {s : List TokV} : ∀ l : List TokV, Thin s l l
  | [] => .nil
  | _ :: l => .keep (Thin.refl l)
theorem Thin.mono {s s' : List TokV} (h : ∀ n, 0 ≤ findT s n → 0 ≤ findT s' n) {a l : List TokV} (ht : Thin s a l) : Thin s' a l := by
  induction ht with
  | nil => exact .nil
  | keep _ ih => exact .keep ih
  | drop q _ ih => exact .drop (h _ q) ih
def bobT : TokV := ([98, 111, 98], rootB, [([97], 1)])
def eveT : TokV := ([101, 118, 101], [98, 111, 98], [])
def maxT : TokV := ([109, 97, 120], [98, 111, 98], [([], 1)])
def awA : List TokV := [bobT, firstT]
def awB : List TokV := [bobT, eveT, firstT]
instance (l : List TokV) : Decidable (SortT l) := inferInstanceAs (Decidable (List.Pairwise _ _))
theorem awm1 : makeT [firstT] bobT = (awA, 0) := Prod.ext (by decide +kernel) (by decide +kernel)
theorem awm2 : makeT awA eveT = (awB, 0) := Prod.ext (by decide +kernel) (by decide +kernel)
theorem awm3 : (makeT awB maxT).2 = 13 := by decide +kernel
theorem awr : revokeT awB [98, 111, 98] = ([firstT], [[98, 111, 98], [101, 118, 101]], 0) := Prod.ext (by decide +kernel) (Prod.ext (by decide +kernel) (by decide +kernel))
theorem aws1 : SortT awA := by decide +kernel
theorem aws2 : SortT awB := by decide +kernel
theorem aww1 : WF awA := by
  have := make_wf (t := bobT) new_wf
  rwa [awm1] at this
theorem aww2 : WF awB := by
  have := make_wf (t := eveT) aww1
  rwa [awm2] at this
theorem awf1 : (findR [firstT] [98, 111, 98]).2 = false := by decide +kernel
theorem awf2 : findR awB [98, 111, 98] = (bobT, true) := by decide +kernel
theorem awt : (textT bobT).2 = 0 := by decide +kernel
theorem awp : parseT [98, 111, 98] (textT bobT).1 = (bobT, 0) := by decide +kernel
theorem awl : (textT bobT).1.length ≤ 2000 := by decide +kernel
end AL.Token
namespace AL.Token
open Go Go.Proofs AL
open AL.Policy (RuleV rowP slP checkP coversS capsP)
set_option linter.unusedVariables false
set_option linter.unusedSimpArgs false
theorem f14_body : Tryz.f14.body = some (.seq (.region 0 (rg Tryz.f14 0) false) (.seq (.region 1 (rg Tryz.f14 1) true) (.ret))) := by kernel_rfl
set_option maxRecDepth 100000 in
set_option maxHeartbeats 8000000 in
theorem Own_c (t : TokV) (hr : t.2.2.length ≤ 100000) : Pure Tryz.prog 14 [TV.agg [.s (st t.1), .s (st t.2.1), .s (AL.Policy.slP t.2.2)]] (AV.t (TV.agg [.s (st t.1), .s (st t.2.1), .s (AL.Policy.slP t.2.2)])) := by
 refine Pure.of_body Tryz.func14 f14_body (by kernel_rfl) Tryz.ntmps14 (by kernel_rfl) (by kernel_rfl) ?_
 refine gS [] [] 11 [(1, vp 1 0), (2, vp 2 0)] [(1, AObj.row [.s (st t.1), .s (st t.2.1), .s (AL.Policy.slP t.2.2)]), (2, AObj.row [.s (st []), .s (st []), .s (SC.nilsl)])] trivial ?_
 refine gY [(6, CE.call [] [] (vc (AL.Policy.slP t.2.2)) [])] [(1, [1]), (3, [1]), (5, [1]), (8, [2])] [Spec Tryz.prog 42 [tc (AL.Policy.slP t.2.2)] (ofH []) (vc (AL.Policy.slP t.2.2)) (ofH [])] 11 [(2, vp 2 0)] [(2, AObj.row [.s (st t.1), .s (st t.2.1), .s (AL.Policy.slP t.2.2)])] mixed (Policy.Own_c t.2.2 (by omega)) ?_
 exact gT (AV.t (TV.agg [.s (st t.1), .s (st t.2.1), .s (AL.Policy.slP t.2.2)])) rfl
theorem f8_body : Tryz.f8.body = some (.seq (.region 0 (rg Tryz.f8 0) false) (.seq (.seq (.region 1 (rg Tryz.f8 1) false) (.cond (.tmp 6) (.seq (.region 2 (rg Tryz.f8 2) false) (.ret)) (.skip))) (.seq (.seq (.region 3 (rg Tryz.f8 3) false) (.block 0 (.loop (.seq (.seq (.region 4 (rg Tryz.f8 4) false) (.cond (.tmp 10) (.skip) (.exit 0))) (.seq (.block 1 (.seq (.region 6 (rg Tryz.f8 6) false) (.cond (.tmp 37) (.seq (.region 7 (rg Tryz.f8 7) false) (.ret)) (.skip)))) (.region 5 (rg Tryz.f8 5) false)))))) (.seq (.region 8 (rg Tryz.f8 8) false) (.ret))))) := by kernel_rfl
set_option maxRecDepth 100000 in
set_option maxHeartbeats 8000000 in
theorem Over_c (l : List TokV) : Pure Tryz.prog 8 [tc (slT l)] (vc (i6 (overT l))) := by
 refine Pure.of_body Tryz.func8 f8_body (by kernel_rfl) Tryz.ntmps8 (by kernel_rfl) (by kernel_rfl) ?_
 refine AMx.sl 0 (l := l) rfl (fun hl => ?_)
 simp only [maxLen] at hl
 refine gS [] [] 38 [(0, vc (slT l))] [] trivial ?_
 refine gQ ?_
 refine gS [] [] 38 [(0, vc (slT l)), (6, vc (bo (decide (12 < (List.length l : Int)))))] [] trivial ?_
 refine gC (12 < (List.length l : Int)) (fun hc1 => ?_) fun hc1 => ?_
 ·
  refine gS [] [] 38 [(2, vc (i6 1))] [] trivial ?_
  exact gT (vc (i6 1)) (by first | rw [over_1 hc1] | rw [over_2 (k := i) (by omega) hc3])
 ·
  refine AMx.skip ?_
  refine gQ ?_
  refine gS [] [] 38 [(0, vc (slT l)), (3, vc (i6 0))] [] trivial ?_
  refine AMx.block ?_
  refine AMx.ent (s' := AS.lst 38 [(0, vc (slT l)), (3, vc (i6 0))] []) (ent_proj [0, 3] []) ?_
  refine AMx.loop (fun mm ss => ∃ (i : Nat), (i ≤ l.length ∧ SmallTo l i) ∧ mm = l.length - i ∧ ss = AS.lst 38 [(0, vc (slT l)), (3, vc (i6 (i : Int)))] []) ⟨0, ?_, rfl, ?_⟩ ?_
  · exact ⟨Nat.zero_le _, small_0 l⟩
  · rfl
  rintro mm ss ⟨i, ⟨hI, hN⟩, rfl, rfl⟩
  refine gQ ?_
  refine gS [] [] 38 [(0, vc (slT l)), (3, vc (i6 (i : Int))), (10, vc (bo (decide ((i : Int) < (List.length l : Int)))))] [] trivial ?_
  refine gC ((i : Int) < (List.length l : Int)) (fun hc2 => ?_) fun hc2 => ?_
  ·
   refine AMx.skip ?_
   refine gQ ?_
   refine AMx.block ?_
   refine gS [(22, CE.call [] [] (vc (i6 (Policy.overP ((List.getD l i tokd).2.2)))) [])] [(0 : Int) ≤ (i : Int), (i : Int) < List.length l, ((decide (40 < (List.length ((List.getD l i tokd).1 : List UInt8) : Int))) = false) → allP [(decide (40 < (List.length ((List.getD l i tokd).1 : List UInt8) : Int))) = false, (decide (40 < (List.length ((List.getD l i tokd).1 : List UInt8) : Int))) = false, (0 : Int) ≤ (i : Int), (i : Int) < List.length l], ((decide (40 < (List.length ((List.getD l i tokd).1 : List UInt8) : Int))) = false) → allP [(decide (40 < (List.length ((List.getD l i tokd).1 : List UInt8) : Int))) = false], ((decide (40 < (List.length ((List.getD l i tokd).1 : List UInt8) : Int))) = false) → allP [(decide (40 < (List.length ((List.getD l i tokd).1 : List UInt8) : Int))) = false], ((decide (40 < (List.length ((List.getD l i tokd).1 : List UInt8) : Int))) = false) → allP [(decide (40 < (List.length ((List.getD l i tokd).1 : List UInt8) : Int))) = false], ((decide (40 < (List.length ((List.getD l i tokd).1 : List UInt8) : Int))) = false) → allP [(decide (40 < (List.length ((List.getD l i tokd).1 : List UInt8) : Int))) = false], (decide (40 < (List.length ((List.getD l i tokd).1 : List UInt8) : Int))) = false → allP [(decide (40 < (List.length ((List.getD l i tokd).1 : List UInt8) : Int))) = false], (((decide (40 < (List.length ((List.getD l i tokd).1 : List UInt8) : Int))) || (decide (40 < (List.length ((List.getD l i tokd).2.1 : List UInt8) : Int)))) = false) → allP [((decide (40 < (List.length ((List.getD l i tokd).1 : List UInt8) : Int))) || (decide (40 < (List.length ((List.getD l i tokd).2.1 : List UInt8) : Int)))) = false, ((decide (40 < (List.length ((List.getD l i tokd).1 : List UInt8) : Int))) || (decide (40 < (List.length ((List.getD l i tokd).2.1 : List UInt8) : Int)))) = false, (0 : Int) ≤ (i : Int), (i : Int) < List.length l], (((decide (40 < (List.length ((List.getD l i tokd).1 : List UInt8) : Int))) || (decide (40 < (List.length ((List.getD l i tokd).2.1 : List UInt8) : Int)))) = false) → allP [((decide (40 < (List.length ((List.getD l i tokd).1 : List UInt8) : Int))) || (decide (40 < (List.length ((List.getD l i tokd).2.1 : List UInt8) : Int)))) = false], (((decide (40 < (List.length ((List.getD l i tokd).1 : List UInt8) : Int))) || (decide (40 < (List.length ((List.getD l i tokd).2.1 : List UInt8) : Int)))) = false) → allP [((decide (40 < (List.length ((List.getD l i tokd).1 : List UInt8) : Int))) || (decide (40 < (List.length ((List.getD l i tokd).2.1 : List UInt8) : Int)))) = false], (((decide (40 < (List.length ((List.getD l i tokd).1 : List UInt8) : Int))) || (decide (40 < (List.length ((List.getD l i tokd).2.1 : List UInt8) : Int)))) = false) → allP [((decide (40 < (List.length ((List.getD l i tokd).1 : List UInt8) : Int))) || (decide (40 < (List.length ((List.getD l i tokd).2.1 : List UInt8) : Int)))) = false, Spec Tryz.prog 38 [tc (AL.Policy.slP ((List.getD l i tokd).2.2))] (ofH []) (vc (i6 (Policy.overP ((List.getD l i tokd).2.2)))) (ofH [])], (((decide (40 < (List.length ((List.getD l i tokd).1 : List UInt8) : Int))) || (decide (40 < (List.length ((List.getD l i tokd).2.1 : List UInt8) : Int)))) = false) → allP [((decide (40 < (List.length ((List.getD l i tokd).1 : List UInt8) : Int))) || (decide (40 < (List.length ((List.getD l i tokd).2.1 : List UInt8) : Int)))) = false], ((decide (40 < (List.length ((List.getD l i tokd).1 : List UInt8) : Int))) || (decide (40 < (List.length ((List.getD l i tokd).2.1 : List UInt8) : Int)))) = false → allP [((decide (40 < (List.length ((List.getD l i tokd).1 : List UInt8) : Int))) || (decide (40 < (List.length ((List.getD l i tokd).2.1 : List UInt8) : Int)))) = false]] 38 [(0, vc (slT l)), (3, vc (i6 (i : Int))), (37, vc (bo (((decide (40 < (List.length ((List.getD l i tokd).1 : List UInt8) : Int))) || (decide (40 < (List.length ((List.getD l i tokd).2.1 : List UInt8) : Int)))) || (decide (0 < Policy.overP ((List.getD l i tokd).2.2))))))] [] ⟨(by omega), (by omega), (fun hp => by have hq := hp; (try simp only [xT, xF, xA, xO, xB, xP, xN, xM, Bool.not_eq_true, Bool.not_eq_false] at hq); exact ⟨hp, hp, (by omega), (show (i : Int) < List.length l from (by omega))⟩), (fun hp => hp), (fun hp => hp), (fun hp => hp), (fun hp => hp), (fun hp2 => (by first | exact hp2 | exact ⟨hp, hp2⟩)), (fun hp => by have hq := hp; (try simp only [xT, xF, xA, xO, xB, xP, xN, xM, Bool.not_eq_true, Bool.not_eq_false] at hq); exact ⟨hp, hp, (by omega), (show (i : Int) < List.length l from (by omega))⟩), (fun hp => hp), (fun hp => hp), (fun hp => by have hq := hp; (try simp only [xT, xF, xA, xO, xB, xP, xN, xM, Bool.not_eq_true, Bool.not_eq_false] at hq); exact ⟨hp, (Policy.Over_c ((List.getD l i tokd).2.2))⟩), (fun hp => hp), (fun hp2 => (by first | exact hp2 | exact ⟨hp, hp2⟩))⟩ ?_
   refine gB ((((decide (40 < (List.length ((List.getD l i tokd).1 : List UInt8) : Int))) || (decide (40 < (List.length ((List.getD l i tokd).2.1 : List UInt8) : Int)))) || (decide (0 < Policy.overP ((List.getD l i tokd).2.2))))) (fun hc3 => ?_) fun hc3 => ?_
   ·
    try simp only [xT, xF, xO, xP] at hc3
    refine gS [] [] 38 [(2, vc (i6 1))] [] trivial ?_
    exact gT (vc (i6 1)) (by first | rw [over_1 hc1] | rw [over_2 (k := i) (by omega) hc3])
   ·
    try simp only [xT, xF, xO, xP] at hc3
    refine AMx.skip ?_
    refine AMx.blk ?_
    refine gR [] [InR .i64 ((i : Int) + 1)] 38 [(0, vc (slT l)), (3, vc (i6 ((i : Int) + 1)))] [] (show InR .i64 ((i : Int) + 1) from (inR64 (by omega) (by omega))) ?_
    refine AMx.ent_inv (s' := AS.lst 38 [(0, vc (slT l)), (3, vc (i6 ((i : Int) + 1)))] []) (ent_proj [0, 3] []) ?_
    refine AMx.inv ⟨_, ?_, i + 1, ?_, rfl, ?_⟩
    rotate_left
    · exact ⟨by omega, small_step (by omega) hN hc3⟩
    · rfl
    · omega
  ·
   refine AMx.exit ?_
   refine AMx.code_exit ?_
   refine AMx.inv_exit ?_
   refine AMx.blk_exit ?_
   refine gS [] [] 38 [(2, vc (i6 0))] [] trivial ?_
   exact gT (vc (i6 0)) (by rw [over_0 hc1 (by omega) hN])
theorem f9_body : Tryz.f9.body = some (.seq (.region 0 (rg Tryz.f9 0) false) (.seq (.region 1 (rg Tryz.f9 1) false) (.seq (.seq (.region 2 (rg Tryz.f9 2) false) (.block 0 (.loop (.seq (.seq (.region 3 (rg Tryz.f9 3) false) (.cond (.tmp 8) (.skip) (.exit 0))) (.seq (.block 1 (.region 5 (rg Tryz.f9 5) false)) (.region 4 (rg Tryz.f9 4) false)))))) (.seq (.region 6 (rg Tryz.f9 6) false) (.ret))))) := by kernel_rfl
set_option maxRecDepth 100000 in
set_option maxHeartbeats 8000000 in
theorem tokens_c (l : List OpT) (hb : l.length * 64 ≤ 140737488351232) : Pure Tryz.prog 9 [tc (slO l)] (vc (slT (tokensO l))) := by
 refine Pure.of_body Tryz.func9 f9_body (by kernel_rfl) Tryz.ntmps9 (by kernel_rfl) (by kernel_rfl) ?_
 refine gS [] [] 20 [(0, vc (slO l))] [] trivial ?_
 refine gS [] [] 20 [(0, vc (slO l)), (3, vc (SC.nilsl))] [] trivial ?_
 refine gQ ?_
 refine gS [] [] 20 [(0, vc (slO l)), (3, vc (SC.nilsl)), (4, vc (i6 0))] [] trivial ?_
 refine AMx.block ?_
 refine AMx.ent (s' := AS.lst 20 [(0, vc (slO l)), (3, vo 3), (4, vc (i6 0))] [(3, AObj.grow 34 3 TokV tokd rowT [])]) (ent_adopt (t := 3) (d := 3) 34 3 TokV tokd rowT (by kernel_rfl) (by kernel_rfl) (by kernel_rfl) (by kernel_rfl)) ?_
 refine AMx.ent (s' := AS.lst 20 [(0, vc (slO l)), (3, vo 3), (4, vc (i6 0))] [(3, AObj.grow 34 3 TokV tokd rowT [])]) (ent_proj [0, 3, 4] [3]) ?_
 refine AMx.loop (fun mm ss => ∃ (k : Nat), (k ≤ l.length) ∧ mm = l.length - k ∧ ss = AS.lst 20 [(0, vc (slO l)), (3, vo 3), (4, vc (i6 (k : Int)))] [(3, AObj.grow 34 3 TokV tokd rowT (tokensO (List.take k l)))]) ⟨0, ?_, rfl, ?_⟩ ?_
 · omega
 · rfl
 rintro mm ss ⟨k, hI, rfl, rfl⟩
 refine gQ ?_
 refine gS [] [] 20 [(0, vc (slO l)), (3, vo 3), (4, vc (i6 (k : Int))), (8, vc (bo (decide ((k : Int) < (List.length l : Int)))))] [(3, AObj.grow 34 3 TokV tokd rowT (tokensO (List.take k l)))] trivial ?_
 refine gC ((k : Int) < (List.length l : Int)) (fun hc1 => ?_) fun hc1 => ?_
 ·
  refine AMx.skip ?_
  refine gQ ?_
  refine AMx.block ?_
  refine gR [(6, CE.obj (AObj.grow 34 3 TokV tokd rowT [((List.getD l k opd).2)])), (7, CE.obj (AObj.grow 34 3 TokV tokd rowT ((tokensO (List.take k l)) ++ [((List.getD l k opd).2)])))] [(0 : Int) ≤ (k : Int), (k : Int) < List.length l, flat 3 rowT [((List.getD l k opd).2)] = [.s (st (((List.getD l k opd).2).1)), .s (st (((List.getD l k opd).2).2.1)), .s (AL.Policy.slP (((List.getD l k opd).2).2.2))], List.length ([((List.getD l k opd).2)] : List TokV) = 1, AppC (flat 3 rowT [((List.getD l k opd).2)]) (List.length ([((List.getD l k opd).2)] : List TokV)) 56 (AObj.grow 34 3 TokV tokd rowT (tokensO (List.take k l))) (AObj.grow 34 3 TokV tokd rowT ((tokensO (List.take k l)) ++ [((List.getD l k opd).2)]))] 20 [(0, vc (slO l)), (3, vo 18), (4, vc (i6 (k : Int)))] [(18, AObj.grow 34 3 TokV tokd rowT ((tokensO (List.take k l)) ++ [((List.getD l k opd).2)]))] ⟨(by first | omega | (simp only [List.length_append, List.length_cons, List.length_nil, toks_len, List.length_take]; omega)), (by first | omega | (simp only [List.length_append, List.length_cons, List.length_nil, toks_len, List.length_take]; omega)), rfl, rfl, (⟨_, rfl, rfl, rfl, by simp only [List.length_append, List.length_cons, List.length_nil, toks_len, List.length_take]; omega, by simp only [maxLen, List.length_append, List.length_cons, List.length_nil, toks_len, List.length_take]; omega⟩)⟩ ?_
  refine AMx.blk ?_
  refine gR [] [InR .i64 ((k : Int) + 1)] 20 [(0, vc (slO l)), (3, vo 18), (4, vc (i6 ((k : Int) + 1)))] [(18, AObj.grow 34 3 TokV tokd rowT ((tokensO (List.take k l)) ++ [((List.getD l k opd).2)]))] (show InR .i64 ((k : Int) + 1) from (inR64 (by first | omega | (simp only [List.length_append, List.length_cons, List.length_nil, toks_len, List.length_take]; omega)) (by first | omega | (simp only [List.length_append, List.length_cons, List.length_nil, toks_len, List.length_take]; omega)))) ?_
  refine AMx.ent_inv (s' := AS.lst 20 [(0, vc (slO l)), (3, vo 3), (4, vc (i6 ((k : Int) + 1)))] [(3, AObj.grow 34 3 TokV tokd rowT ((tokensO (List.take k l)) ++ [((List.getD l k opd).2)]))]) (ent_swap 18 3 (by kernel_rfl) (by kernel_rfl)) ?_
  refine AMx.ent_inv (s' := AS.lst 20 [(0, vc (slO l)), (3, vo 3), (4, vc (i6 ((k : Int) + 1)))] [(3, AObj.grow 34 3 TokV tokd rowT ((tokensO (List.take k l)) ++ [((List.getD l k opd).2)]))]) (ent_proj [0, 3, 4] [3]) ?_
  refine AMx.inv ⟨_, ?_, k + 1, ?_, rfl, ?_⟩
  rotate_left
  · omega
  · rw [← toks_step l k (by omega)]; rfl
  · omega
 ·
  refine AMx.exit ?_
  refine AMx.code_exit ?_
  refine AMx.inv_exit ?_
  refine AMx.blk_exit ?_
  rw [show List.take k l = l from List.take_of_length_le (by omega)]
  refine gS [] [] 20 [(2, vo 3)] [(3, AObj.grow 34 3 TokV tokd rowT (tokensO l))] trivial ?_
  refine AMx.ent (s' := AS.lst 20 [(2, vc (slT (tokensO l)))] []) (ent_freeze (id := 3) (T := 34) (by kernel_rfl)) ?_
  exact gT (vc (slT (tokensO l))) rfl
theorem f10_body : Tryz.f10.body = some (.seq (.region 0 (rg Tryz.f10 0) false) (.seq (.region 1 (rg Tryz.f10 1) false) (.seq (.region 2 (rg Tryz.f10 2) false) (.seq (.region 3 (rg Tryz.f10 3) false) (.seq (.region 4 (rg Tryz.f10 4) false) (.seq (.region 5 (rg Tryz.f10 5) false) (.seq (.region 6 (rg Tryz.f10 6) false) (.seq (.region 7 (rg Tryz.f10 7) false) (.seq (.region 8 (rg Tryz.f10 8) false) (.seq (.region 9 (rg Tryz.f10 9) false) (.seq (.region 10 (rg Tryz.f10 10) false) (.ret)))))))))))) := by kernel_rfl
set_option maxRecDepth 100000 in
set_option maxHeartbeats 8000000 in
theorem awake_c  : Pure Tryz.prog 10 [] (vc (bo true)) := by
 refine Pure.of_body Tryz.func10 f10_body (by kernel_rfl) Tryz.ntmps10 (by kernel_rfl) (by kernel_rfl) ?_
 refine gS [] [] 135 [] [] trivial ?_
 refine gS [(0, CE.call [] [] (AV.t (TV.agg [.s (slT [firstT])])) [])] [Spec Tryz.prog 11 [] (ofH []) (AV.t (TV.agg [.s (slT [firstT])])) (ofH [])] 135 [(1, vp 1 0)] [(1, AObj.row [.s (slT [firstT])])] (New_c) ?_
 refine gS [(2, CE.shr (some (AObj.grow 80 2 AL.Policy.RuleV ([], 0) AL.Policy.rowP [(([97], 1) : AL.Policy.RuleV)]))), (4, CE.call [] [] (AV.tup [TV.agg [.s (slT ((makeT [firstT] (([98, 111, 98], [114, 111, 111, 116], [(([97], 1) : AL.Policy.RuleV)]) : TokV)).1))], tc (i6 ((makeT [firstT] (([98, 111, 98], [114, 111, 111, 116], [(([97], 1) : AL.Policy.RuleV)]) : TokV)).2))]) [])] [flat 2 AL.Policy.rowP [(([97], 1) : AL.Policy.RuleV)] = [.s (st [97]), .s (u8 1)], List.length ([(([97], 1) : AL.Policy.RuleV)] : List AL.Policy.RuleV) = 1, Spec Tryz.prog 20 [TV.agg [.s (slT [firstT])], TV.agg [.s (st [98, 111, 98]), .s (st [114, 111, 111, 116]), .s (AL.Policy.slP [(([97], 1) : AL.Policy.RuleV)])]] (ofH []) (AV.tup [TV.agg [.s (slT ((makeT [firstT] (([98, 111, 98], [114, 111, 111, 116], [(([97], 1) : AL.Policy.RuleV)]) : TokV)).1))], tc (i6 ((makeT [firstT] (([98, 111, 98], [114, 111, 111, 116], [(([97], 1) : AL.Policy.RuleV)]) : TokV)).2))]) (ofH [])] 135 [(1, vp 1 0), (2, vp 2 0), (3, vc (i6 ((makeT [firstT] (([98, 111, 98], [114, 111, 111, 116], [(([97], 1) : AL.Policy.RuleV)]) : TokV)).2)))] [(1, AObj.row [.s (slT [firstT])]), (2, AObj.row [.s (slT ((makeT [firstT] (([98, 111, 98], [114, 111, 111, 116], [(([97], 1) : AL.Policy.RuleV)]) : TokV)).1))])] ⟨rfl, rfl, (Make_c [firstT] (([98, 111, 98], [114, 111, 111, 116], [(([97], 1) : AL.Policy.RuleV)]) : TokV) (by first | exact new_sort | exact aws1 | exact aws2) (by first | omega | decide +kernel | exact awl | exact wf_rules aww2 | exact wf_rules new_wf))⟩ ?_
 rw [show (makeT [firstT] (([98, 111, 98], [114, 111, 111, 116], [(([97], 1) : AL.Policy.RuleV)]) : TokV)).1 = awA from congrArg Prod.fst awm1]
 rw [show (makeT [firstT] (([98, 111, 98], [114, 111, 111, 116], [(([97], 1) : AL.Policy.RuleV)]) : TokV)).2 = 0 from congrArg Prod.snd awm1]
 refine gS [(2, CE.call [] [] (AV.tup [TV.agg [.s (slT ((makeT awA (([101, 118, 101], [98, 111, 98], []) : TokV)).1))], tc (i6 ((makeT awA (([101, 118, 101], [98, 111, 98], []) : TokV)).2))]) [])] [Spec Tryz.prog 20 [TV.agg [.s (slT awA)], TV.agg [.s (st [101, 118, 101]), .s (st [98, 111, 98]), .s (SC.nilsl)]] (ofH []) (AV.tup [TV.agg [.s (slT ((makeT awA (([101, 118, 101], [98, 111, 98], []) : TokV)).1))], tc (i6 ((makeT awA (([101, 118, 101], [98, 111, 98], []) : TokV)).2))]) (ofH [])] 135 [(1, vp 1 0), (3, vc (i6 0)), (4, vp 4 0), (5, vc (i6 ((makeT awA (([101, 118, 101], [98, 111, 98], []) : TokV)).2)))] [(1, AObj.row [.s (slT [firstT])]), (4, AObj.row [.s (slT ((makeT awA (([101, 118, 101], [98, 111, 98], []) : TokV)).1))])] (Spec.weak (args' := [TV.agg [.s (slT awA)], TV.agg [.s (st [101, 118, 101]), .s (st [98, 111, 98]), .s (AL.Policy.slP [])]]) ⟨TV.le_rfl, (TV.le_agg (l := [.s (st [101, 118, 101]), .s (st [98, 111, 98]), .s (SC.nilsl)]) (m := [.s (st ((([101, 118, 101], [98, 111, 98], []) : TokV).1)), .s (st ((([101, 118, 101], [98, 111, 98], []) : TokV).2.1)), .s (AL.Policy.slP ((([101, 118, 101], [98, 111, 98], []) : TokV).2.2))]) ⟨AC.le_rfl, AC.le_rfl, AC.le_nil, trivial⟩), trivial⟩ (Make_c awA (([101, 118, 101], [98, 111, 98], []) : TokV) (by first | exact new_sort | exact aws1 | exact aws2) (by first | omega | decide +kernel | exact awl | exact wf_rules aww2 | exact wf_rules new_wf))) ?_
 rw [show (makeT awA (([101, 118, 101], [98, 111, 98], []) : TokV)).1 = awB from congrArg Prod.fst awm2]
 rw [show (makeT awA (([101, 118, 101], [98, 111, 98], []) : TokV)).2 = 0 from congrArg Prod.snd awm2]
 refine gS [(2, CE.shr (some (AObj.grow 80 2 AL.Policy.RuleV ([], 0) AL.Policy.rowP [(([], 1) : AL.Policy.RuleV)]))), (4, CE.call [] [] (AV.tup [TV.agg [.s (slT ((makeT awB (([109, 97, 120], [98, 111, 98], [(([], 1) : AL.Policy.RuleV)]) : TokV)).1))], tc (i6 ((makeT awB (([109, 97, 120], [98, 111, 98], [(([], 1) : AL.Policy.RuleV)]) : TokV)).2))]) [])] [flat 2 AL.Policy.rowP [(([], 1) : AL.Policy.RuleV)] = [.s (st []), .s (u8 1)], List.length ([(([], 1) : AL.Policy.RuleV)] : List AL.Policy.RuleV) = 1, Spec Tryz.prog 20 [TV.agg [.s (slT awB)], TV.agg [.s (st [109, 97, 120]), .s (st [98, 111, 98]), .s (AL.Policy.slP [(([], 1) : AL.Policy.RuleV)])]] (ofH []) (AV.tup [TV.agg [.s (slT ((makeT awB (([109, 97, 120], [98, 111, 98], [(([], 1) : AL.Policy.RuleV)]) : TokV)).1))], tc (i6 ((makeT awB (([109, 97, 120], [98, 111, 98], [(([], 1) : AL.Policy.RuleV)]) : TokV)).2))]) (ofH [])] 135 [(1, vp 1 0), (3, vc (i6 0)), (4, vp 4 0), (5, vc (i6 0)), (7, vc (i6 ((makeT awB (([109, 97, 120], [98, 111, 98], [(([], 1) : AL.Policy.RuleV)]) : TokV)).2)))] [(1, AObj.row [.s (slT [firstT])]), (4, AObj.row [.s (slT awB)])] ⟨rfl, rfl, (Make_c awB (([109, 97, 120], [98, 111, 98], [(([], 1) : AL.Policy.RuleV)]) : TokV) (by first | exact new_sort | exact aws1 | exact aws2) (by first | omega | decide +kernel | exact awl | exact wf_rules aww2 | exact wf_rules new_wf))⟩ ?_
 rw [show (makeT awB (([109, 97, 120], [98, 111, 98], [(([], 1) : AL.Policy.RuleV)]) : TokV)).2 = 13 from awm3]
 refine gS [(1, CE.call [] [] (AV.tup [TV.agg [.s (slT ((revokeT awB [98, 111, 98]).1))], tc (AL.Fnv.slS ((revokeT awB [98, 111, 98]).2.1)), tc (i6 ((revokeT awB [98, 111, 98]).2.2))]) [])] [Spec Tryz.prog 16 [TV.agg [.s (slT awB)], tc (st [98, 111, 98])] (ofH []) (AV.tup [TV.agg [.s (slT ((revokeT awB [98, 111, 98]).1))], tc (AL.Fnv.slS ((revokeT awB [98, 111, 98]).2.1)), tc (i6 ((revokeT awB [98, 111, 98]).2.2))]) (ofH [])] 135 [(1, vp 1 0), (3, vc (i6 0)), (4, vp 4 0), (5, vc (i6 0)), (7, vc (i6 13)), (8, vp 8 0), (9, vc (AL.Fnv.slS ((revokeT awB [98, 111, 98]).2.1))), (10, vc (i6 ((revokeT awB [98, 111, 98]).2.2)))] [(1, AObj.row [.s (slT [firstT])]), (4, AObj.row [.s (slT awB)]), (8, AObj.row [.s (slT ((revokeT awB [98, 111, 98]).1))])] (Revoke_c awB [98, 111, 98] (by exact aww2) (by first | exact new_sort | exact aws1 | exact aws2) (by first | omega | decide +kernel | exact awl | exact wf_rules aww2 | exact wf_rules new_wf)) ?_
 rw [show (revokeT awB [98, 111, 98]).1 = [firstT] from congrArg Prod.fst awr]
 rw [show (revokeT awB [98, 111, 98]).2.1 = [[98, 111, 98], [101, 118, 101]] from congrArg (fun z => z.2.1) awr]
 rw [show (revokeT awB [98, 111, 98]).2.2 = 0 from congrArg (fun z => z.2.2) awr]
 refine gS [(1, CE.call [] [] (AV.tup [TV.agg [.s (st (((findR [firstT] [98, 111, 98]).1).1)), .s (st (((findR [firstT] [98, 111, 98]).1).2.1)), .s (AL.Policy.slP (((findR [firstT] [98, 111, 98]).1).2.2))], tc (bo ((findR [firstT] [98, 111, 98]).2))]) [])] [Spec Tryz.prog 27 [TV.agg [.s (slT [firstT])], tc (st [98, 111, 98])] (ofH []) (AV.tup [TV.agg [.s (st (((findR [firstT] [98, 111, 98]).1).1)), .s (st (((findR [firstT] [98, 111, 98]).1).2.1)), .s (AL.Policy.slP (((findR [firstT] [98, 111, 98]).1).2.2))], tc (bo ((findR [firstT] [98, 111, 98]).2))]) (ofH [])] 135 [(1, vp 1 0), (3, vc (i6 0)), (4, vp 4 0), (5, vc (i6 0)), (7, vc (i6 13)), (8, vp 8 0), (9, vc (AL.Fnv.slS [[98, 111, 98], [101, 118, 101]])), (10, vc (i6 0)), (12, vc (bo ((findR [firstT] [98, 111, 98]).2)))] [(1, AObj.row [.s (slT [firstT])]), (4, AObj.row [.s (slT awB)]), (8, AObj.row [.s (slT [firstT])])] (Find_c [firstT] [98, 111, 98] (by first | exact new_sort | exact aws1 | exact aws2) (by first | omega | decide +kernel | exact awl | exact wf_rules aww2 | exact wf_rules new_wf) (by first | exact wf_rules aww2 | exact wf_rules new_wf)) ?_
 rw [show (findR [firstT] [98, 111, 98]).2 = false from awf1]
 refine gS [(1, CE.call [] [] (AV.tup [TV.agg [.s (st (((findR awB [98, 111, 98]).1).1)), .s (st (((findR awB [98, 111, 98]).1).2.1)), .s (AL.Policy.slP (((findR awB [98, 111, 98]).1).2.2))], tc (bo ((findR awB [98, 111, 98]).2))]) [])] [Spec Tryz.prog 27 [TV.agg [.s (slT awB)], tc (st [98, 111, 98])] (ofH []) (AV.tup [TV.agg [.s (st (((findR awB [98, 111, 98]).1).1)), .s (st (((findR awB [98, 111, 98]).1).2.1)), .s (AL.Policy.slP (((findR awB [98, 111, 98]).1).2.2))], tc (bo ((findR awB [98, 111, 98]).2))]) (ofH [])] 135 [(1, vp 1 0), (3, vc (i6 0)), (4, vp 4 0), (5, vc (i6 0)), (7, vc (i6 13)), (8, vp 8 0), (9, vc (AL.Fnv.slS [[98, 111, 98], [101, 118, 101]])), (10, vc (i6 0)), (12, vc (bo false)), (13, vp 13 0), (14, vc (bo ((findR awB [98, 111, 98]).2)))] [(1, AObj.row [.s (slT [firstT])]), (4, AObj.row [.s (slT awB)]), (8, AObj.row [.s (slT [firstT])]), (13, AObj.row [.s (st (((findR awB [98, 111, 98]).1).1)), .s (st (((findR awB [98, 111, 98]).1).2.1)), .s (AL.Policy.slP (((findR awB [98, 111, 98]).1).2.2))])] (Find_c awB [98, 111, 98] (by first | exact new_sort | exact aws1 | exact aws2) (by first | omega | decide +kernel | exact awl | exact wf_rules aww2 | exact wf_rules new_wf) (by first | exact wf_rules aww2 | exact wf_rules new_wf)) ?_
 rw [show (findR awB [98, 111, 98]).1 = bobT from congrArg Prod.fst awf2]
 rw [show (findR awB [98, 111, 98]).2 = true from congrArg Prod.snd awf2]
 refine gS [(1, CE.call [] [] (AV.tup [tc (st ((textT bobT).1)), tc (i6 ((textT bobT).2))]) [])] [Spec Tryz.prog 30 [TV.agg [.s (st bobT.1), .s (st bobT.2.1), .s (AL.Policy.slP bobT.2.2)]] (ofH []) (AV.tup [tc (st ((textT bobT).1)), tc (i6 ((textT bobT).2))]) (ofH [])] 135 [(1, vp 1 0), (3, vc (i6 0)), (4, vp 4 0), (5, vc (i6 0)), (7, vc (i6 13)), (8, vp 8 0), (9, vc (AL.Fnv.slS [[98, 111, 98], [101, 118, 101]])), (10, vc (i6 0)), (12, vc (bo false)), (14, vc (bo true)), (15, vc (st ((textT bobT).1))), (16, vc (i6 ((textT bobT).2)))] [(1, AObj.row [.s (slT [firstT])]), (4, AObj.row [.s (slT awB)]), (8, AObj.row [.s (slT [firstT])])] (Text_c bobT) ?_
 rw [show (textT bobT).2 = 0 from awt]
 refine gS [(1, CE.call [] [] (AV.tup [TV.agg [.s (st (((parseT [98, 111, 98] ((textT bobT).1)).1).1)), .s (st (((parseT [98, 111, 98] ((textT bobT).1)).1).2.1)), .s (AL.Policy.slP (((parseT [98, 111, 98] ((textT bobT).1)).1).2.2))], tc (i6 ((parseT [98, 111, 98] ((textT bobT).1)).2))]) [])] [Spec Tryz.prog 32 [tc (st [98, 111, 98]), tc (st ((textT bobT).1))] (ofH []) (AV.tup [TV.agg [.s (st (((parseT [98, 111, 98] ((textT bobT).1)).1).1)), .s (st (((parseT [98, 111, 98] ((textT bobT).1)).1).2.1)), .s (AL.Policy.slP (((parseT [98, 111, 98] ((textT bobT).1)).1).2.2))], tc (i6 ((parseT [98, 111, 98] ((textT bobT).1)).2))]) (ofH [])] 135 [(1, vp 1 0), (3, vc (i6 0)), (4, vp 4 0), (5, vc (i6 0)), (7, vc (i6 13)), (8, vp 8 0), (9, vc (AL.Fnv.slS [[98, 111, 98], [101, 118, 101]])), (10, vc (i6 0)), (12, vc (bo false)), (14, vc (bo true)), (16, vc (i6 0)), (17, vp 17 0), (18, vc (i6 ((parseT [98, 111, 98] ((textT bobT).1)).2)))] [(1, AObj.row [.s (slT [firstT])]), (4, AObj.row [.s (slT awB)]), (8, AObj.row [.s (slT [firstT])]), (17, AObj.row [.s (st (((parseT [98, 111, 98] ((textT bobT).1)).1).1)), .s (st (((parseT [98, 111, 98] ((textT bobT).1)).1).2.1)), .s (AL.Policy.slP (((parseT [98, 111, 98] ((textT bobT).1)).1).2.2))])] (Parse_c [98, 111, 98] ((textT bobT).1) (by first | omega | decide +kernel | exact awl | exact wf_rules aww2 | exact wf_rules new_wf)) ?_
 rw [show (parseT [98, 111, 98] ((textT bobT).1)).1 = bobT from congrArg Prod.fst awp]
 rw [show (parseT [98, 111, 98] ((textT bobT).1)).2 = 0 from congrArg Prod.snd awp]
 refine gS [(28, CE.call [] [] (vc (bo (decide ([firstT] = [firstT])))) []), (52, CE.call [] [] (vc (u8 (capsR awB [98, 111, 98] [97, 47, 120]))) []), (57, CE.call [] [] (vc (u8 (capsR awB [109, 97, 120] [97]))) []), (64, CE.call [] [] (vc (i6 (checkT (([], [], []) : TokV)))) [])] [(true = true) → allP [true = true], true = true → allP [true = true], (true = true) → allP [true = true], true = true → allP [true = true], (true = true) → allP [true = true], true = true → allP [true = true], (true = true) → allP [true = true], (true = true) → allP [true = true], true = true → allP [true = true], (true = true) → allP [true = true, (0 : Int) ≤ 0, (0 : Int) < List.length ([[98, 111, 98], [101, 118, 101]] : List Bytes)], (true = true) → allP [true = true], (true = true) → allP [true = true], true = true → allP [true = true], (true = true) → allP [true = true, true = true, Spec Tryz.prog 19 [TV.agg [.s (slT [firstT])], TV.agg [.s (slT [firstT])]] (ofH []) (vc (bo (decide ([firstT] = [firstT])))) (ofH [])], true = true → allP [true = true], (true = true) → allP [true = true], true = true → allP [true = true], true = true → allP [true = true], (true = true) → allP [true = true], true = true → allP [true = true], (true = true) → allP [true = true], true = true → allP [true = true], (true = true) → allP [true = true], (true = true) → allP [true = true], true = true → allP [true = true], (true = true) → allP [true = true, Spec Tryz.prog 23 [TV.agg [.s (slT awB)], tc (st [98, 111, 98]), tc (st [97, 47, 120])] (ofH []) (vc (u8 (capsR awB [98, 111, 98] [97, 47, 120]))) (ofH [])], (true = true) → allP [true = true], true = true → allP [true = true], (true = true) → allP [true = true, Spec Tryz.prog 23 [TV.agg [.s (slT awB)], tc (st [109, 97, 120]), tc (st [97])] (ofH []) (vc (u8 (capsR awB [109, 97, 120] [97]))) (ofH [])], (true = true) → allP [true = true], true = true → allP [true = true], (true = true) → allP [true = true, Spec Tryz.prog 13 [TV.agg [.s (st []), .s (st []), .s (SC.nilsl)]] (ofH []) (vc (i6 (checkT (([], [], []) : TokV)))) (ofH [])], (true = true) → allP [true = true], true = true → allP [true = true]] 135 [(0, vc (bo true))] [] ⟨(fun hp => hp), (fun hp2 => (by first | exact hp2 | exact ⟨hp, hp2⟩)), (fun hp => hp), (fun hp2 => (by first | exact hp2 | exact ⟨hp, hp2⟩)), (fun hp => hp), (fun hp2 => (by first | exact hp2 | exact ⟨hp, hp2⟩)), (fun hp => hp), (fun hp => hp), (fun hp2 => (by first | exact hp2 | exact ⟨hp, hp2⟩)), (fun hp => by have hq := hp; (try simp only [xT, xF, xA, xO, xB, xP, xN, xM, Bool.not_eq_true, Bool.not_eq_false] at hq); exact ⟨hp, (by first | omega | decide +kernel | exact awl | exact wf_rules aww2 | exact wf_rules new_wf), (show (0 : Int) < List.length ([[98, 111, 98], [101, 118, 101]] : List Bytes) from (by first | omega | decide +kernel | exact awl | exact wf_rules aww2 | exact wf_rules new_wf))⟩), (fun hp => hp), (fun hp => hp), (fun hp2 => (by first | exact hp2 | exact ⟨hp, hp2⟩)), (fun hp => by have hq := hp; (try simp only [xT, xF, xA, xO, xB, xP, xN, xM, Bool.not_eq_true, Bool.not_eq_false] at hq); exact ⟨hp, hp, (Same_c [firstT] [firstT])⟩), (fun hp2 => (by first | exact hp2 | exact ⟨hp, hp2⟩)), (fun hp => hp), (fun hp2 => (by first | exact hp2 | exact ⟨hp, hp2⟩)), (fun hp2 => (by first | exact hp2 | exact ⟨hp, hp2⟩)), (fun hp => hp), (fun hp2 => (by first | exact hp2 | exact ⟨hp, hp2⟩)), (fun hp => hp), (fun hp2 => (by first | exact hp2 | exact ⟨hp, hp2⟩)), (fun hp => hp), (fun hp => hp), (fun hp2 => (by first | exact hp2 | exact ⟨hp, hp2⟩)), (fun hp => by have hq := hp; (try simp only [xT, xF, xA, xO, xB, xP, xN, xM, Bool.not_eq_true, Bool.not_eq_false] at hq); exact ⟨hp, (Caps_c awB [98, 111, 98] [97, 47, 120] (by first | exact new_sort | exact aws1 | exact aws2) (by first | omega | decide +kernel | exact awl | exact wf_rules aww2 | exact wf_rules new_wf) (by first | exact wf_rules aww2 | exact wf_rules new_wf))⟩), (fun hp => hp), (fun hp2 => (by first | exact hp2 | exact ⟨hp, hp2⟩)), (fun hp => by have hq := hp; (try simp only [xT, xF, xA, xO, xB, xP, xN, xM, Bool.not_eq_true, Bool.not_eq_false] at hq); exact ⟨hp, (Caps_c awB [109, 97, 120] [97] (by first | exact new_sort | exact aws1 | exact aws2) (by first | omega | decide +kernel | exact awl | exact wf_rules aww2 | exact wf_rules new_wf) (by first | exact wf_rules aww2 | exact wf_rules new_wf))⟩), (fun hp => hp), (fun hp2 => (by first | exact hp2 | exact ⟨hp, hp2⟩)), (fun hp => by have hq := hp; (try simp only [xT, xF, xA, xO, xB, xP, xN, xM, Bool.not_eq_true, Bool.not_eq_false] at hq); exact ⟨hp, (Spec.weak (args' := [TV.agg [.s (st []), .s (st []), .s (AL.Policy.slP [])]]) ⟨(TV.le_agg (l := [.s (st []), .s (st []), .s (SC.nilsl)]) (m := [.s (st ((([], [], []) : TokV).1)), .s (st ((([], [], []) : TokV).2.1)), .s (AL.Policy.slP ((([], [], []) : TokV).2.2))]) ⟨AC.le_rfl, AC.le_rfl, AC.le_nil, trivial⟩), trivial⟩ (Check_c (([], [], []) : TokV)))⟩), (fun hp => hp), (fun hp2 => (by first | exact hp2 | exact ⟨hp, hp2⟩))⟩ ?_
 exact gT (vc (bo true)) rfl
end AL.Token
namespace AL.Token
open Go Go.Proofs AL
open AL.Policy (RuleV rowP slP checkP coversS capsP)
set_option linter.unusedVariables false
set_option linter.unusedSimpArgs false
theorem f25_body : Tryz.f25.body = some (.seq (.region 0 (rg Tryz.f25 0) false) (.seq (.region 1 (rg Tryz.f25 1) false) (.seq (.seq (.region 2 (rg Tryz.f25 2) false) (.block 0 (.loop (.seq (.seq (.region 3 (rg Tryz.f25 3) false) (.cond (.tmp 9) (.skip) (.exit 0))) (.seq (.block 1 (.seq (.region 5 (rg Tryz.f25 5) false) (.cond (.tmp 16) (.region 6 (rg Tryz.f25 6) true) (.region 7 (rg Tryz.f25 7) true)))) (.region 4 (rg Tryz.f25 4) false)))))) (.seq (.region 8 (rg Tryz.f25 8) false) (.ret))))) := by kernel_rfl
set_option maxRecDepth 100000 in
set_option maxHeartbeats 8000000 in
theorem made_c (l : List OpT) (hov : ¬ 0 < overT (tokensO l)) : Pure Tryz.prog 25 [tc (slO l)] (AV.t (TV.agg [.s (slT (madeT l))])) := by
 refine Pure.of_body Tryz.func25 f25_body (by kernel_rfl) Tryz.ntmps25 (by kernel_rfl) (by kernel_rfl) ?_
 refine gS [] [] 41 [(0, vc (slO l)), (2, vp 2 0)] [(2, AObj.row [.s (SC.nilsl)])] trivial ?_
 refine gS [(0, CE.call [] [] (AV.t (TV.agg [.s (slT [firstT])])) [])] [Spec Tryz.prog 11 [] (ofH []) (AV.t (TV.agg [.s (slT [firstT])])) (ofH [])] 41 [(0, vc (slO l)), (2, vp 2 0), (3, vp 3 0)] [(2, AObj.row [.s (SC.nilsl)]), (3, AObj.row [.s (slT [firstT])])] (New_c) ?_
 refine gQ ?_
 refine gS [] [] 41 [(0, vc (slO l)), (2, vp 2 0), (3, vp 3 0), (4, vc (i6 0))] [(2, AObj.row [.s (SC.nilsl)]), (3, AObj.row [.s (slT [firstT])])] trivial ?_
 refine AMx.block ?_
 refine AMx.ent (s' := AS.lst 41 [(0, vc (slO l)), (2, vp 2 0), (3, vp 3 0), (4, vc (i6 0))] [(2, AObj.row [.s (SC.nilsl)]), (3, AObj.row [.s (slT [firstT])])]) (ent_proj [0, 2, 3, 4] [2, 3]) ?_
 refine AMx.loop (fun mm ss => ∃ (k : Nat), (k ≤ l.length) ∧ mm = l.length - k ∧ ss = AS.lst 41 [(0, vc (slO l)), (2, vp 2 0), (3, vp 3 0), (4, vc (i6 (k : Int)))] [(2, AObj.row [.s (SC.nilsl)]), (3, AObj.row [.s (slT (madeT (List.take k l)))])]) ⟨0, ?_, rfl, ?_⟩ ?_
 · omega
 · rfl
 rintro mm ss ⟨k, hI, rfl, rfl⟩
 have hQ := over_tok hov
 have hG := made_good l k hI
 have hF := hG.few
 have hX := fun h : k < l.length => hQ.2 _ (Lib.getD_mem opd l k h)
 refine gQ ?_
 refine gS [] [] 41 [(0, vc (slO l)), (2, vp 2 0), (3, vp 3 0), (4, vc (i6 (k : Int))), (9, vc (bo (decide ((k : Int) < (List.length l : Int)))))] [(2, AObj.row [.s (SC.nilsl)]), (3, AObj.row [.s (slT (madeT (List.take k l)))])] trivial ?_
 refine gC ((k : Int) < (List.length l : Int)) (fun hc1 => ?_) fun hc1 => ?_
 ·
  refine AMx.skip ?_
  refine gQ ?_
  refine AMx.block ?_
  refine gS [] [(0 : Int) ≤ (k : Int), (k : Int) < List.length l] 41 [(0, vc (slO l)), (2, vp 2 0), (3, vp 3 0), (4, vc (i6 (k : Int))), (16, vc (bo ((List.getD l k opd).1)))] [(2, AObj.row [.s (SC.nilsl)]), (3, AObj.row [.s (slT (madeT (List.take k l)))])] ⟨(by first | omega | (have z := hX (by omega); omega)), (show (k : Int) < List.length l from (by first | omega | (have z := hX (by omega); omega)))⟩ ?_
  refine gB ((List.getD l k opd).1) (fun hc2 => ?_) fun hc2 => ?_
  ·
   try simp only [xT, xF] at hc2
   refine gX [(7, CE.call [] [] (AV.tup [TV.agg [.s (slT ((revokeT (madeT (List.take k l)) (((List.getD l k opd).2).1)).1))], tc (AL.Fnv.slS ((revokeT (madeT (List.take k l)) (((List.getD l k opd).2).1)).2.1)), tc (i6 ((revokeT (madeT (List.take k l)) (((List.getD l k opd).2).1)).2.2))]) [])] [(0, [3]), (12, [3])] [(0 : Int) ≤ (k : Int), (k : Int) < List.length l, Spec Tryz.prog 16 [TV.agg [.s (slT (madeT (List.take k l)))], tc (st (((List.getD l k opd).2).1))] (ofH []) (AV.tup [TV.agg [.s (slT ((revokeT (madeT (List.take k l)) (((List.getD l k opd).2).1)).1))], tc (AL.Fnv.slS ((revokeT (madeT (List.take k l)) (((List.getD l k opd).2).1)).2.1)), tc (i6 ((revokeT (madeT (List.take k l)) (((List.getD l k opd).2).1)).2.2))]) (ofH [])] 41 [(0, vc (slO l)), (2, vp 2 0), (3, vp 3 0), (4, vc (i6 (k : Int)))] [(2, AObj.row [.s (SC.nilsl)]), (3, AObj.row [.s (slT ((revokeT (madeT (List.take k l)) (((List.getD l k opd).2).1)).1))])] mixed ⟨(by first | omega | (have z := hX (by omega); omega)), (by first | omega | (have z := hX (by omega); omega)), (Revoke_c (madeT (List.take k l)) (((List.getD l k opd).2).1) (by exact hG.wf) (by exact hG.rise) (by first | omega | (have z := hX (by omega); omega)))⟩ ?_
   refine AMx.blk ?_
   refine gR [] [InR .i64 ((k : Int) + 1)] 41 [(0, vc (slO l)), (2, vp 2 0), (3, vp 3 0), (4, vc (i6 ((k : Int) + 1)))] [(2, AObj.row [.s (SC.nilsl)]), (3, AObj.row [.s (slT ((revokeT (madeT (List.take k l)) (((List.getD l k opd).2).1)).1))])] (show InR .i64 ((k : Int) + 1) from (inR64 (by first | omega | (have z := hX (by omega); omega)) (by first | omega | (have z := hX (by omega); omega)))) ?_
   refine AMx.ent_inv (s' := AS.lst 41 [(0, vc (slO l)), (2, vp 2 0), (3, vp 3 0), (4, vc (i6 ((k : Int) + 1)))] [(2, AObj.row [.s (SC.nilsl)]), (3, AObj.row [.s (slT ((revokeT (madeT (List.take k l)) (((List.getD l k opd).2).1)).1))])]) (ent_proj [0, 2, 3, 4] [2, 3]) ?_
   refine AMx.inv ⟨_, ?_, k + 1, ?_, rfl, ?_⟩
   rotate_left
   · omega
   · rw [made_y (by omega) hc2]; rfl
   · omega
  ·
   try simp only [xT, xF] at hc2
   refine gX [(6, CE.call [] [] (AV.t (TV.agg [.s (st (((List.getD l k opd).2).1)), .s (st (((List.getD l k opd).2).2.1)), .s (AL.Policy.slP (((List.getD l k opd).2).2.2))])) []), (7, CE.call [] [] (AV.tup [TV.agg [.s (slT ((makeT (madeT (List.take k l)) ((List.getD l k opd).2)).1))], tc (i6 ((makeT (madeT (List.take k l)) ((List.getD l k opd).2)).2))]) [])] [(0, [3]), (11, [3])] [(0 : Int) ≤ (k : Int), (k : Int) < List.length l, Spec Tryz.prog 14 [TV.agg [.s (st (((List.getD l k opd).2).1)), .s (st (((List.getD l k opd).2).2.1)), .s (AL.Policy.slP (((List.getD l k opd).2).2.2))]] (ofH []) (AV.t (TV.agg [.s (st (((List.getD l k opd).2).1)), .s (st (((List.getD l k opd).2).2.1)), .s (AL.Policy.slP (((List.getD l k opd).2).2.2))])) (ofH []), Spec Tryz.prog 20 [TV.agg [.s (slT (madeT (List.take k l)))], TV.agg [.s (st (((List.getD l k opd).2).1)), .s (st (((List.getD l k opd).2).2.1)), .s (AL.Policy.slP (((List.getD l k opd).2).2.2))]] (ofH []) (AV.tup [TV.agg [.s (slT ((makeT (madeT (List.take k l)) ((List.getD l k opd).2)).1))], tc (i6 ((makeT (madeT (List.take k l)) ((List.getD l k opd).2)).2))]) (ofH [])] 41 [(0, vc (slO l)), (2, vp 2 0), (3, vp 3 0), (4, vc (i6 (k : Int)))] [(2, AObj.row [.s (SC.nilsl)]), (3, AObj.row [.s (slT ((makeT (madeT (List.take k l)) ((List.getD l k opd).2)).1))])] mixed ⟨(by first | omega | (have z := hX (by omega); omega)), (by first | omega | (have z := hX (by omega); omega)), (Own_c ((List.getD l k opd).2) (by first | omega | (have z := hX (by omega); omega))), (Make_c (madeT (List.take k l)) ((List.getD l k opd).2) (by exact hG.rise) (by first | omega | (have z := hX (by omega); omega)))⟩ ?_
   refine AMx.blk ?_
   refine gR [] [InR .i64 ((k : Int) + 1)] 41 [(0, vc (slO l)), (2, vp 2 0), (3, vp 3 0), (4, vc (i6 ((k : Int) + 1)))] [(2, AObj.row [.s (SC.nilsl)]), (3, AObj.row [.s (slT ((makeT (madeT (List.take k l)) ((List.getD l k opd).2)).1))])] (show InR .i64 ((k : Int) + 1) from (inR64 (by first | omega | (have z := hX (by omega); omega)) (by first | omega | (have z := hX (by omega); omega)))) ?_
   refine AMx.ent_inv (s' := AS.lst 41 [(0, vc (slO l)), (2, vp 2 0), (3, vp 3 0), (4, vc (i6 ((k : Int) + 1)))] [(2, AObj.row [.s (SC.nilsl)]), (3, AObj.row [.s (slT ((makeT (madeT (List.take k l)) ((List.getD l k opd).2)).1))])]) (ent_proj [0, 2, 3, 4] [2, 3]) ?_
   refine AMx.inv ⟨_, ?_, k + 1, ?_, rfl, ?_⟩
   rotate_left
   · omega
   · rw [made_n (by omega) hc2]; rfl
   · omega
 ·
  refine AMx.exit ?_
  refine AMx.code_exit ?_
  refine AMx.inv_exit ?_
  refine AMx.blk_exit ?_
  rw [show List.take k l = l from List.take_of_length_le (by omega)]
  refine gS [] [] 41 [(2, vp 2 0)] [(2, AObj.row [.s (slT (madeT l))])] trivial ?_
  exact gT (AV.t (TV.agg [.s (slT (madeT l))])) rfl
end AL.Token
namespace AL.Token
open Go AL
open AL.Policy (RuleV rowP slP checkP coversS capsP textP parseP hasB)
set_option linter.unusedVariables false
set_option linter.unusedSimpArgs false
section
variable {s : List TokV}
def cntT (d : Bytes → Nat) (s : List TokV) (t : TokV) : Nat := (s.filter fun x => decide (d x.1 ≤ d t.1)).length
theorem cnt_le (d : Bytes → Nat) (s : List TokV) (t : TokV) : cntT d s t ≤ s.length := List.length_filter_le _ _
theorem cnt_up {d : Bytes → Nat} (hd : Dep s d) {t p : TokV} (ht : t ∈ s) (hp : p.1 = t.2.1) (h : t.2.1 ≠ []) : cntT d s p < cntT d s t := by
  have hdt := dep_up hd ht h
  exact count_lt (fun x hx => by simp only [decide_eq_true_eq] at *; rw [hp] at hx; omega) ht (by simp) (by simp only [decide_eq_false_iff_not]; rw [hp]; omega)
theorem cnt_pos {d : Bytes → Nat} {t : TokV} (ht : t ∈ s) : 0 < cntT d s t := List.length_pos_of_mem (List.mem_filter.2 ⟨ht, by simp⟩)
theorem up_find (hw : WF s) (hs : SortT s) {t : TokV} (ht : t ∈ s) (h : t.2.1 ≠ []) : findR s t.2.1 = ((findR s t.2.1).1, true) ∧ (findR s t.2.1).1 ∈ s ∧ (findR s t.2.1).1.1 = t.2.1 ∧ coversS t.2.2 (findR s t.2.1).1.2.2 = true ∧ 0 ≤ findT s t.2.1 := by
  obtain ⟨d, hd⟩ := hw.ex
  rcases hd t ht with rfl | ⟨_, _, p, hp, e, hv⟩
  · exact absurd rfl h
  · obtain ⟨q1, q2⟩ := find_yes hs hp e
    unfold findR
    rw [if_neg (by omega), q2]
    exact ⟨rfl, hp, e, hv, q1⟩
structure NeverI (s : List TokV) (path : Bytes) (c : Int) (m : Nat) (t : TokV) : Prop where
  mem : t ∈ s
  has : hasB (capsP t.2.2 path) c = true
  few : ∃ d, Dep s d ∧ m + cntT d s t ≤ s.length
structure MineI (s : List TokV) (x : TokV) (n : Bytes) (k : Nat) (u : TokV) (b : Bool) : Prop where
  mem : u ∈ s
  is : b = decide (u.1 = n)
  anc : Anc s n x ↔ Anc s n u
  few : ∃ d, Dep s d ∧ k + cntT d s u ≤ s.length
theorem mine_0 (hw : WF s) {x : TokV} (hx : x ∈ s) (n : Bytes) : MineI s x n 0 x (decide (x.1 = n)) := by
  obtain ⟨d, hd⟩ := hw.ex
  exact ⟨hx, rfl, Iff.rfl, d, hd, by have := cnt_le d s x; omega⟩
theorem mine_up (hw : WF s) (hs : SortT s) {x u : TokV} {n : Bytes} {k : Nat} {b : Bool} (h : MineI s x n k u b) (h0 : ¬ u.2.1 = []) (hb : b = false) : MineI s x n (k + 1) (findR s u.2.1).1 (decide ((findR s u.2.1).1.1 = n)) := by
  obtain ⟨q1, q2, q3, q4, q5⟩ := up_find hw hs h.mem h0
  obtain ⟨d, hd, hm⟩ := h.few
  have hn : ¬ u.1 = n := of_decide_eq_false (h.is.symm.trans hb)
  refine ⟨q2, rfl, h.anc.trans ⟨fun ha => ?_, fun ha => .step q2 q3 ha⟩, d, hd, ?_⟩
  · cases ha with
    | refl e => exact absurd e hn
    | @step _ p hp e ha => rw [name_eq hs q2 hp (q3.trans e.symm)]; exact ha
  · have := cnt_up hd h.mem q3 h0
    omega
theorem mine_end (hw : WF s) (hs : SortT s) {x u : TokV} {n : Bytes} {k : Nat} {b : Bool} (h : MineI s x n k u b) (hx : x ∈ s) (hl : s.length ≤ 13) (h0 : (¬ (k : Int) < 20 ∨ u.2.1 = []) ∨ b = true) : b = goneS s x n := by
  obtain ⟨d, hd, hm⟩ := h.few
  have hc := cnt_pos (d := d) h.mem
  have key : goneS s x n = true ↔ Anc s n u := (gone_anc hs hw hx).trans h.anc
  cases hb : b with
  | true =>
    have hn : u.1 = n := of_decide_eq_true (h.is.symm.trans hb)
    exact (key.2 (.refl hn)).symm
  | false =>
    have hn : ¬ u.1 = n := of_decide_eq_false (h.is.symm.trans hb)
    have h1 : u.2.1 = [] := by
      rcases h0 with (h0 | h0) | h0
      · omega
      · exact h0
      · rw [hb] at h0; cases h0
    cases hg : goneS s x n with
    | false => rfl
    | true =>
      cases key.1 hg with
      | refl e => exact absurd e hn
      | step hp e _ => exact absurd (e.trans h1) (check_name (hw.chk _ hp))
theorem find_left (hs : SortT s) (n : Bytes) {x : TokV} (hx : x ∈ s) : findR (leftT s n) x.1 = if goneS s x n = true then (tokd, false) else (x, true) := by
  have hsl := left_sort hs n
  split
  · rename_i h
    unfold findR
    rw [if_pos]
    refine find_no.2 fun y hy e => ?_
    obtain ⟨hy, hg⟩ := List.mem_filter.1 hy
    rw [name_eq hs hy hx e, h] at hg
    cases hg
  · rename_i h
    have hm : x ∈ leftT s n := List.mem_filter.2 ⟨hx, by simpa using h⟩
    obtain ⟨q1, q2⟩ := find_yes hsl hm rfl
    unfold findR
    rw [if_neg (by omega), q2]
theorem revoke_yes {n : Bytes} (h : 0 ≤ findT s n) : revokeT s n = (leftT s n, goneT s n, 0) := by
  unfold revokeT
  rw [if_neg (by omega)]
theorem filter_two (p : TokV → Bool) : ∀ l : List TokV, (l.filter fun t => !(p t)).length + (l.filter p).length = l.length
  | [] => rfl
  | x :: l => by
    have ih := filter_two p l
    cases h : p x with
    | true => rw [List.filter_cons_of_neg (by simp [h]), List.filter_cons_of_pos h, List.length_cons, List.length_cons]; omega
    | false => rw [List.filter_cons_of_pos (by simp [h]), List.filter_cons_of_neg (by simp [h]), List.length_cons, List.length_cons]; omega
theorem left_gone (n : Bytes) : (leftT s n).length + (goneT s n).length = s.length := by
  unfold leftT goneT namesT
  rw [List.length_map]
  exact filter_two (fun t => goneS s t n) s
theorem revoke_twice {n : Bytes} (h : 0 ≤ findT s n) : revokeT (leftT s n) n = (leftT s n, [], 6) := by
  unfold revokeT
  rw [if_pos]
  refine find_no.2 fun y hy e => ?_
  have := (List.mem_filter.1 hy).2
  unfold goneS at this
  rw [up_1 e (Nat.succ_pos _)] at this
  cases this
theorem find_left2 (hs : SortT s) (n : Bytes) {x : TokV} (hx : x ∈ s) : (findR (leftT s n) x.1).1 = (if goneS s x n = true then tokd else x) ∧ (findR (leftT s n) x.1).2 = !(goneS s x n) := by
  rw [find_left hs n hx]
  cases h : goneS s x n with
  | true => exact ⟨rfl, rfl⟩
  | false => exact ⟨rfl, rfl⟩
theorem name_at_found (hs : SortT s) {i : Nat} (h : i < s.length) : 0 ≤ findT s (List.getD s i tokd).1 := (find_yes hs (Lib.getD_mem tokd s i h) rfl).1
end
theorem no_names {s : List TokV} (h : (List.length (namesT s) : Int) = 0) : s = [] := List.eq_nil_of_length_eq_zero (by rw [names_len] at h; omega)
theorem tmod_ex (n : Int) (l : List TokV) : ∃ q : Nat, 0 ≤ n → ¬ (List.length (namesT l) : Int) = 0 → Int.tmod n (List.length (namesT l) : Int) = q ∧ q < l.length := by
  refine ⟨(Int.tmod n (List.length (namesT l) : Int)).toNat, fun h hl => ?_⟩
  rw [names_len] at *
  have h1 := Int.tmod_nonneg (l.length : Int) h
  have h2 := Int.tmod_lt_of_pos n (b := (l.length : Int)) (by omega)
  omega
end AL.Token
namespace AL.Token
open Go Go.Proofs AL
open AL.Policy (RuleV rowP slP checkP coversS capsP)
set_option linter.unusedVariables false
set_option linter.unusedSimpArgs false
theorem f5_body : Tryz.f5.body = some (.seq (.region 0 (rg Tryz.f5 0) false) (.seq (.seq (.region 1 (rg Tryz.f5 1) false) (.cond (.tmp 28) (.seq (.region 2 (rg Tryz.f5 2) false) (.ret)) (.skip))) (.seq (.region 3 (rg Tryz.f5 3) false) (.seq (.region 4 (rg Tryz.f5 4) false) (.seq (.seq (.region 5 (rg Tryz.f5 5) false) (.cond (.tmp 36) (.seq (.region 6 (rg Tryz.f5 6) false) (.seq (.region 7 (rg Tryz.f5 7) false) (.ret))) (.skip))) (.seq (.region 8 (rg Tryz.f5 8) false) (.seq (.region 9 (rg Tryz.f5 9) false) (.seq (.seq (.region 10 (rg Tryz.f5 10) false) (.cond (.tmp 80) (.seq (.region 11 (rg Tryz.f5 11) false) (.ret)) (.skip))) (.seq (.seq (.region 12 (rg Tryz.f5 12) false) (.block 0 (.loop (.seq (.seq (.region 13 (rg Tryz.f5 13) false) (.cond (.tmp 84) (.skip) (.exit 0))) (.seq (.block 1 (.seq (.region 15 (rg Tryz.f5 15) true) (.seq (.region 16 (rg Tryz.f5 16) false) (.seq (.region 17 (rg Tryz.f5 17) false) (.seq (.seq (.region 18 (rg Tryz.f5 18) false) (.block 2 (.loop (.seq (.seq (.region 19 (rg Tryz.f5 19) false) (.cond (.tmp 111) (.skip) (.exit 2))) (.seq (.block 3 (.seq (.region 21 (rg Tryz.f5 21) false) (.region 22 (rg Tryz.f5 22) false))) (.region 20 (rg Tryz.f5 20) false)))))) (.seq (.region 23 (rg Tryz.f5 23) true) (.seq (.region 24 (rg Tryz.f5 24) false) (.cond (.tmp 161) (.seq (.region 25 (rg Tryz.f5 25) false) (.ret)) (.skip))))))))) (.region 14 (rg Tryz.f5 14) false)))))) (.seq (.region 26 (rg Tryz.f5 26) false) (.seq (.region 27 (rg Tryz.f5 27) false) (.ret)))))))))))) := by kernel_rfl
set_option maxRecDepth 100000 in
set_option maxHeartbeats 8000000 in
theorem TokenRevokes_c (l : List OpT) (n : Int) (hbig : l.length * 64 ≤ 140737488351232) : Pure Tryz.prog 5 [tc (slO l), tc (u8 n)] (vc (bo true)) := by
 refine Pure.of_body Tryz.func5 f5_body (by kernel_rfl) Tryz.ntmps5 (by kernel_rfl) (by kernel_rfl) ?_
 refine AMx.sl 0 (l := l) rfl (fun hl => ?_)
 simp only [maxLen] at hl
 refine AMx.int 1 rfl (fun hn => ?_)
 rw [inR8_iff] at hn
 obtain ⟨q, hmo⟩ := tmod_ex n (madeT l)
 refine gS [] [] 184 [(0, vc (slO l)), (1, vc (u8 n))] [] trivial ?_
 refine gQ ?_
 refine gS [(1, CE.call [] [] (vc (slT (tokensO l))) []), (2, CE.call [] [] (vc (i6 (overT (tokensO l)))) [])] [Spec Tryz.prog 9 [tc (slO l)] (ofH []) (vc (slT (tokensO l))) (ofH []), Spec Tryz.prog 8 [tc (slT (tokensO l))] (ofH []) (vc (i6 (overT (tokensO l)))) (ofH [])] 184 [(0, vc (slO l)), (1, vc (u8 n)), (28, vc (bo (decide (0 < overT (tokensO l)))))] [] ⟨(tokens_c l (by first | omega | (have z1 := (made_goodA l).few; have z2 := (over_tok hc1).1; have z3 := names_len (madeT l); first | omega | (have z4 := hmo hn.1 hc2; first | omega | (have z5 := left_gone (s := madeT l) ((List.getD (madeT l) q tokd).1); rw [names_len]; omega) | (have z5 := left_gone (s := madeT l) ((List.getD (madeT l) q tokd).1); omega))))), (Over_c (tokensO l))⟩ ?_
 refine gC (0 < overT (tokensO l)) (fun hc1 => ?_) fun hc1 => ?_
 ·
  refine gS [(0, CE.call [] [] (vc (bo true)) [])] [Spec Tryz.prog 10 [] (ofH []) (vc (bo true)) (ofH [])] 184 [(4, vc (bo true))] [] (awake_c) ?_
  exact gT (vc (bo true)) rfl
 ·
  refine AMx.skip ?_
  refine gS [(1, CE.call [] [] (AV.t (TV.agg [.s (slT (madeT l))])) [])] [Spec Tryz.prog 25 [tc (slO l)] (ofH []) (AV.t (TV.agg [.s (slT (madeT l))])) (ofH [])] 184 [(1, vc (u8 n)), (5, vp 5 0)] [(5, AObj.row [.s (slT (madeT l))])] (made_c l (by first | exact hc1.1 | exact hc1)) ?_
  refine gS [(1, CE.call [] [] (vc (AL.Fnv.slS (namesT (madeT l)))) [])] [Spec Tryz.prog 26 [TV.agg [.s (slT (madeT l))]] (ofH []) (vc (AL.Fnv.slS (namesT (madeT l)))) (ofH [])] 184 [(1, vc (u8 n)), (5, vp 5 0), (6, vc (AL.Fnv.slS (namesT (madeT l))))] [(5, AObj.row [.s (slT (madeT l))])] (Names_c (madeT l) (by first | omega | (have z1 := (made_goodA l).few; have z2 := (over_tok hc1).1; have z3 := names_len (madeT l); first | omega | (have z4 := hmo hn.1 hc2; first | omega | (have z5 := left_gone (s := madeT l) ((List.getD (madeT l) q tokd).1); rw [names_len]; omega) | (have z5 := left_gone (s := madeT l) ((List.getD (madeT l) q tokd).1); omega))))) ?_
  refine gQ ?_
  refine gS [] [] 184 [(1, vc (u8 n)), (5, vp 5 0), (6, vc (AL.Fnv.slS (namesT (madeT l)))), (36, vc (bo (decide ((List.length (namesT (madeT l) : List Bytes) : Int) = 0))))] [(5, AObj.row [.s (slT (madeT l))])] trivial ?_
  refine gC ((List.length (namesT (madeT l) : List Bytes) : Int) = 0) (fun hc2 => ?_) fun hc2 => ?_
  ·
   refine gS [(1, CE.call [] [] (AV.tup [TV.agg [.s (slT ((revokeT (madeT l) [114, 111, 111, 116]).1))], tc (AL.Fnv.slS ((revokeT (madeT l) [114, 111, 111, 116]).2.1)), tc (i6 ((revokeT (madeT l) [114, 111, 111, 116]).2.2))]) [])] [Spec Tryz.prog 16 [TV.agg [.s (slT (madeT l))], tc (st [114, 111, 111, 116])] (ofH []) (AV.tup [TV.agg [.s (slT ((revokeT (madeT l) [114, 111, 111, 116]).1))], tc (AL.Fnv.slS ((revokeT (madeT l) [114, 111, 111, 116]).2.1)), tc (i6 ((revokeT (madeT l) [114, 111, 111, 116]).2.2))]) (ofH [])] 184 [(8, vc (AL.Fnv.slS ((revokeT (madeT l) [114, 111, 111, 116]).2.1))), (9, vc (i6 ((revokeT (madeT l) [114, 111, 111, 116]).2.2)))] [] (Revoke_c (madeT l) [114, 111, 111, 116] (by first | exact (made_goodA l).wf | exact left_wf (made_goodA l).wf (made_goodA l).rise _) (by first | exact (made_goodA l).rise | exact left_sort (made_goodA l).rise _) (by first | omega | (have z1 := (made_goodA l).few; have z2 := (over_tok hc1).1; have z3 := names_len (madeT l); first | omega | (have z4 := hmo hn.1 hc2; first | omega | (have z5 := left_gone (s := madeT l) ((List.getD (madeT l) q tokd).1); rw [names_len]; omega) | (have z5 := left_gone (s := madeT l) ((List.getD (madeT l) q tokd).1); omega))))) ?_
   rw [show (revokeT (madeT l) [114, 111, 111, 116]).2.1 = [] from by rw [no_names hc2]; rfl]
   rw [show (revokeT (madeT l) [114, 111, 111, 116]).2.2 = 6 from by rw [no_names hc2]; rfl]
   refine gS [(8, CE.call [] [] (vc (bo true)) [])] [((decide ((List.length ([] : List Bytes) : Int) = 0)) = true) → allP [(decide ((List.length ([] : List Bytes) : Int) = 0)) = true], (decide ((List.length ([] : List Bytes) : Int) = 0)) = true → allP [(decide ((List.length ([] : List Bytes) : Int) = 0)) = true], (((decide ((List.length ([] : List Bytes) : Int) = 0)) && true) = true) → allP [Spec Tryz.prog 10 [] (ofH []) (vc (bo true)) (ofH [])], ((decide ((List.length ([] : List Bytes) : Int) = 0)) && true) = true → allP [((decide ((List.length ([] : List Bytes) : Int) = 0)) && true) = true]] 184 [(4, vc (bo (((decide ((List.length ([] : List Bytes) : Int) = 0)) && true) && true)))] [] ⟨(fun hp => hp), (fun hp2 => (by first | exact hp2 | exact ⟨hp, hp2⟩)), (fun hp => by have hq := hp; (try simp only [xT, xF, xA, xO, xB, xP, xN, xM, Bool.not_eq_true, Bool.not_eq_false] at hq); exact (awake_c)), (fun hp2 => (by first | exact hp2 | exact ⟨hp, hp2⟩))⟩ ?_
   exact gT (vc (bo (((decide ((List.length ([] : List Bytes) : Int) = 0)) && true) && true))) (congrArg (fun b => vc (bo b)) (show (((decide ((List.length ([] : List Bytes) : Int) = 0)) && true) && true) = true from by simp))
  ·
   refine AMx.skip ?_
   refine gS [] [((List.length (namesT (madeT l) : List Bytes) : Int) : Int) ≠ 0, (0 : Int) ≤ Int.tmod n (List.length (namesT (madeT l) : List Bytes) : Int), Int.tmod n (List.length (namesT (madeT l) : List Bytes) : Int) < List.length (namesT (madeT l) : List Bytes)] 184 [(5, vp 5 0), (6, vc (AL.Fnv.slS (namesT (madeT l)))), (10, vc (st (List.getD (namesT (madeT l)) (Int.tmod n (List.length (namesT (madeT l) : List Bytes) : Int)).toNat [])))] [(5, AObj.row [.s (slT (madeT l))])] ⟨(by first | omega | (have z1 := (made_goodA l).few; have z2 := (over_tok hc1).1; have z3 := names_len (madeT l); first | omega | (have z4 := hmo hn.1 hc2; first | omega | (have z5 := left_gone (s := madeT l) ((List.getD (madeT l) q tokd).1); rw [names_len]; omega) | (have z5 := left_gone (s := madeT l) ((List.getD (madeT l) q tokd).1); omega)))), (by first | omega | (have z1 := (made_goodA l).few; have z2 := (over_tok hc1).1; have z3 := names_len (madeT l); first | omega | (have z4 := hmo hn.1 hc2; first | omega | (have z5 := left_gone (s := madeT l) ((List.getD (madeT l) q tokd).1); rw [names_len]; omega) | (have z5 := left_gone (s := madeT l) ((List.getD (madeT l) q tokd).1); omega)))), (show Int.tmod n (List.length (namesT (madeT l) : List Bytes) : Int) < List.length (namesT (madeT l) : List Bytes) from (by first | omega | (have z1 := (made_goodA l).few; have z2 := (over_tok hc1).1; have z3 := names_len (madeT l); first | omega | (have z4 := hmo hn.1 hc2; first | omega | (have z5 := left_gone (s := madeT l) ((List.getD (madeT l) q tokd).1); rw [names_len]; omega) | (have z5 := left_gone (s := madeT l) ((List.getD (madeT l) q tokd).1); omega)))))⟩ ?_
   rw [show (List.getD (namesT (madeT l)) (Int.tmod n (List.length (namesT (madeT l) : List Bytes) : Int)).toNat []) = ((List.getD (madeT l) q tokd).1) from by rw [(hmo hn.1 hc2).1, Int.toNat_natCast]; exact names_at (hmo hn.1 hc2).2]
   refine gS [(2, CE.call [] [] (AV.tup [TV.agg [.s (slT ((revokeT (madeT l) ((List.getD (madeT l) q tokd).1)).1))], tc (AL.Fnv.slS ((revokeT (madeT l) ((List.getD (madeT l) q tokd).1)).2.1)), tc (i6 ((revokeT (madeT l) ((List.getD (madeT l) q tokd).1)).2.2))]) [])] [Spec Tryz.prog 16 [TV.agg [.s (slT (madeT l))], tc (st ((List.getD (madeT l) q tokd).1))] (ofH []) (AV.tup [TV.agg [.s (slT ((revokeT (madeT l) ((List.getD (madeT l) q tokd).1)).1))], tc (AL.Fnv.slS ((revokeT (madeT l) ((List.getD (madeT l) q tokd).1)).2.1)), tc (i6 ((revokeT (madeT l) ((List.getD (madeT l) q tokd).1)).2.2))]) (ofH [])] 184 [(5, vp 5 0), (6, vc (AL.Fnv.slS (namesT (madeT l)))), (10, vc (st ((List.getD (madeT l) q tokd).1))), (11, vp 11 0), (12, vc (AL.Fnv.slS ((revokeT (madeT l) ((List.getD (madeT l) q tokd).1)).2.1))), (13, vc (i6 ((revokeT (madeT l) ((List.getD (madeT l) q tokd).1)).2.2)))] [(5, AObj.row [.s (slT (madeT l))]), (11, AObj.row [.s (slT ((revokeT (madeT l) ((List.getD (madeT l) q tokd).1)).1))])] (Revoke_c (madeT l) ((List.getD (madeT l) q tokd).1) (by first | exact (made_goodA l).wf | exact left_wf (made_goodA l).wf (made_goodA l).rise _) (by first | exact (made_goodA l).rise | exact left_sort (made_goodA l).rise _) (by first | omega | (have z1 := (made_goodA l).few; have z2 := (over_tok hc1).1; have z3 := names_len (madeT l); first | omega | (have z4 := hmo hn.1 hc2; first | omega | (have z5 := left_gone (s := madeT l) ((List.getD (madeT l) q tokd).1); rw [names_len]; omega) | (have z5 := left_gone (s := madeT l) ((List.getD (madeT l) q tokd).1); omega))))) ?_
   rw [show (revokeT (madeT l) ((List.getD (madeT l) q tokd).1)).1 = leftT (madeT l) ((List.getD (madeT l) q tokd).1) from by rw [revoke_yes (name_at_found (made_goodA l).rise (hmo hn.1 hc2).2)]]
   rw [show (revokeT (madeT l) ((List.getD (madeT l) q tokd).1)).2.1 = goneT (madeT l) ((List.getD (madeT l) q tokd).1) from by rw [revoke_yes (name_at_found (made_goodA l).rise (hmo hn.1 hc2).2)]]
   rw [show (revokeT (madeT l) ((List.getD (madeT l) q tokd).1)).2.2 = 0 from by rw [revoke_yes (name_at_found (made_goodA l).rise (hmo hn.1 hc2).2)]]
   refine gQ ?_
   refine gS [(4, CE.call [] [] (vc (AL.Fnv.slS (namesT (leftT (madeT l) ((List.getD (madeT l) q tokd).1))))) [])] [(false = false) → allP [false = false, Spec Tryz.prog 26 [TV.agg [.s (slT (leftT (madeT l) ((List.getD (madeT l) q tokd).1)))]] (ofH []) (vc (AL.Fnv.slS (namesT (leftT (madeT l) ((List.getD (madeT l) q tokd).1))))) (ofH [])], (false = false) → allP [false = false], (false = false) → allP [false = false], (false = false) → allP [false = false, false = false, InR .i64 ((List.length (namesT (leftT (madeT l) ((List.getD (madeT l) q tokd).1)) : List Bytes) : Int) + (List.length (goneT (madeT l) ((List.getD (madeT l) q tokd).1) : List Bytes) : Int))], (false = false) → allP [false = false], (false = false) → allP [false = false, false = false], false = false → allP [false = false]] 184 [(5, vp 5 0), (6, vc (AL.Fnv.slS (namesT (madeT l)))), (10, vc (st ((List.getD (madeT l) q tokd).1))), (11, vp 11 0), (80, vc (bo (!decide ((List.length (namesT (leftT (madeT l) ((List.getD (madeT l) q tokd).1)) : List Bytes) : Int) + (List.length (goneT (madeT l) ((List.getD (madeT l) q tokd).1) : List Bytes) : Int) = (List.length (namesT (madeT l) : List Bytes) : Int)))))] [(5, AObj.row [.s (slT (madeT l))]), (11, AObj.row [.s (slT (leftT (madeT l) ((List.getD (madeT l) q tokd).1)))])] ⟨(fun hp => by have hq := hp; (try simp only [xT, xF, xA, xO, xB, xP, xN, xM, Bool.not_eq_true, Bool.not_eq_false] at hq); exact ⟨hp, (Names_c (leftT (madeT l) ((List.getD (madeT l) q tokd).1)) (by first | omega | (have z1 := (made_goodA l).few; have z2 := (over_tok hc1).1; have z3 := names_len (madeT l); first | omega | (have z4 := hmo hn.1 hc2; first | omega | (have z5 := left_gone (s := madeT l) ((List.getD (madeT l) q tokd).1); rw [names_len]; omega) | (have z5 := left_gone (s := madeT l) ((List.getD (madeT l) q tokd).1); omega)))))⟩), (fun hp => hp), (fun hp => hp), (fun hp => by have hq := hp; (try simp only [xT, xF, xA, xO, xB, xP, xN, xM, Bool.not_eq_true, Bool.not_eq_false] at hq); exact ⟨hp, hp, (show InR .i64 ((List.length (namesT (leftT (madeT l) ((List.getD (madeT l) q tokd).1)) : List Bytes) : Int) + (List.length (goneT (madeT l) ((List.getD (madeT l) q tokd).1) : List Bytes) : Int)) from (inR64 (by first | omega | (have z1 := (made_goodA l).few; have z2 := (over_tok hc1).1; have z3 := names_len (madeT l); first | omega | (have z4 := hmo hn.1 hc2; first | omega | (have z5 := left_gone (s := madeT l) ((List.getD (madeT l) q tokd).1); rw [names_len]; omega) | (have z5 := left_gone (s := madeT l) ((List.getD (madeT l) q tokd).1); omega)))) (by first | omega | (have z1 := (made_goodA l).few; have z2 := (over_tok hc1).1; have z3 := names_len (madeT l); first | omega | (have z4 := hmo hn.1 hc2; first | omega | (have z5 := left_gone (s := madeT l) ((List.getD (madeT l) q tokd).1); rw [names_len]; omega) | (have z5 := left_gone (s := madeT l) ((List.getD (madeT l) q tokd).1); omega))))))⟩), (fun hp => hp), (fun hp => ⟨hp, hp⟩), (fun hp2 => (by first | exact hp2 | exact ⟨hp, hp2⟩))⟩ ?_
   refine gN ((List.length (namesT (leftT (madeT l) ((List.getD (madeT l) q tokd).1)) : List Bytes) : Int) + (List.length (goneT (madeT l) ((List.getD (madeT l) q tokd).1) : List Bytes) : Int) = (List.length (namesT (madeT l) : List Bytes) : Int)) (fun hc3 => ?_) fun hc3 => ?_
   ·
    refine gS [] [] 184 [(4, vc (bo false))] [] trivial ?_
    exact gT (vc (bo false)) (by exfalso; have hz := hc3; have z5 := left_gone (s := madeT l) ((List.getD (madeT l) q tokd).1); have z6 := names_len (leftT (madeT l) ((List.getD (madeT l) q tokd).1)); have z3 := names_len (madeT l); first | omega | (simp at hz; omega))
   ·
    refine AMx.skip ?_
    refine gQ ?_
    refine gS [] [] 184 [(5, vp 5 0), (6, vc (AL.Fnv.slS (namesT (madeT l)))), (10, vc (st ((List.getD (madeT l) q tokd).1))), (11, vp 11 0), (14, vc (i6 0))] [(5, AObj.row [.s (slT (madeT l))]), (11, AObj.row [.s (slT (leftT (madeT l) ((List.getD (madeT l) q tokd).1)))])] trivial ?_
    refine AMx.block ?_
    refine AMx.ent (s' := AS.lst 184 [(5, vp 5 0), (6, vc (AL.Fnv.slS (namesT (madeT l)))), (10, vc (st ((List.getD (madeT l) q tokd).1))), (11, vp 11 0), (14, vc (i6 0))] [(5, AObj.row [.s (slT (madeT l))]), (11, AObj.row [.s (slT (leftT (madeT l) ((List.getD (madeT l) q tokd).1)))])]) (ent_proj [5, 6, 10, 11, 14] [5, 11]) ?_
    refine AMx.loop (fun mm ss => ∃ (i : Nat), (i ≤ (madeT l).length) ∧ mm = (madeT l).length - i ∧ ss = AS.lst 184 [(5, vp 5 0), (6, vc (AL.Fnv.slS (namesT (madeT l)))), (10, vc (st ((List.getD (madeT l) q tokd).1))), (11, vp 11 0), (14, vc (i6 (i : Int)))] [(5, AObj.row [.s (slT (madeT l))]), (11, AObj.row [.s (slT (leftT (madeT l) ((List.getD (madeT l) q tokd).1)))])]) ⟨0, ?_, rfl, ?_⟩ ?_
    · omega
    · rfl
    rintro mm ss ⟨i, hI, rfl, rfl⟩
    have hQ := over_tok hc1
    have hG := made_goodA l
    have hF := hG.few
    have hNL := names_len (madeT l)
    have hmq := hmo hn.1 hc2
    refine gQ ?_
    refine gS [] [] 184 [(5, vp 5 0), (6, vc (AL.Fnv.slS (namesT (madeT l)))), (10, vc (st ((List.getD (madeT l) q tokd).1))), (11, vp 11 0), (14, vc (i6 (i : Int))), (84, vc (bo (decide ((i : Int) < (List.length (namesT (madeT l) : List Bytes) : Int)))))] [(5, AObj.row [.s (slT (madeT l))]), (11, AObj.row [.s (slT (leftT (madeT l) ((List.getD (madeT l) q tokd).1)))])] trivial ?_
    refine gC ((i : Int) < (List.length (namesT (madeT l) : List Bytes) : Int)) (fun hc4 => ?_) fun hc4 => ?_
    ·
     refine AMx.skip ?_
     refine gQ ?_
     refine AMx.block ?_
     refine gY [(5, CE.call [] [] (AV.tup [TV.agg [.s (st (((findR (madeT l) (List.getD (namesT (madeT l)) i [])).1).1)), .s (st (((findR (madeT l) (List.getD (namesT (madeT l)) i [])).1).2.1)), .s (AL.Policy.slP (((findR (madeT l) (List.getD (namesT (madeT l)) i [])).1).2.2))], tc (bo ((findR (madeT l) (List.getD (namesT (madeT l)) i [])).2))]) [])] [(0, [5]), (10, [15])] [(0 : Int) ≤ (i : Int), (i : Int) < List.length (namesT (madeT l) : List Bytes), Spec Tryz.prog 27 [TV.agg [.s (slT (madeT l))], tc (st (List.getD (namesT (madeT l)) i []))] (ofH []) (AV.tup [TV.agg [.s (st (((findR (madeT l) (List.getD (namesT (madeT l)) i [])).1).1)), .s (st (((findR (madeT l) (List.getD (namesT (madeT l)) i [])).1).2.1)), .s (AL.Policy.slP (((findR (madeT l) (List.getD (namesT (madeT l)) i [])).1).2.2))], tc (bo ((findR (madeT l) (List.getD (namesT (madeT l)) i [])).2))]) (ofH [])] 184 [(5, vp 5 0), (6, vc (AL.Fnv.slS (namesT (madeT l)))), (10, vc (st ((List.getD (madeT l) q tokd).1))), (11, vp 11 0), (14, vc (i6 (i : Int))), (15, vp 15 0)] [(5, AObj.row [.s (slT (madeT l))]), (11, AObj.row [.s (slT (leftT (madeT l) ((List.getD (madeT l) q tokd).1)))]), (15, AObj.row [.s (st (((findR (madeT l) (List.getD (namesT (madeT l)) i [])).1).1)), .s (st (((findR (madeT l) (List.getD (namesT (madeT l)) i [])).1).2.1)), .s (AL.Policy.slP (((findR (madeT l) (List.getD (namesT (madeT l)) i [])).1).2.2))])] mixed ⟨(by first | omega | (have z1 := (made_goodA l).few; have z2 := (over_tok hc1).1; have z3 := names_len (madeT l); first | omega | (have z4 := hmo hn.1 hc2; first | omega | (have z5 := left_gone (s := madeT l) ((List.getD (madeT l) q tokd).1); rw [names_len]; omega) | (have z5 := left_gone (s := madeT l) ((List.getD (madeT l) q tokd).1); omega)))), (by first | omega | (have z1 := (made_goodA l).few; have z2 := (over_tok hc1).1; have z3 := names_len (madeT l); first | omega | (have z4 := hmo hn.1 hc2; first | omega | (have z5 := left_gone (s := madeT l) ((List.getD (madeT l) q tokd).1); rw [names_len]; omega) | (have z5 := left_gone (s := madeT l) ((List.getD (madeT l) q tokd).1); omega)))), (Find_c (madeT l) (List.getD (namesT (madeT l)) i []) (by first | exact (made_goodA l).rise | exact left_sort (made_goodA l).rise _) (by first | omega | (have z1 := (made_goodA l).few; have z2 := (over_tok hc1).1; have z3 := names_len (madeT l); first | omega | (have z4 := hmo hn.1 hc2; first | omega | (have z5 := left_gone (s := madeT l) ((List.getD (madeT l) q tokd).1); rw [names_len]; omega) | (have z5 := left_gone (s := madeT l) ((List.getD (madeT l) q tokd).1); omega)))) (by first | exact wf_rules (made_goodA l).wf | exact wf_rules (left_wf (made_goodA l).wf (made_goodA l).rise _)))⟩ ?_
     rw [show (findR (madeT l) (List.getD (namesT (madeT l)) i [])).1 = (List.getD (madeT l) i tokd) from by rw [names_at (by omega), findR_at hG.rise (by omega)]]
     refine gS [] [] 184 [(5, vp 5 0), (6, vc (AL.Fnv.slS (namesT (madeT l)))), (10, vc (st ((List.getD (madeT l) q tokd).1))), (11, vp 11 0), (14, vc (i6 (i : Int))), (15, vp 15 0), (17, vp 17 0)] [(5, AObj.row [.s (slT (madeT l))]), (11, AObj.row [.s (slT (leftT (madeT l) ((List.getD (madeT l) q tokd).1)))]), (15, AObj.row [.s (st ((List.getD (madeT l) i tokd).1)), .s (st ((List.getD (madeT l) i tokd).2.1)), .s (AL.Policy.slP ((List.getD (madeT l) i tokd).2.2))]), (17, AObj.row [.s (st ((List.getD (madeT l) i tokd).1)), .s (st ((List.getD (madeT l) i tokd).2.1)), .s (AL.Policy.slP ((List.getD (madeT l) i tokd).2.2))])] trivial ?_
     refine gS [] [] 184 [(5, vp 5 0), (6, vc (AL.Fnv.slS (namesT (madeT l)))), (10, vc (st ((List.getD (madeT l) q tokd).1))), (11, vp 11 0), (14, vc (i6 (i : Int))), (15, vp 15 0), (17, vp 17 0), (18, vc (bo (decide ((List.getD (madeT l) i tokd).1 = ((List.getD (madeT l) q tokd).1)))))] [(5, AObj.row [.s (slT (madeT l))]), (11, AObj.row [.s (slT (leftT (madeT l) ((List.getD (madeT l) q tokd).1)))]), (15, AObj.row [.s (st ((List.getD (madeT l) i tokd).1)), .s (st ((List.getD (madeT l) i tokd).2.1)), .s (AL.Policy.slP ((List.getD (madeT l) i tokd).2.2))]), (17, AObj.row [.s (st ((List.getD (madeT l) i tokd).1)), .s (st ((List.getD (madeT l) i tokd).2.1)), .s (AL.Policy.slP ((List.getD (madeT l) i tokd).2.2))])] trivial ?_
     refine gQ ?_
     refine gS [] [] 184 [(5, vp 5 0), (6, vc (AL.Fnv.slS (namesT (madeT l)))), (10, vc (st ((List.getD (madeT l) q tokd).1))), (11, vp 11 0), (14, vc (i6 (i : Int))), (15, vp 15 0), (17, vp 17 0), (18, vc (bo (decide ((List.getD (madeT l) i tokd).1 = ((List.getD (madeT l) q tokd).1))))), (19, vc (i6 0))] [(5, AObj.row [.s (slT (madeT l))]), (11, AObj.row [.s (slT (leftT (madeT l) ((List.getD (madeT l) q tokd).1)))]), (15, AObj.row [.s (st ((List.getD (madeT l) i tokd).1)), .s (st ((List.getD (madeT l) i tokd).2.1)), .s (AL.Policy.slP ((List.getD (madeT l) i tokd).2.2))]), (17, AObj.row [.s (st ((List.getD (madeT l) i tokd).1)), .s (st ((List.getD (madeT l) i tokd).2.1)), .s (AL.Policy.slP ((List.getD (madeT l) i tokd).2.2))])] trivial ?_
     refine AMx.block ?_
     refine AMx.ent (s' := AS.lst 184 [(5, vp 5 0), (6, vc (AL.Fnv.slS (namesT (madeT l)))), (10, vc (st ((List.getD (madeT l) q tokd).1))), (11, vp 11 0), (14, vc (i6 (i : Int))), (15, vp 15 0), (17, vp 17 0), (18, vc (bo (decide ((List.getD (madeT l) i tokd).1 = ((List.getD (madeT l) q tokd).1))))), (19, vc (i6 0))] [(5, AObj.row [.s (slT (madeT l))]), (11, AObj.row [.s (slT (leftT (madeT l) ((List.getD (madeT l) q tokd).1)))]), (15, AObj.row [.s (st ((List.getD (madeT l) i tokd).1)), .s (st ((List.getD (madeT l) i tokd).2.1)), .s (AL.Policy.slP ((List.getD (madeT l) i tokd).2.2))]), (17, AObj.row [.s (st ((List.getD (madeT l) i tokd).1)), .s (st ((List.getD (madeT l) i tokd).2.1)), .s (AL.Policy.slP ((List.getD (madeT l) i tokd).2.2))])]) (ent_proj [5, 6, 10, 11, 14, 15, 17, 18, 19] [5, 11, 15, 17]) ?_
     refine AMx.loop (fun mm ss => ∃ (k : Nat) (u : TokV) (b : Bool), (MineI (madeT l) (List.getD (madeT l) i tokd) ((List.getD (madeT l) q tokd).1) k u b) ∧ mm = 20 - k ∧ ss = AS.lst 184 [(5, vp 5 0), (6, vc (AL.Fnv.slS (namesT (madeT l)))), (10, vc (st ((List.getD (madeT l) q tokd).1))), (11, vp 11 0), (14, vc (i6 (i : Int))), (15, vp 15 0), (17, vp 17 0), (18, vc (bo b)), (19, vc (i6 (k : Int)))] [(5, AObj.row [.s (slT (madeT l))]), (11, AObj.row [.s (slT (leftT (madeT l) ((List.getD (madeT l) q tokd).1)))]), (15, AObj.row [.s (st ((List.getD (madeT l) i tokd).1)), .s (st ((List.getD (madeT l) i tokd).2.1)), .s (AL.Policy.slP ((List.getD (madeT l) i tokd).2.2))]), (17, AObj.row [.s (st u.1), .s (st u.2.1), .s (AL.Policy.slP u.2.2)])]) ⟨0, (List.getD (madeT l) i tokd), decide ((List.getD (madeT l) i tokd).1 = (List.getD (madeT l) q tokd).1), ?_, rfl, ?_⟩ ?_
     · exact mine_0 hG.wf (Lib.getD_mem tokd _ _ (by omega)) _
     · rfl
     rintro mm ss ⟨k, u, b, hN, rfl, rfl⟩
     refine gQ ?_
     refine gS [] [((decide ((k : Int) < 20)) = true) → allP [(decide ((k : Int) < 20)) = true], ((decide ((k : Int) < 20)) = true) → allP [(decide ((k : Int) < 20)) = true], (decide ((k : Int) < 20)) = true → allP [(decide ((k : Int) < 20)) = true], (((decide ((k : Int) < 20)) && (!decide (u.2.1 = []))) = true) → allP [((decide ((k : Int) < 20)) && (!decide (u.2.1 = []))) = true], ((decide ((k : Int) < 20)) && (!decide (u.2.1 = []))) = true → allP [((decide ((k : Int) < 20)) && (!decide (u.2.1 = []))) = true]] 184 [(5, vp 5 0), (6, vc (AL.Fnv.slS (namesT (madeT l)))), (10, vc (st ((List.getD (madeT l) q tokd).1))), (11, vp 11 0), (14, vc (i6 (i : Int))), (15, vp 15 0), (17, vp 17 0), (18, vc (bo b)), (19, vc (i6 (k : Int))), (111, vc (bo (((decide ((k : Int) < 20)) && (!decide (u.2.1 = []))) && (!b))))] [(5, AObj.row [.s (slT (madeT l))]), (11, AObj.row [.s (slT (leftT (madeT l) ((List.getD (madeT l) q tokd).1)))]), (15, AObj.row [.s (st ((List.getD (madeT l) i tokd).1)), .s (st ((List.getD (madeT l) i tokd).2.1)), .s (AL.Policy.slP ((List.getD (madeT l) i tokd).2.2))]), (17, AObj.row [.s (st u.1), .s (st u.2.1), .s (AL.Policy.slP u.2.2)])] ⟨(fun hp => hp), (fun hp => hp), (fun hp2 => (by first | exact hp2 | exact ⟨hp, hp2⟩)), (fun hp => hp), (fun hp2 => (by first | exact hp2 | exact ⟨hp, hp2⟩))⟩ ?_
     refine gB ((((decide ((k : Int) < 20)) && (!decide (u.2.1 = []))) && (!b))) (fun hc5 => ?_) fun hc5 => ?_
     ·
      try simp only [xT, xF, xA, xB, xN, xM] at hc5
      refine AMx.skip ?_
      refine gQ ?_
      refine AMx.block ?_
      refine gS [(3, CE.call [] [] (AV.tup [TV.agg [.s (st (((findR (madeT l) u.2.1).1).1)), .s (st (((findR (madeT l) u.2.1).1).2.1)), .s (AL.Policy.slP (((findR (madeT l) u.2.1).1).2.2))], tc (bo ((findR (madeT l) u.2.1).2))]) [])] [Spec Tryz.prog 27 [TV.agg [.s (slT (madeT l))], tc (st u.2.1)] (ofH []) (AV.tup [TV.agg [.s (st (((findR (madeT l) u.2.1).1).1)), .s (st (((findR (madeT l) u.2.1).1).2.1)), .s (AL.Policy.slP (((findR (madeT l) u.2.1).1).2.2))], tc (bo ((findR (madeT l) u.2.1).2))]) (ofH [])] 184 [(5, vp 5 0), (6, vc (AL.Fnv.slS (namesT (madeT l)))), (10, vc (st ((List.getD (madeT l) q tokd).1))), (11, vp 11 0), (14, vc (i6 (i : Int))), (15, vp 15 0), (17, vp 17 0), (19, vc (i6 (k : Int)))] [(5, AObj.row [.s (slT (madeT l))]), (11, AObj.row [.s (slT (leftT (madeT l) ((List.getD (madeT l) q tokd).1)))]), (15, AObj.row [.s (st ((List.getD (madeT l) i tokd).1)), .s (st ((List.getD (madeT l) i tokd).2.1)), .s (AL.Policy.slP ((List.getD (madeT l) i tokd).2.2))]), (17, AObj.row [.s (st (((findR (madeT l) u.2.1).1).1)), .s (st (((findR (madeT l) u.2.1).1).2.1)), .s (AL.Policy.slP (((findR (madeT l) u.2.1).1).2.2))])] (Find_c (madeT l) u.2.1 (by first | exact (made_goodA l).rise | exact left_sort (made_goodA l).rise _) (by first | omega | (have z1 := (made_goodA l).few; have z2 := (over_tok hc1).1; have z3 := names_len (madeT l); first | omega | (have z4 := hmo hn.1 hc2; first | omega | (have z5 := left_gone (s := madeT l) ((List.getD (madeT l) q tokd).1); rw [names_len]; omega) | (have z5 := left_gone (s := madeT l) ((List.getD (madeT l) q tokd).1); omega)))) (by first | exact wf_rules (made_goodA l).wf | exact wf_rules (left_wf (made_goodA l).wf (made_goodA l).rise _))) ?_
      refine gR [] [] 184 [(5, vp 5 0), (6, vc (AL.Fnv.slS (namesT (madeT l)))), (10, vc (st ((List.getD (madeT l) q tokd).1))), (11, vp 11 0), (14, vc (i6 (i : Int))), (15, vp 15 0), (17, vp 17 0), (18, vc (bo (decide (((findR (madeT l) u.2.1).1).1 = ((List.getD (madeT l) q tokd).1))))), (19, vc (i6 (k : Int)))] [(5, AObj.row [.s (slT (madeT l))]), (11, AObj.row [.s (slT (leftT (madeT l) ((List.getD (madeT l) q tokd).1)))]), (15, AObj.row [.s (st ((List.getD (madeT l) i tokd).1)), .s (st ((List.getD (madeT l) i tokd).2.1)), .s (AL.Policy.slP ((List.getD (madeT l) i tokd).2.2))]), (17, AObj.row [.s (st (((findR (madeT l) u.2.1).1).1)), .s (st (((findR (madeT l) u.2.1).1).2.1)), .s (AL.Policy.slP (((findR (madeT l) u.2.1).1).2.2))])] trivial ?_
      refine AMx.blk ?_
      refine gR [] [InR .i64 ((k : Int) + 1)] 184 [(5, vp 5 0), (6, vc (AL.Fnv.slS (namesT (madeT l)))), (10, vc (st ((List.getD (madeT l) q tokd).1))), (11, vp 11 0), (14, vc (i6 (i : Int))), (15, vp 15 0), (17, vp 17 0), (18, vc (bo (decide (((findR (madeT l) u.2.1).1).1 = ((List.getD (madeT l) q tokd).1))))), (19, vc (i6 ((k : Int) + 1)))] [(5, AObj.row [.s (slT (madeT l))]), (11, AObj.row [.s (slT (leftT (madeT l) ((List.getD (madeT l) q tokd).1)))]), (15, AObj.row [.s (st ((List.getD (madeT l) i tokd).1)), .s (st ((List.getD (madeT l) i tokd).2.1)), .s (AL.Policy.slP ((List.getD (madeT l) i tokd).2.2))]), (17, AObj.row [.s (st (((findR (madeT l) u.2.1).1).1)), .s (st (((findR (madeT l) u.2.1).1).2.1)), .s (AL.Policy.slP (((findR (madeT l) u.2.1).1).2.2))])] (show InR .i64 ((k : Int) + 1) from (inR64 (by first | omega | (have z1 := (made_goodA l).few; have z2 := (over_tok hc1).1; have z3 := names_len (madeT l); first | omega | (have z4 := hmo hn.1 hc2; first | omega | (have z5 := left_gone (s := madeT l) ((List.getD (madeT l) q tokd).1); rw [names_len]; omega) | (have z5 := left_gone (s := madeT l) ((List.getD (madeT l) q tokd).1); omega)))) (by first | omega | (have z1 := (made_goodA l).few; have z2 := (over_tok hc1).1; have z3 := names_len (madeT l); first | omega | (have z4 := hmo hn.1 hc2; first | omega | (have z5 := left_gone (s := madeT l) ((List.getD (madeT l) q tokd).1); rw [names_len]; omega) | (have z5 := left_gone (s := madeT l) ((List.getD (madeT l) q tokd).1); omega)))))) ?_
      refine AMx.ent_inv (s' := AS.lst 184 [(5, vp 5 0), (6, vc (AL.Fnv.slS (namesT (madeT l)))), (10, vc (st ((List.getD (madeT l) q tokd).1))), (11, vp 11 0), (14, vc (i6 (i : Int))), (15, vp 15 0), (17, vp 17 0), (18, vc (bo (decide (((findR (madeT l) u.2.1).1).1 = ((List.getD (madeT l) q tokd).1))))), (19, vc (i6 ((k : Int) + 1)))] [(5, AObj.row [.s (slT (madeT l))]), (11, AObj.row [.s (slT (leftT (madeT l) ((List.getD (madeT l) q tokd).1)))]), (15, AObj.row [.s (st ((List.getD (madeT l) i tokd).1)), .s (st ((List.getD (madeT l) i tokd).2.1)), .s (AL.Policy.slP ((List.getD (madeT l) i tokd).2.2))]), (17, AObj.row [.s (st (((findR (madeT l) u.2.1).1).1)), .s (st (((findR (madeT l) u.2.1).1).2.1)), .s (AL.Policy.slP (((findR (madeT l) u.2.1).1).2.2))])]) (ent_proj [5, 6, 10, 11, 14, 15, 17, 18, 19] [5, 11, 15, 17]) ?_
      refine AMx.inv ⟨_, ?_, k + 1, (findR (madeT l) u.2.1).1, decide ((findR (madeT l) u.2.1).1.1 = (List.getD (madeT l) q tokd).1), ?_, rfl, ?_⟩
      rotate_left
      · exact mine_up hG.wf hG.rise hN hc5.1.2 hc5.2
      · rfl
      · omega
     ·
      try simp only [xT, xF, xA, xB, xN, xM] at hc5
      refine AMx.exit ?_
      refine AMx.code_exit ?_
      refine AMx.inv_exit ?_
      refine AMx.blk_exit ?_
      refine gY [(5, CE.call [] [] (AV.tup [TV.agg [.s (st (((findR (leftT (madeT l) ((List.getD (madeT l) q tokd).1)) (List.getD (namesT (madeT l)) i [])).1).1)), .s (st (((findR (leftT (madeT l) ((List.getD (madeT l) q tokd).1)) (List.getD (namesT (madeT l)) i [])).1).2.1)), .s (AL.Policy.slP (((findR (leftT (madeT l) ((List.getD (madeT l) q tokd).1)) (List.getD (namesT (madeT l)) i [])).1).2.2))], tc (bo ((findR (leftT (madeT l) ((List.getD (madeT l) q tokd).1)) (List.getD (namesT (madeT l)) i [])).2))]) [])] [(0, [11]), (10, [20])] [(0 : Int) ≤ (i : Int), (i : Int) < List.length (namesT (madeT l) : List Bytes), Spec Tryz.prog 27 [TV.agg [.s (slT (leftT (madeT l) ((List.getD (madeT l) q tokd).1)))], tc (st (List.getD (namesT (madeT l)) i []))] (ofH []) (AV.tup [TV.agg [.s (st (((findR (leftT (madeT l) ((List.getD (madeT l) q tokd).1)) (List.getD (namesT (madeT l)) i [])).1).1)), .s (st (((findR (leftT (madeT l) ((List.getD (madeT l) q tokd).1)) (List.getD (namesT (madeT l)) i [])).1).2.1)), .s (AL.Policy.slP (((findR (leftT (madeT l) ((List.getD (madeT l) q tokd).1)) (List.getD (namesT (madeT l)) i [])).1).2.2))], tc (bo ((findR (leftT (madeT l) ((List.getD (madeT l) q tokd).1)) (List.getD (namesT (madeT l)) i [])).2))]) (ofH [])] 184 [(5, vp 5 0), (6, vc (AL.Fnv.slS (namesT (madeT l)))), (10, vc (st ((List.getD (madeT l) q tokd).1))), (11, vp 11 0), (14, vc (i6 (i : Int))), (15, vp 15 0), (18, vc (bo b)), (20, vp 20 0), (21, vc (bo ((findR (leftT (madeT l) ((List.getD (madeT l) q tokd).1)) (List.getD (namesT (madeT l)) i [])).2)))] [(5, AObj.row [.s (slT (madeT l))]), (11, AObj.row [.s (slT (leftT (madeT l) ((List.getD (madeT l) q tokd).1)))]), (15, AObj.row [.s (st ((List.getD (madeT l) i tokd).1)), .s (st ((List.getD (madeT l) i tokd).2.1)), .s (AL.Policy.slP ((List.getD (madeT l) i tokd).2.2))]), (20, AObj.row [.s (st (((findR (leftT (madeT l) ((List.getD (madeT l) q tokd).1)) (List.getD (namesT (madeT l)) i [])).1).1)), .s (st (((findR (leftT (madeT l) ((List.getD (madeT l) q tokd).1)) (List.getD (namesT (madeT l)) i [])).1).2.1)), .s (AL.Policy.slP (((findR (leftT (madeT l) ((List.getD (madeT l) q tokd).1)) (List.getD (namesT (madeT l)) i [])).1).2.2))])] mixed ⟨(by first | omega | (have z1 := (made_goodA l).few; have z2 := (over_tok hc1).1; have z3 := names_len (madeT l); first | omega | (have z4 := hmo hn.1 hc2; first | omega | (have z5 := left_gone (s := madeT l) ((List.getD (madeT l) q tokd).1); rw [names_len]; omega) | (have z5 := left_gone (s := madeT l) ((List.getD (madeT l) q tokd).1); omega)))), (by first | omega | (have z1 := (made_goodA l).few; have z2 := (over_tok hc1).1; have z3 := names_len (madeT l); first | omega | (have z4 := hmo hn.1 hc2; first | omega | (have z5 := left_gone (s := madeT l) ((List.getD (madeT l) q tokd).1); rw [names_len]; omega) | (have z5 := left_gone (s := madeT l) ((List.getD (madeT l) q tokd).1); omega)))), (Find_c (leftT (madeT l) ((List.getD (madeT l) q tokd).1)) (List.getD (namesT (madeT l)) i []) (by first | exact (made_goodA l).rise | exact left_sort (made_goodA l).rise _) (by first | omega | (have z1 := (made_goodA l).few; have z2 := (over_tok hc1).1; have z3 := names_len (madeT l); first | omega | (have z4 := hmo hn.1 hc2; first | omega | (have z5 := left_gone (s := madeT l) ((List.getD (madeT l) q tokd).1); rw [names_len]; omega) | (have z5 := left_gone (s := madeT l) ((List.getD (madeT l) q tokd).1); omega)))) (by first | exact wf_rules (made_goodA l).wf | exact wf_rules (left_wf (made_goodA l).wf (made_goodA l).rise _)))⟩ ?_
      rw [show (findR (leftT (madeT l) ((List.getD (madeT l) q tokd).1)) (List.getD (namesT (madeT l)) i [])).1 = (if goneS (madeT l) (List.getD (madeT l) i tokd) ((List.getD (madeT l) q tokd).1) = true then tokd else (List.getD (madeT l) i tokd)) from by rw [names_at (by omega)]; exact (find_left2 hG.rise _ (Lib.getD_mem tokd _ _ (by omega))).1]
      rw [show (findR (leftT (madeT l) ((List.getD (madeT l) q tokd).1)) (List.getD (namesT (madeT l)) i [])).2 = !(goneS (madeT l) (List.getD (madeT l) i tokd) ((List.getD (madeT l) q tokd).1)) from by rw [names_at (by omega)]; exact (find_left2 hG.rise _ (Lib.getD_mem tokd _ _ (by omega))).2]
      refine gS [(23, CE.call [] [] (vc (bo (decide ((if goneS (madeT l) (List.getD (madeT l) i tokd) ((List.getD (madeT l) q tokd).1) = true then tokd else (List.getD (madeT l) i tokd)).2.2 = (List.getD (madeT l) i tokd).2.2)))) [])] [(((!(goneS (madeT l) (List.getD (madeT l) i tokd) ((List.getD (madeT l) q tokd).1))) == b) = false) → allP [((!(goneS (madeT l) (List.getD (madeT l) i tokd) ((List.getD (madeT l) q tokd).1))) == b) = false], ((((!(goneS (madeT l) (List.getD (madeT l) i tokd) ((List.getD (madeT l) q tokd).1))) == b) = false) ∧ (!(goneS (madeT l) (List.getD (madeT l) i tokd) ((List.getD (madeT l) q tokd).1))) = true) → allP [(((!(goneS (madeT l) (List.getD (madeT l) i tokd) ((List.getD (madeT l) q tokd).1))) == b) = false) ∧ (!(goneS (madeT l) (List.getD (madeT l) i tokd) ((List.getD (madeT l) q tokd).1))) = true], ((((!(goneS (madeT l) (List.getD (madeT l) i tokd) ((List.getD (madeT l) q tokd).1))) == b) = false) ∧ (!(goneS (madeT l) (List.getD (madeT l) i tokd) ((List.getD (madeT l) q tokd).1))) = true) → allP [(((!(goneS (madeT l) (List.getD (madeT l) i tokd) ((List.getD (madeT l) q tokd).1))) == b) = false) ∧ (!(goneS (madeT l) (List.getD (madeT l) i tokd) ((List.getD (madeT l) q tokd).1))) = true], ((((!(goneS (madeT l) (List.getD (madeT l) i tokd) ((List.getD (madeT l) q tokd).1))) == b) = false) ∧ (!(goneS (madeT l) (List.getD (madeT l) i tokd) ((List.getD (madeT l) q tokd).1))) = true) → allP [(((!(goneS (madeT l) (List.getD (madeT l) i tokd) ((List.getD (madeT l) q tokd).1))) == b) = false) ∧ (!(goneS (madeT l) (List.getD (madeT l) i tokd) ((List.getD (madeT l) q tokd).1))) = true, (((!(goneS (madeT l) (List.getD (madeT l) i tokd) ((List.getD (madeT l) q tokd).1))) == b) = false) ∧ (!(goneS (madeT l) (List.getD (madeT l) i tokd) ((List.getD (madeT l) q tokd).1))) = true], ((((!(goneS (madeT l) (List.getD (madeT l) i tokd) ((List.getD (madeT l) q tokd).1))) == b) = false) ∧ (!(goneS (madeT l) (List.getD (madeT l) i tokd) ((List.getD (madeT l) q tokd).1))) = true) → allP [(((!(goneS (madeT l) (List.getD (madeT l) i tokd) ((List.getD (madeT l) q tokd).1))) == b) = false) ∧ (!(goneS (madeT l) (List.getD (madeT l) i tokd) ((List.getD (madeT l) q tokd).1))) = true], (((((!(goneS (madeT l) (List.getD (madeT l) i tokd) ((List.getD (madeT l) q tokd).1))) == b) = false) ∧ (!(goneS (madeT l) (List.getD (madeT l) i tokd) ((List.getD (madeT l) q tokd).1))) = true) ∧ (!decide ((if goneS (madeT l) (List.getD (madeT l) i tokd) ((List.getD (madeT l) q tokd).1) = true then tokd else (List.getD (madeT l) i tokd)).1 = (List.getD (madeT l) i tokd).1)) = false) → allP [((((!(goneS (madeT l) (List.getD (madeT l) i tokd) ((List.getD (madeT l) q tokd).1))) == b) = false) ∧ (!(goneS (madeT l) (List.getD (madeT l) i tokd) ((List.getD (madeT l) q tokd).1))) = true) ∧ (!decide ((if goneS (madeT l) (List.getD (madeT l) i tokd) ((List.getD (madeT l) q tokd).1) = true then tokd else (List.getD (madeT l) i tokd)).1 = (List.getD (madeT l) i tokd).1)) = false], (((((!(goneS (madeT l) (List.getD (madeT l) i tokd) ((List.getD (madeT l) q tokd).1))) == b) = false) ∧ (!(goneS (madeT l) (List.getD (madeT l) i tokd) ((List.getD (madeT l) q tokd).1))) = true) ∧ (!decide ((if goneS (madeT l) (List.getD (madeT l) i tokd) ((List.getD (madeT l) q tokd).1) = true then tokd else (List.getD (madeT l) i tokd)).1 = (List.getD (madeT l) i tokd).1)) = false) → allP [((((!(goneS (madeT l) (List.getD (madeT l) i tokd) ((List.getD (madeT l) q tokd).1))) == b) = false) ∧ (!(goneS (madeT l) (List.getD (madeT l) i tokd) ((List.getD (madeT l) q tokd).1))) = true) ∧ (!decide ((if goneS (madeT l) (List.getD (madeT l) i tokd) ((List.getD (madeT l) q tokd).1) = true then tokd else (List.getD (madeT l) i tokd)).1 = (List.getD (madeT l) i tokd).1)) = false], (((((!(goneS (madeT l) (List.getD (madeT l) i tokd) ((List.getD (madeT l) q tokd).1))) == b) = false) ∧ (!(goneS (madeT l) (List.getD (madeT l) i tokd) ((List.getD (madeT l) q tokd).1))) = true) ∧ (!decide ((if goneS (madeT l) (List.getD (madeT l) i tokd) ((List.getD (madeT l) q tokd).1) = true then tokd else (List.getD (madeT l) i tokd)).1 = (List.getD (madeT l) i tokd).1)) = false) → allP [((((!(goneS (madeT l) (List.getD (madeT l) i tokd) ((List.getD (madeT l) q tokd).1))) == b) = false) ∧ (!(goneS (madeT l) (List.getD (madeT l) i tokd) ((List.getD (madeT l) q tokd).1))) = true) ∧ (!decide ((if goneS (madeT l) (List.getD (madeT l) i tokd) ((List.getD (madeT l) q tokd).1) = true then tokd else (List.getD (madeT l) i tokd)).1 = (List.getD (madeT l) i tokd).1)) = false, ((((!(goneS (madeT l) (List.getD (madeT l) i tokd) ((List.getD (madeT l) q tokd).1))) == b) = false) ∧ (!(goneS (madeT l) (List.getD (madeT l) i tokd) ((List.getD (madeT l) q tokd).1))) = true) ∧ (!decide ((if goneS (madeT l) (List.getD (madeT l) i tokd) ((List.getD (madeT l) q tokd).1) = true then tokd else (List.getD (madeT l) i tokd)).1 = (List.getD (madeT l) i tokd).1)) = false], ((((!(goneS (madeT l) (List.getD (madeT l) i tokd) ((List.getD (madeT l) q tokd).1))) == b) = false) ∧ (!(goneS (madeT l) (List.getD (madeT l) i tokd) ((List.getD (madeT l) q tokd).1))) = true) → allP [(((!(goneS (madeT l) (List.getD (madeT l) i tokd) ((List.getD (madeT l) q tokd).1))) == b) = false) ∧ (!(goneS (madeT l) (List.getD (madeT l) i tokd) ((List.getD (madeT l) q tokd).1))) = true, (!decide ((if goneS (madeT l) (List.getD (madeT l) i tokd) ((List.getD (madeT l) q tokd).1) = true then tokd else (List.getD (madeT l) i tokd)).1 = (List.getD (madeT l) i tokd).1)) = false → allP [((((!(goneS (madeT l) (List.getD (madeT l) i tokd) ((List.getD (madeT l) q tokd).1))) == b) = false) ∧ (!(goneS (madeT l) (List.getD (madeT l) i tokd) ((List.getD (madeT l) q tokd).1))) = true) ∧ (!decide ((if goneS (madeT l) (List.getD (madeT l) i tokd) ((List.getD (madeT l) q tokd).1) = true then tokd else (List.getD (madeT l) i tokd)).1 = (List.getD (madeT l) i tokd).1)) = false]], ((((!(goneS (madeT l) (List.getD (madeT l) i tokd) ((List.getD (madeT l) q tokd).1))) == b) = false) ∧ (!(goneS (madeT l) (List.getD (madeT l) i tokd) ((List.getD (madeT l) q tokd).1))) = true) → allP [(((!(goneS (madeT l) (List.getD (madeT l) i tokd) ((List.getD (madeT l) q tokd).1))) == b) = false) ∧ (!(goneS (madeT l) (List.getD (madeT l) i tokd) ((List.getD (madeT l) q tokd).1))) = true], (((((!(goneS (madeT l) (List.getD (madeT l) i tokd) ((List.getD (madeT l) q tokd).1))) == b) = false) ∧ (!(goneS (madeT l) (List.getD (madeT l) i tokd) ((List.getD (madeT l) q tokd).1))) = true) ∧ ((!decide ((if goneS (madeT l) (List.getD (madeT l) i tokd) ((List.getD (madeT l) q tokd).1) = true then tokd else (List.getD (madeT l) i tokd)).1 = (List.getD (madeT l) i tokd).1)) || (!decide ((if goneS (madeT l) (List.getD (madeT l) i tokd) ((List.getD (madeT l) q tokd).1) = true then tokd else (List.getD (madeT l) i tokd)).2.1 = (List.getD (madeT l) i tokd).2.1))) = false) → allP [((((!(goneS (madeT l) (List.getD (madeT l) i tokd) ((List.getD (madeT l) q tokd).1))) == b) = false) ∧ (!(goneS (madeT l) (List.getD (madeT l) i tokd) ((List.getD (madeT l) q tokd).1))) = true) ∧ ((!decide ((if goneS (madeT l) (List.getD (madeT l) i tokd) ((List.getD (madeT l) q tokd).1) = true then tokd else (List.getD (madeT l) i tokd)).1 = (List.getD (madeT l) i tokd).1)) || (!decide ((if goneS (madeT l) (List.getD (madeT l) i tokd) ((List.getD (madeT l) q tokd).1) = true then tokd else (List.getD (madeT l) i tokd)).2.1 = (List.getD (madeT l) i tokd).2.1))) = false], (((((!(goneS (madeT l) (List.getD (madeT l) i tokd) ((List.getD (madeT l) q tokd).1))) == b) = false) ∧ (!(goneS (madeT l) (List.getD (madeT l) i tokd) ((List.getD (madeT l) q tokd).1))) = true) ∧ ((!decide ((if goneS (madeT l) (List.getD (madeT l) i tokd) ((List.getD (madeT l) q tokd).1) = true then tokd else (List.getD (madeT l) i tokd)).1 = (List.getD (madeT l) i tokd).1)) || (!decide ((if goneS (madeT l) (List.getD (madeT l) i tokd) ((List.getD (madeT l) q tokd).1) = true then tokd else (List.getD (madeT l) i tokd)).2.1 = (List.getD (madeT l) i tokd).2.1))) = false) → allP [((((!(goneS (madeT l) (List.getD (madeT l) i tokd) ((List.getD (madeT l) q tokd).1))) == b) = false) ∧ (!(goneS (madeT l) (List.getD (madeT l) i tokd) ((List.getD (madeT l) q tokd).1))) = true) ∧ ((!decide ((if goneS (madeT l) (List.getD (madeT l) i tokd) ((List.getD (madeT l) q tokd).1) = true then tokd else (List.getD (madeT l) i tokd)).1 = (List.getD (madeT l) i tokd).1)) || (!decide ((if goneS (madeT l) (List.getD (madeT l) i tokd) ((List.getD (madeT l) q tokd).1) = true then tokd else (List.getD (madeT l) i tokd)).2.1 = (List.getD (madeT l) i tokd).2.1))) = false], (((((!(goneS (madeT l) (List.getD (madeT l) i tokd) ((List.getD (madeT l) q tokd).1))) == b) = false) ∧ (!(goneS (madeT l) (List.getD (madeT l) i tokd) ((List.getD (madeT l) q tokd).1))) = true) ∧ ((!decide ((if goneS (madeT l) (List.getD (madeT l) i tokd) ((List.getD (madeT l) q tokd).1) = true then tokd else (List.getD (madeT l) i tokd)).1 = (List.getD (madeT l) i tokd).1)) || (!decide ((if goneS (madeT l) (List.getD (madeT l) i tokd) ((List.getD (madeT l) q tokd).1) = true then tokd else (List.getD (madeT l) i tokd)).2.1 = (List.getD (madeT l) i tokd).2.1))) = false) → allP [((((!(goneS (madeT l) (List.getD (madeT l) i tokd) ((List.getD (madeT l) q tokd).1))) == b) = false) ∧ (!(goneS (madeT l) (List.getD (madeT l) i tokd) ((List.getD (madeT l) q tokd).1))) = true) ∧ ((!decide ((if goneS (madeT l) (List.getD (madeT l) i tokd) ((List.getD (madeT l) q tokd).1) = true then tokd else (List.getD (madeT l) i tokd)).1 = (List.getD (madeT l) i tokd).1)) || (!decide ((if goneS (madeT l) (List.getD (madeT l) i tokd) ((List.getD (madeT l) q tokd).1) = true then tokd else (List.getD (madeT l) i tokd)).2.1 = (List.getD (madeT l) i tokd).2.1))) = false, ((((!(goneS (madeT l) (List.getD (madeT l) i tokd) ((List.getD (madeT l) q tokd).1))) == b) = false) ∧ (!(goneS (madeT l) (List.getD (madeT l) i tokd) ((List.getD (madeT l) q tokd).1))) = true) ∧ ((!decide ((if goneS (madeT l) (List.getD (madeT l) i tokd) ((List.getD (madeT l) q tokd).1) = true then tokd else (List.getD (madeT l) i tokd)).1 = (List.getD (madeT l) i tokd).1)) || (!decide ((if goneS (madeT l) (List.getD (madeT l) i tokd) ((List.getD (madeT l) q tokd).1) = true then tokd else (List.getD (madeT l) i tokd)).2.1 = (List.getD (madeT l) i tokd).2.1))) = false, Spec Tryz.prog 29 [tc (AL.Policy.slP ((if goneS (madeT l) (List.getD (madeT l) i tokd) ((List.getD (madeT l) q tokd).1) = true then tokd else (List.getD (madeT l) i tokd)).2.2)), tc (AL.Policy.slP ((List.getD (madeT l) i tokd).2.2))] (ofH []) (vc (bo (decide ((if goneS (madeT l) (List.getD (madeT l) i tokd) ((List.getD (madeT l) q tokd).1) = true then tokd else (List.getD (madeT l) i tokd)).2.2 = (List.getD (madeT l) i tokd).2.2)))) (ofH [])], (((((!(goneS (madeT l) (List.getD (madeT l) i tokd) ((List.getD (madeT l) q tokd).1))) == b) = false) ∧ (!(goneS (madeT l) (List.getD (madeT l) i tokd) ((List.getD (madeT l) q tokd).1))) = true) ∧ ((!decide ((if goneS (madeT l) (List.getD (madeT l) i tokd) ((List.getD (madeT l) q tokd).1) = true then tokd else (List.getD (madeT l) i tokd)).1 = (List.getD (madeT l) i tokd).1)) || (!decide ((if goneS (madeT l) (List.getD (madeT l) i tokd) ((List.getD (madeT l) q tokd).1) = true then tokd else (List.getD (madeT l) i tokd)).2.1 = (List.getD (madeT l) i tokd).2.1))) = false) → allP [((((!(goneS (madeT l) (List.getD (madeT l) i tokd) ((List.getD (madeT l) q tokd).1))) == b) = false) ∧ (!(goneS (madeT l) (List.getD (madeT l) i tokd) ((List.getD (madeT l) q tokd).1))) = true) ∧ ((!decide ((if goneS (madeT l) (List.getD (madeT l) i tokd) ((List.getD (madeT l) q tokd).1) = true then tokd else (List.getD (madeT l) i tokd)).1 = (List.getD (madeT l) i tokd).1)) || (!decide ((if goneS (madeT l) (List.getD (madeT l) i tokd) ((List.getD (madeT l) q tokd).1) = true then tokd else (List.getD (madeT l) i tokd)).2.1 = (List.getD (madeT l) i tokd).2.1))) = false], ((((!(goneS (madeT l) (List.getD (madeT l) i tokd) ((List.getD (madeT l) q tokd).1))) == b) = false) ∧ (!(goneS (madeT l) (List.getD (madeT l) i tokd) ((List.getD (madeT l) q tokd).1))) = true) → allP [(((!(goneS (madeT l) (List.getD (madeT l) i tokd) ((List.getD (madeT l) q tokd).1))) == b) = false) ∧ (!(goneS (madeT l) (List.getD (madeT l) i tokd) ((List.getD (madeT l) q tokd).1))) = true, ((!decide ((if goneS (madeT l) (List.getD (madeT l) i tokd) ((List.getD (madeT l) q tokd).1) = true then tokd else (List.getD (madeT l) i tokd)).1 = (List.getD (madeT l) i tokd).1)) || (!decide ((if goneS (madeT l) (List.getD (madeT l) i tokd) ((List.getD (madeT l) q tokd).1) = true then tokd else (List.getD (madeT l) i tokd)).2.1 = (List.getD (madeT l) i tokd).2.1))) = false → allP [((((!(goneS (madeT l) (List.getD (madeT l) i tokd) ((List.getD (madeT l) q tokd).1))) == b) = false) ∧ (!(goneS (madeT l) (List.getD (madeT l) i tokd) ((List.getD (madeT l) q tokd).1))) = true) ∧ ((!decide ((if goneS (madeT l) (List.getD (madeT l) i tokd) ((List.getD (madeT l) q tokd).1) = true then tokd else (List.getD (madeT l) i tokd)).1 = (List.getD (madeT l) i tokd).1)) || (!decide ((if goneS (madeT l) (List.getD (madeT l) i tokd) ((List.getD (madeT l) q tokd).1) = true then tokd else (List.getD (madeT l) i tokd)).2.1 = (List.getD (madeT l) i tokd).2.1))) = false]], (((!(goneS (madeT l) (List.getD (madeT l) i tokd) ((List.getD (madeT l) q tokd).1))) == b) = false) → allP [((!(goneS (madeT l) (List.getD (madeT l) i tokd) ((List.getD (madeT l) q tokd).1))) == b) = false, (!(goneS (madeT l) (List.getD (madeT l) i tokd) ((List.getD (madeT l) q tokd).1))) = true → allP [(((!(goneS (madeT l) (List.getD (madeT l) i tokd) ((List.getD (madeT l) q tokd).1))) == b) = false) ∧ (!(goneS (madeT l) (List.getD (madeT l) i tokd) ((List.getD (madeT l) q tokd).1))) = true]], ((!(goneS (madeT l) (List.getD (madeT l) i tokd) ((List.getD (madeT l) q tokd).1))) == b) = false → allP [((!(goneS (madeT l) (List.getD (madeT l) i tokd) ((List.getD (madeT l) q tokd).1))) == b) = false]] 184 [(5, vp 5 0), (6, vc (AL.Fnv.slS (namesT (madeT l)))), (10, vc (st ((List.getD (madeT l) q tokd).1))), (11, vp 11 0), (14, vc (i6 (i : Int))), (161, vc (bo (((!(goneS (madeT l) (List.getD (madeT l) i tokd) ((List.getD (madeT l) q tokd).1))) == b) || ((!(goneS (madeT l) (List.getD (madeT l) i tokd) ((List.getD (madeT l) q tokd).1))) && (((!decide ((if goneS (madeT l) (List.getD (madeT l) i tokd) ((List.getD (madeT l) q tokd).1) = true then tokd else (List.getD (madeT l) i tokd)).1 = (List.getD (madeT l) i tokd).1)) || (!decide ((if goneS (madeT l) (List.getD (madeT l) i tokd) ((List.getD (madeT l) q tokd).1) = true then tokd else (List.getD (madeT l) i tokd)).2.1 = (List.getD (madeT l) i tokd).2.1))) || (!(decide ((if goneS (madeT l) (List.getD (madeT l) i tokd) ((List.getD (madeT l) q tokd).1) = true then tokd else (List.getD (madeT l) i tokd)).2.2 = (List.getD (madeT l) i tokd).2.2))))))))] [(5, AObj.row [.s (slT (madeT l))]), (11, AObj.row [.s (slT (leftT (madeT l) ((List.getD (madeT l) q tokd).1)))])] ⟨(fun hp => hp), (fun hp => hp), (fun hp => hp), (fun hp => ⟨hp, hp⟩), (fun hp => hp), (fun hp => hp), (fun hp => hp), (fun hp => ⟨hp, hp⟩), (fun hp => by have hq := hp; (try simp only [xT, xF, xA, xO, xB, xP, xN, xM, Bool.not_eq_true, Bool.not_eq_false] at hq); exact ⟨hp, (fun hp2 => (by first | exact hp2 | exact ⟨hp, hp2⟩))⟩), (fun hp => hp), (fun hp => hp), (fun hp => hp), (fun hp => by have hq := hp; (try simp only [xT, xF, xA, xO, xB, xP, xN, xM, Bool.not_eq_true, Bool.not_eq_false] at hq); exact ⟨hp, hp, (Policy.Same_c ((if goneS (madeT l) (List.getD (madeT l) i tokd) ((List.getD (madeT l) q tokd).1) = true then tokd else (List.getD (madeT l) i tokd)).2.2) ((List.getD (madeT l) i tokd).2.2))⟩), (fun hp => hp), (fun hp => by have hq := hp; (try simp only [xT, xF, xA, xO, xB, xP, xN, xM, Bool.not_eq_true, Bool.not_eq_false] at hq); exact ⟨hp, (fun hp2 => (by first | exact hp2 | exact ⟨hp, hp2⟩))⟩), (fun hp => by have hq := hp; (try simp only [xT, xF, xA, xO, xB, xP, xN, xM, Bool.not_eq_true, Bool.not_eq_false] at hq); exact ⟨hp, (fun hp2 => (by first | exact hp2 | exact ⟨hp, hp2⟩))⟩), (fun hp2 => (by first | exact hp2 | exact ⟨hp, hp2⟩))⟩ ?_
      refine gB ((((!(goneS (madeT l) (List.getD (madeT l) i tokd) ((List.getD (madeT l) q tokd).1))) == b) || ((!(goneS (madeT l) (List.getD (madeT l) i tokd) ((List.getD (madeT l) q tokd).1))) && (((!decide ((if goneS (madeT l) (List.getD (madeT l) i tokd) ((List.getD (madeT l) q tokd).1) = true then tokd else (List.getD (madeT l) i tokd)).1 = (List.getD (madeT l) i tokd).1)) || (!decide ((if goneS (madeT l) (List.getD (madeT l) i tokd) ((List.getD (madeT l) q tokd).1) = true then tokd else (List.getD (madeT l) i tokd)).2.1 = (List.getD (madeT l) i tokd).2.1))) || (!(decide ((if goneS (madeT l) (List.getD (madeT l) i tokd) ((List.getD (madeT l) q tokd).1) = true then tokd else (List.getD (madeT l) i tokd)).2.2 = (List.getD (madeT l) i tokd).2.2))))))) (fun hc6 => ?_) fun hc6 => ?_
      ·
       try simp only [xT, xF, xA, xB, xO, xP, xN, xM] at hc6
       refine gS [] [] 184 [(4, vc (bo false))] [] trivial ?_
       exact gT (vc (bo false)) (by exfalso; have hz := hc6; have hb := mine_end hG.wf hG.rise hN (Lib.getD_mem tokd _ _ (by omega)) (by omega) hc5; rw [hb] at hz; revert hz; generalize goneS (madeT l) (List.getD (madeT l) i tokd) ((List.getD (madeT l) q tokd).1) = g; generalize (List.getD (madeT l) i tokd) = x; cases g <;> simp)
      ·
       try simp only [xT, xF, xA, xB, xO, xP, xN, xM] at hc6
       refine AMx.skip ?_
       refine AMx.blk ?_
       refine gR [] [InR .i64 ((i : Int) + 1)] 184 [(5, vp 5 0), (6, vc (AL.Fnv.slS (namesT (madeT l)))), (10, vc (st ((List.getD (madeT l) q tokd).1))), (11, vp 11 0), (14, vc (i6 ((i : Int) + 1)))] [(5, AObj.row [.s (slT (madeT l))]), (11, AObj.row [.s (slT (leftT (madeT l) ((List.getD (madeT l) q tokd).1)))])] (show InR .i64 ((i : Int) + 1) from (inR64 (by first | omega | (have z1 := (made_goodA l).few; have z2 := (over_tok hc1).1; have z3 := names_len (madeT l); first | omega | (have z4 := hmo hn.1 hc2; first | omega | (have z5 := left_gone (s := madeT l) ((List.getD (madeT l) q tokd).1); rw [names_len]; omega) | (have z5 := left_gone (s := madeT l) ((List.getD (madeT l) q tokd).1); omega)))) (by first | omega | (have z1 := (made_goodA l).few; have z2 := (over_tok hc1).1; have z3 := names_len (madeT l); first | omega | (have z4 := hmo hn.1 hc2; first | omega | (have z5 := left_gone (s := madeT l) ((List.getD (madeT l) q tokd).1); rw [names_len]; omega) | (have z5 := left_gone (s := madeT l) ((List.getD (madeT l) q tokd).1); omega)))))) ?_
       refine AMx.ent_inv (s' := AS.lst 184 [(5, vp 5 0), (6, vc (AL.Fnv.slS (namesT (madeT l)))), (10, vc (st ((List.getD (madeT l) q tokd).1))), (11, vp 11 0), (14, vc (i6 ((i : Int) + 1)))] [(5, AObj.row [.s (slT (madeT l))]), (11, AObj.row [.s (slT (leftT (madeT l) ((List.getD (madeT l) q tokd).1)))])]) (ent_proj [5, 6, 10, 11, 14] [5, 11]) ?_
       refine AMx.inv ⟨_, ?_, i + 1, ?_, rfl, ?_⟩
       rotate_left
       · omega
       · rfl
       · omega
    ·
     refine AMx.exit ?_
     refine AMx.code_exit ?_
     refine AMx.inv_exit ?_
     refine AMx.blk_exit ?_
     refine gS [(2, CE.call [] [] (AV.tup [TV.agg [.s (slT ((revokeT (leftT (madeT l) ((List.getD (madeT l) q tokd).1)) ((List.getD (madeT l) q tokd).1)).1))], tc (AL.Fnv.slS ((revokeT (leftT (madeT l) ((List.getD (madeT l) q tokd).1)) ((List.getD (madeT l) q tokd).1)).2.1)), tc (i6 ((revokeT (leftT (madeT l) ((List.getD (madeT l) q tokd).1)) ((List.getD (madeT l) q tokd).1)).2.2))]) [])] [Spec Tryz.prog 16 [TV.agg [.s (slT (leftT (madeT l) ((List.getD (madeT l) q tokd).1)))], tc (st ((List.getD (madeT l) q tokd).1))] (ofH []) (AV.tup [TV.agg [.s (slT ((revokeT (leftT (madeT l) ((List.getD (madeT l) q tokd).1)) ((List.getD (madeT l) q tokd).1)).1))], tc (AL.Fnv.slS ((revokeT (leftT (madeT l) ((List.getD (madeT l) q tokd).1)) ((List.getD (madeT l) q tokd).1)).2.1)), tc (i6 ((revokeT (leftT (madeT l) ((List.getD (madeT l) q tokd).1)) ((List.getD (madeT l) q tokd).1)).2.2))]) (ofH [])] 184 [(11, vp 11 0), (22, vp 22 0), (23, vc (AL.Fnv.slS ((revokeT (leftT (madeT l) ((List.getD (madeT l) q tokd).1)) ((List.getD (madeT l) q tokd).1)).2.1))), (24, vc (i6 ((revokeT (leftT (madeT l) ((List.getD (madeT l) q tokd).1)) ((List.getD (madeT l) q tokd).1)).2.2)))] [(11, AObj.row [.s (slT (leftT (madeT l) ((List.getD (madeT l) q tokd).1)))]), (22, AObj.row [.s (slT ((revokeT (leftT (madeT l) ((List.getD (madeT l) q tokd).1)) ((List.getD (madeT l) q tokd).1)).1))])] (Revoke_c (leftT (madeT l) ((List.getD (madeT l) q tokd).1)) ((List.getD (madeT l) q tokd).1) (by first | exact (made_goodA l).wf | exact left_wf (made_goodA l).wf (made_goodA l).rise _) (by first | exact (made_goodA l).rise | exact left_sort (made_goodA l).rise _) (by first | omega | (have z1 := (made_goodA l).few; have z2 := (over_tok hc1).1; have z3 := names_len (madeT l); first | omega | (have z4 := hmo hn.1 hc2; first | omega | (have z5 := left_gone (s := madeT l) ((List.getD (madeT l) q tokd).1); rw [names_len]; omega) | (have z5 := left_gone (s := madeT l) ((List.getD (madeT l) q tokd).1); omega))))) ?_
     rw [show (revokeT (leftT (madeT l) ((List.getD (madeT l) q tokd).1)) ((List.getD (madeT l) q tokd).1)).1 = leftT (madeT l) ((List.getD (madeT l) q tokd).1) from by rw [revoke_twice (name_at_found (made_goodA l).rise (hmo hn.1 hc2).2)]]
     rw [show (revokeT (leftT (madeT l) ((List.getD (madeT l) q tokd).1)) ((List.getD (madeT l) q tokd).1)).2.1 = [] from by rw [revoke_twice (name_at_found (made_goodA l).rise (hmo hn.1 hc2).2)]]
     rw [show (revokeT (leftT (madeT l) ((List.getD (madeT l) q tokd).1)) ((List.getD (madeT l) q tokd).1)).2.2 = 6 from by rw [revoke_twice (name_at_found (made_goodA l).rise (hmo hn.1 hc2).2)]]
     refine gS [(10, CE.call [] [] (vc (bo (decide ((leftT (madeT l) ((List.getD (madeT l) q tokd).1)) = (leftT (madeT l) ((List.getD (madeT l) q tokd).1)))))) []), (13, CE.call [] [] (vc (bo true)) [])] [(true = true) → allP [true = true], (true = true) → allP [true = true], true = true → allP [true = true], ((decide ((List.length ([] : List Bytes) : Int) = 0)) = true) → allP [(decide ((List.length ([] : List Bytes) : Int) = 0)) = true, (decide ((List.length ([] : List Bytes) : Int) = 0)) = true, Spec Tryz.prog 19 [TV.agg [.s (slT (leftT (madeT l) ((List.getD (madeT l) q tokd).1)))], TV.agg [.s (slT (leftT (madeT l) ((List.getD (madeT l) q tokd).1)))]] (ofH []) (vc (bo (decide ((leftT (madeT l) ((List.getD (madeT l) q tokd).1)) = (leftT (madeT l) ((List.getD (madeT l) q tokd).1)))))) (ofH [])], (decide ((List.length ([] : List Bytes) : Int) = 0)) = true → allP [(decide ((List.length ([] : List Bytes) : Int) = 0)) = true], (((decide ((List.length ([] : List Bytes) : Int) = 0)) && (decide ((leftT (madeT l) ((List.getD (madeT l) q tokd).1)) = (leftT (madeT l) ((List.getD (madeT l) q tokd).1))))) = true) → allP [Spec Tryz.prog 10 [] (ofH []) (vc (bo true)) (ofH [])], ((decide ((List.length ([] : List Bytes) : Int) = 0)) && (decide ((leftT (madeT l) ((List.getD (madeT l) q tokd).1)) = (leftT (madeT l) ((List.getD (madeT l) q tokd).1))))) = true → allP [((decide ((List.length ([] : List Bytes) : Int) = 0)) && (decide ((leftT (madeT l) ((List.getD (madeT l) q tokd).1)) = (leftT (madeT l) ((List.getD (madeT l) q tokd).1))))) = true]] 184 [(4, vc (bo (((decide ((List.length ([] : List Bytes) : Int) = 0)) && (decide ((leftT (madeT l) ((List.getD (madeT l) q tokd).1)) = (leftT (madeT l) ((List.getD (madeT l) q tokd).1))))) && true)))] [] ⟨(fun hp => hp), (fun hp => hp), (fun hp2 => (by first | exact hp2 | exact ⟨hp, hp2⟩)), (fun hp => by have hq := hp; (try simp only [xT, xF, xA, xO, xB, xP, xN, xM, Bool.not_eq_true, Bool.not_eq_false] at hq); exact ⟨hp, hp, (Same_c (leftT (madeT l) ((List.getD (madeT l) q tokd).1)) (leftT (madeT l) ((List.getD (madeT l) q tokd).1)))⟩), (fun hp2 => (by first | exact hp2 | exact ⟨hp, hp2⟩)), (fun hp => by have hq := hp; (try simp only [xT, xF, xA, xO, xB, xP, xN, xM, Bool.not_eq_true, Bool.not_eq_false] at hq); exact (awake_c)), (fun hp2 => (by first | exact hp2 | exact ⟨hp, hp2⟩))⟩ ?_
     exact gT (vc (bo (((decide ((List.length ([] : List Bytes) : Int) = 0)) && (decide ((leftT (madeT l) ((List.getD (madeT l) q tokd).1)) = (leftT (madeT l) ((List.getD (madeT l) q tokd).1))))) && true))) (congrArg (fun b => vc (bo b)) (show (((decide ((List.length ([] : List Bytes) : Int) = 0)) && (decide ((leftT (madeT l) ((List.getD (madeT l) q tokd).1)) = (leftT (madeT l) ((List.getD (madeT l) q tokd).1))))) && true) = true from by simp))
end AL.Token
namespace AL
open Go
set_option linter.unusedVariables false
theorem len_sized {P : Program} {H : Type} {enc : TypeId × Value → H} {w : World} {spare : Nat → Bool} {held : Bool} {t e : TypeId} {ts : List TypeId} {ds : List (DataW H)} {d : DataW H} {ps : List MemPlace} {a : Option Addr} {n cap : Nat}
    (hz : (DataW.weightsEach P ts ds).all (· ≤ reachBytes) = true) (j : Nat) (ht : ts[j]? = some t) (hd : ds[j]? = some d) (hu : P.underlying t = some (.slice e)) (h : DataW.Trod enc P w 0 spare held t (.slice a n cap) d ps) :
    n * P.bytesOf e ≤ 140737488351232 := by
  obtain ⟨fuel, hf⟩ := h
  have hc : (Value.slice a n cap).cells.toList = [Value.slice a n cap] := rfl
  rw [hc] at hf
  rcases DataW.trod_slice hu hf with ⟨h1, _⟩ | ⟨a', len, cap', elems, rest, m, _, h1, h2, _, _, _, hl, _⟩
  · cases h1
    omega
  · cases h1
    have hd' : d = .slice (elems.map (·.1)) (rest.map (·.1)) := (Prod.mk.inj h2).1
    subst hd'
    have := sized_slice hz ht hd hu
    rw [List.length_map, List.length_map, hl, Nat.add_mul] at this
    have hr : reachBytes = 140737488351232 := by decide
    omega
theorem sl_len {I : Nat → Prop} {w : World} {k : Nat} {α : Type} {d : α} {row : α → Nat → SC} {l : List α} {a : Option Addr} {n cap : Nat} (h : MS I w (.sl k α d row l) (.slice a n cap)) : n = l.length := by
  obtain ⟨a', cap', h1, _⟩ := h
  cases h1; rfl
end AL
namespace AL
open Go Go.Proofs Go.RowKit
set_option linter.unusedVariables false
theorem x8 : U8Extra Tryz.prog Tryz.lays260_ren := ⟨by kernel_rfl, by kernel_rfl, by kernel_rfl, by kernel_rfl, by kernel_rfl, by kernel_rfl, by kernel_rfl⟩
theorem acc_eq : (Go.Proofs.YtlgmdlckjinfcaaGreatDoor.Rows.laid_unicode_utf8_acceptRanges : DataW Unit) = Go.Lib.acceptData := by kernel_rfl
theorem first_eq : (Go.Proofs.YtlgmdlckjinfcaaGreatDoor.Rows.laid_unicode_utf8_first : DataW Unit) = Go.Lib.firstData := by kernel_rfl
theorem glob_of {W : World} (hT : Go.Lib.Utf8Tabs (Tryz.lays260_ren.g 3) (Tryz.lays260_ren.g 4) W) : GlobOk (Iw W) W :=
  ⟨cell_lt (hT.1 0 (by decide)), cell_lt (hT.2 0 (by decide)).1, hT⟩
end AL
