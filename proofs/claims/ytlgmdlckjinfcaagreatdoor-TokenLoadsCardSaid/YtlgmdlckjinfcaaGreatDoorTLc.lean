/- The proof library and the contracts that the law reaches: joined by a program. No condition. -/
import Derived.Test.YtlgmdlckjinfcaaGreatDoorTLb
namespace AL.Token
open Go AL
open AL.Policy (RuleV rowP slP checkP coversS capsP textP parseP)
open AL.Quill (ScanV rowQ rowB)
set_option linter.unusedVariables false
set_option linter.unusedSimpArgs false
def rowsB (l : List Bytes) : Bytes := l.flatMap rowB
theorem rows_succ (l : List Bytes) (k : Nat) (h : k < l.length) : rowsB (List.take (k + 1) l) = rowsB (List.take k l) ++ rowB (List.getD l k []) := by
  unfold rowsB
  rw [Lib.take_succ [] l k h, List.flatMap_append]; simp
theorem rows_len (l : List Bytes) (k : Nat) (h : k < l.length) : (rowsB (List.take (k + 1) l)).length = (rowsB (List.take k l)).length + (2 + (List.getD l k []).length) := by
  rw [rows_succ l k h, List.length_append, Quill.rowB_len]
theorem rows_le (l : List Bytes) (k : Nat) : (rowsB (List.take k l)).length ≤ (rowsB l).length := by
  conv => rhs; rw [← List.take_append_drop k l]
  unfold rowsB
  rw [List.flatMap_append, List.length_append]; omega
theorem rows_all (l : List Bytes) {k : Nat} (h : l.length ≤ k) : rowsB (List.take k l) = rowsB l := by rw [List.take_of_length_le h]
def splitQ : Nat → ScanV → List Bytes × Int
  | 0, _ => ([], 0)
  | f + 1, x => if x.2.1 < (x.1.length : Int) then (if ¬ (rowQ x).2.2.2 = 0 then ([], (rowQ x).2.2.2) else
      (if (splitQ f (rowQ x).2).2 = 0 then ((rowQ x).1 :: (splitQ f (rowQ x).2).1, 0) else ([], (splitQ f (rowQ x).2).2))) else ([], 0)
def splitR (s : Bytes) : List Bytes × Int := splitQ s.length (s, 0, 0)
def addO (o : List Bytes) (r : List Bytes × Int) : List Bytes × Int := if r.2 = 0 then (o ++ r.1, 0) else ([], r.2)
structure SplI (s : Bytes) (f : Nat) (o : List Bytes) (x : ScanV) : Prop where
  text : x.1 = s
  fine : x.2.2 = 0
  lo : 0 ≤ x.2.1
  hi : x.2.1 ≤ (s.length : Int)
  few : 2 * (o.length : Int) ≤ x.2.1
  fuel : (s.length : Int) - x.2.1 ≤ (f : Int)
  eq : splitR s = addO o (splitQ f x)
theorem split_fine : ∀ (f : Nat) (x : ScanV), ¬ (splitQ f x).2 = 0 → (splitQ f x).1 = []
  | 0, _, h => absurd rfl h
  | f + 1, x, h => by
    unfold splitQ at h ⊢
    split
    · split
      · rfl
      · split
        · rw [if_pos (by assumption), if_neg (by assumption), if_pos (by assumption)] at h
          exact absurd rfl h
        · rfl
    · rfl
theorem spl_0 (s : Bytes) : SplI s s.length [] (s, 0, 0) := by
  refine ⟨rfl, rfl, Int.le_refl _, by dsimp only; omega, by simp, by dsimp only; omega, ?_⟩
  unfold addO
  split
  · rename_i h; unfold splitR; exact Prod.ext rfl h
  · rename_i h; unfold splitR; exact Prod.ext (split_fine _ _ h) rfl
theorem spl_next {s : Bytes} {f : Nat} {o : List Bytes} {x : ScanV} (h : SplI s f o x) (hm : x.2.1 < (x.1.length : Int)) (h0 : (rowQ x).2.2.2 = 0) : SplI s (f - 1) (o ++ [(rowQ x).1]) (rowQ x).2 ∧ 0 < f := by
  obtain ⟨h1, h2, h3, h4, h5, h6, h7⟩ := h
  rcases Quill.row_cases x with ⟨_, q, _⟩ | ⟨_, q2, q3, q4, q5⟩
  · exact absurd h0 q
  · have hf : 0 < f := by rw [h1] at hm; omega
    obtain ⟨g, rfl⟩ : ∃ g, f = g + 1 := ⟨f - 1, by omega⟩
    rw [h1] at q4
    refine ⟨⟨by rw [q3]; exact h1, by rw [q3], by rw [q3]; dsimp only; omega, by rw [q3]; dsimp only; omega, by rw [q3, List.length_append, List.length_singleton]; dsimp only; omega, by rw [q3]; dsimp only; omega, ?_⟩, hf⟩
    rw [h7, splitQ, if_pos hm, if_neg (by omega), Nat.add_sub_cancel]
    unfold addO
    by_cases hz : (splitQ g (rowQ x).2).2 = 0
    · simp [hz]
    · simp [hz]
theorem spl_bad {s : Bytes} {f : Nat} {o : List Bytes} {x : ScanV} (h : SplI s f o x) (hm : x.2.1 < (x.1.length : Int)) (h0 : ¬ (rowQ x).2.2.2 = 0) : splitR s = ([], (rowQ x).2.2.2) := by
  obtain ⟨h1, h2, h3, h4, h5, h6, h7⟩ := h
  have hf : 0 < f := by rw [h1] at hm; omega
  obtain ⟨g, rfl⟩ : ∃ g, f = g + 1 := ⟨f - 1, by omega⟩
  rw [h7, splitQ, if_pos hm, if_pos h0]
  unfold addO
  rw [if_neg h0]
theorem spl_end {s : Bytes} {f : Nat} {o : List Bytes} {x : ScanV} (h : SplI s f o x) (hm : ¬ x.2.1 < (x.1.length : Int)) : splitR s = (o, 0) := by
  obtain ⟨h1, h2, h3, h4, h5, h6, h7⟩ := h
  rw [h7]
  have : splitQ f x = ([], 0) := by
    cases f with
    | zero => rfl
    | succ g => rw [splitQ, if_neg hm]
  rw [this]
  unfold addO
  rw [if_pos rfl, List.append_nil]
theorem split_mem : ∀ (f : Nat) (x : ScanV), ∀ p ∈ (splitQ f x).1, p.length ≤ x.1.length
  | 0, _, p, hp => by cases hp
  | f + 1, x, p, hp => by
    unfold splitQ at hp
    split at hp
    · split at hp
      · cases hp
      · split at hp
        · have e : (rowQ x).2.1 = x.1 := by
            rcases Quill.row_cases x with ⟨_, _, q⟩ | ⟨_, _, q, _⟩
            · exact q
            · rw [q]
          rcases List.mem_cons.1 hp with rfl | hp
          · rcases Quill.row_cases x with ⟨q, _⟩ | ⟨_, q1, _, q2, _⟩
            · rw [q]; exact Nat.zero_le _
            · omega
          · have := split_mem f (rowQ x).2 p hp
            rw [e] at this
            exact this
        · cases hp
    · cases hp
theorem splitR_mem {s p : Bytes} (h : p ∈ (splitR s).1) : p.length ≤ s.length := split_mem _ _ p h
theorem split_rows (a : Bytes) (l : List Bytes) (h : ∀ s ∈ l, s.length < 65536) : ∀ f, l.length ≤ f → splitQ f (a ++ rowsB l, (a.length : Int), 0) = (l, 0) := by
  induction l generalizing a with
  | nil =>
    intro f _
    cases f with
    | zero => rfl
    | succ f => rw [splitQ, if_neg]; simp [rowsB]
  | cons s l ih =>
    intro f hf
    obtain ⟨g, rfl⟩ : ∃ g, f = g + 1 := ⟨f - 1, by rw [List.length_cons] at hf; omega⟩
    have hs := h s (List.mem_cons_self ..)
    have hr : rowsB (s :: l) = rowB s ++ rowsB l := rfl
    have q := Quill.row_lay a s (rowsB l) hs
    have hl : ((a.length : Int)) < ((a ++ (rowB s ++ rowsB l)).length : Int) := by
      rw [List.length_append, List.length_append, Quill.rowB_len]; omega
    have i := ih (a ++ rowB s) (fun t ht => h t (List.mem_cons_of_mem _ ht)) g (by rw [List.length_cons] at hf; omega)
    rw [List.append_assoc] at i
    rw [hr, splitQ, if_pos hl, q, if_neg (by simp)]
    dsimp only
    rw [i, if_pos rfl]
theorem splitR_rows {l : List Bytes} (h : ∀ s ∈ l, s.length < 65536) : splitR (rowsB l) = (l, 0) := by
  have := split_rows [] l h (rowsB l).length (by
    clear h
    induction l with
    | nil => exact Nat.zero_le _
    | cons s l ih =>
      have : rowsB (s :: l) = rowB s ++ rowsB l := rfl
      rw [this, List.length_append, Quill.rowB_len, List.length_cons]
      omega)
  exact this
def textT (t : TokV) : Bytes × Int := if ¬ checkT t = 0 then ([], checkT t) else (rowsB [t.2.1, (textP t.2.2).1], 0)
theorem name_le {s : Bytes} (h : Rows.namedS s = true) : s.length ≤ 8 := by
  unfold Rows.namedS at h
  simp only [Bool.and_eq_true, decide_eq_true_eq] at h
  exact h.2.1
theorem made_le {t : TokV} (h : checkT t = 0) : t.2.1.length ≤ 8 := by
  unfold checkT at h
  split at h
  · cases h
  · split at h
    · exact absurd h (by assumption)
    · split at h
      · rename_i q
        rcases q with q | q
        · rw [q.1]; exact Nat.zero_le _
        · exact name_le q.1
      · cases h
theorem rows_two (a b : Bytes) : (rowsB [a, b]).length = 4 + a.length + b.length := by
  show (rowB a ++ (rowB b ++ [])).length = _
  rw [List.append_nil, List.length_append, Quill.rowB_len, Quill.rowB_len]; omega
theorem two_le {t : TokV} (h : checkT t = 0) : ∀ s ∈ ([t.2.1, (textP t.2.2).1] : List Bytes), s.length ≤ 65535 := by
  have h1 := made_le h
  have h2 := Policy.textP_len t.2.2
  intro s hs
  rcases List.mem_cons.1 hs with rfl | hs
  · omega
  · rw [List.mem_singleton.1 hs]; omega
theorem two_len {t : TokV} (h : checkT t = 0) : (rowsB [t.2.1, (textP t.2.2).1]).length ≤ 2000 := by
  have h1 := made_le h
  have h2 := Policy.textP_len t.2.2
  rw [rows_two]; omega
def parseT (n s : Bytes) : TokV × Int :=
  if ¬ (splitR s).2 = 0 then (tokd, (splitR s).2) else if ¬ ((splitR s).1.length : Int) = 2 then (tokd, 4) else
  if ¬ (parseP (List.getD (splitR s).1 1 [])).2 = 0 ∨ ¬ checkT (n, List.getD (splitR s).1 0 [], (parseP (List.getD (splitR s).1 1 [])).1) = 0 then (tokd, 4) else ((n, List.getD (splitR s).1 0 [], (parseP (List.getD (splitR s).1 1 [])).1), 0)
theorem parse_text {t : TokV} (h : checkT t = 0) (h0 : ∀ x ∈ t.2.2, 0 ≤ x.2) : parseT t.1 (textT t).1 = (t, 0) := by
  have e : textT t = (rowsB [t.2.1, (textP t.2.2).1], 0) := if_neg (by omega)
  have hp := Policy.parse_textP (l := t.2.2) (by rw [Policy.text_ok (check_rules h)]) h0
  have hs := splitR_rows (l := [t.2.1, (textP t.2.2).1]) fun s hs => by have := two_le h s hs; omega
  unfold parseT
  rw [e, hs]
  dsimp only
  rw [if_neg (by decide), if_neg (by simp)]
  simp only [List.getD_cons_zero, List.getD_cons_succ]
  rw [hp, if_neg]
  intro q
  rcases q with q | q
  · exact q rfl
  · exact q h
theorem piece_le {s : Bytes} (j : Nat) : (List.getD (splitR s).1 j []).length ≤ s.length := by
  by_cases h : j < (splitR s).1.length
  · exact splitR_mem (Lib.getD_mem [] _ j h)
  · rw [List.getD_eq_getElem?_getD, List.getElem?_eq_none (by omega)]; simp
end AL.Token
namespace AL
open Go Go.Proofs
set_option linter.unusedVariables false
theorem pMaps : mapsRowed Tryz.prog = true := by kernel_rfl
theorem pStops : (Tryz.prog.stops == []) = true := by kernel_rfl
theorem pKnobs : (Tryz.prog.stopKnobs == []) = true := by kernel_rfl
theorem pHeard : Tryz.prog.stopsHeard = true := by kernel_rfl
theorem pEnter : Tryz.prog.mayEnter = true := by kernel_rfl
theorem pLifts : (false == Tryz.prog.liftsFinal) = true := by kernel_rfl
theorem pMake : (Tryz.prog.make == some .cut) = true := by kernel_rfl
end AL
namespace AL
open Go Go.Proofs
set_option linter.unusedVariables false
def closureFacts (P : Program) (f : FuncId) (c : OpenClaim) : Bool :=
  (c.inPlace == P.inPlace f) && (c.unfollowed == P.unfollowed f) && (c.recurses == P.recurses f) && (c.named == P.varsNamed f)
def rowFacts (P : Program) (fn : Func) (s : ChangeSpec) (c : OpenClaim) : Bool :=
  c.wf (OpenSpec.ofChange s) && fn.params.all (P.readableRec ·) && namedTie P c.named s.vars && (c.stops == []) && (c.knobs == []) &&
  (c.maps == (fn.params.toList ++ s.plain.varTypes P).any (P.mapsRec ·)) && (c.ifaces == (fn.params.toList ++ s.plain.varTypes P).any (P.ifacesRec ·)) && (c.mapsOut == P.mapsAmong fn.resultTypes.toList) &&
  (c.loops == (fn.params.toList ++ s.plain.varTypes P).any (P.loopsFrom ·)) && (c.wideKeys == (fn.params.toList ++ s.plain.varTypes P ++ fn.resultTypes.toList).any (P.wideKeysFrom ·)) &&
  s.vars.all (P.varReadable ·) && fn.resultTypes.all (fun t => P.readableRec t && decide (t < P.types.size)) && (c.ifacesOut == fn.resultTypes.toList.any (P.ifacesRec ·)) && (c.loopsOut == fn.resultTypes.toList.any (P.loopsFrom ·)) && (c.plainKeys == P.plainKeys) && c.shortTexts.isNone &&
  (c.kinds == (if c.domain.isEmpty then [] else fn.params.toList.map fun t => match P.underlying t with | some (.int k) => some k | _ => none)) && (c.pinned == c.pinnedBy) &&
  (c.veiled == (fn.params.toList ++ s.plain.varTypes P ++ fn.resultTypes.toList).any (P.veiledRec ·)) && c.veiledFits P fn.params.toList (fn.params.toList ++ s.plain.varTypes P ++ fn.resultTypes.toList)
set_option maxRecDepth 100000 in
theorem joined {f : FuncId} {fn : Func} {s : ChangeSpec} {c : OpenClaim} (h1 : closureFacts Tryz.prog f c = true) (h2 : rowFacts Tryz.prog fn s c = true) (hl : c.lifted = false) (hm : c.make = .cut) :
    joinedFacts Tryz.prog f fn s c = true := by
  have g1 := laidOut
  have g2 := pMaps
  have g3 := pStops
  have g4 := pKnobs
  have g5 := pHeard
  have g6 := pEnter
  have g7 := pLifts
  have g8 := pMake
  unfold closureFacts at h1
  unfold rowFacts at h2
  unfold joinedFacts
  rw [hl, hm]
  simp only [Bool.and_eq_true] at h1 h2 ⊢
  obtain ⟨⟨⟨a1, a2⟩, a3⟩, a4⟩ := h1
  obtain ⟨⟨⟨⟨⟨⟨⟨⟨⟨⟨⟨⟨⟨⟨⟨⟨⟨⟨⟨b1, b2⟩, b3⟩, b4⟩, b5⟩, b6⟩, b7⟩, b8⟩, b9⟩, b10⟩, b11⟩, b12⟩, b13⟩, b14⟩, b15⟩, b16⟩, b17⟩, b18⟩, b19⟩, b20⟩ := h2
  exact ⟨⟨⟨⟨⟨⟨⟨⟨⟨⟨⟨⟨⟨⟨⟨⟨⟨⟨⟨⟨⟨⟨⟨⟨⟨⟨⟨⟨⟨⟨⟨b1, g1⟩, g2⟩, b2⟩, b3⟩, b4⟩, g3⟩, b5⟩, g4⟩, a1⟩, a2⟩, a3⟩, a4⟩, b6⟩, b7⟩, b8⟩, b9⟩, b10⟩, b11⟩, b12⟩, b13⟩, b14⟩, b15⟩, b16⟩, g5⟩, g6⟩, g7⟩, g8⟩, b17⟩, b18⟩, b19⟩, b20⟩
end AL
namespace AL.Quill
open Go Go.Proofs AL
set_option linter.unusedVariables false
set_option linter.unusedSimpArgs false
theorem f89_body : Tryz.f89.body = some (.seq (.region 0 (rg Tryz.f89 0) false) (.seq (.seq (.region 1 (rg Tryz.f89 1) false) (.block 0 (.loop (.seq (.seq (.region 2 (rg Tryz.f89 2) false) (.cond (.tmp 12) (.skip) (.exit 0))) (.seq (.block 1 (.region 4 (rg Tryz.f89 4) false)) (.region 3 (rg Tryz.f89 3) false)))))) (.seq (.region 5 (rg Tryz.f89 5) false) (.ret)))) := by kernel_rfl
set_option maxRecDepth 100000 in
set_option maxHeartbeats 8000000 in
theorem lay_c (b : Bytes) (m n : Int) (hm : m = n) (h0 : 0 ≤ n) (h1 : n < 65536) (hb : b.length ≤ 1000000) (d d2 : Nat) (hd : Nat.beq d d2 = false) : Spec Tryz.prog 89 [.c (.own d), tc (i6 2), tc (u6 m)] (ofH [(d, AObj.grow 5 1 UInt8 0 rowU8 b)]) (vo d2) (ofH [(d2, AObj.grow 5 1 UInt8 0 rowU8 (b ++ be2 n))]) := by
 refine OwnIO.of_body (D := 0) Tryz.func89 f89_body (by kernel_rfl) Tryz.ntmps89 (by kernel_rfl) (by kernel_rfl) rfl rfl ?_ d d2 hd
 subst hm
 refine gS [] [] 23 [(0, vo 0), (1, vc (i6 2)), (2, vc (u6 m))] [(0, AObj.grow 5 1 UInt8 0 rowU8 b)] trivial ?_
 refine gQ ?_
 refine gS [] [InR .i64 (2 - 1), InR .i64 (8 * (2 - 1))] 23 [(0, vo 0), (2, vc (u6 m)), (7, vc (i6 (8 * (2 - 1))))] [(0, AObj.grow 5 1 UInt8 0 rowU8 b)] ⟨(inR64 (by omega) (by omega)), (show InR .i64 (8 * (2 - 1)) from (inR64 (by omega) (by omega)))⟩ ?_
 refine AMx.block ?_
 refine AMx.ent (s' := AS.lst 23 [(0, vo 0), (2, vc (u6 m)), (7, vc (i6 (8 * (2 - 1))))] [(0, AObj.grow 5 1 UInt8 0 rowU8 b)]) (ent_proj [0, 2, 7] [0]) ?_
 refine AMx.loop (fun mm ss => ∃ (j : Nat), (j ≤ 2) ∧ mm = 2 - j ∧ ss = AS.lst 23 [(0, vo 0), (2, vc (u6 m)), (7, vc (i6 (8 - 8 * (j : Int))))] [(0, AObj.grow 5 1 UInt8 0 rowU8 (b ++ List.take j (be2 m)))]) ⟨0, ?_, rfl, ?_⟩ ?_
 · omega
 · rw [show List.take 0 (be2 m) = [] from rfl, List.append_nil]; rfl
 rintro mm ss ⟨j, hI, rfl, rfl⟩
 refine gQ ?_
 refine gS [] [] 23 [(0, vo 0), (2, vc (u6 m)), (7, vc (i6 (8 - 8 * (j : Int)))), (12, vc (bo (decide (0 ≤ 8 - 8 * (j : Int)))))] [(0, AObj.grow 5 1 UInt8 0 rowU8 (b ++ List.take j (be2 m)))] trivial ?_
 refine gC (0 ≤ 8 - 8 * (j : Int)) (fun hc1 => ?_) fun hc1 => ?_
 ·
  refine AMx.skip ?_
  refine gQ ?_
  refine AMx.block ?_
  refine gR [(5, CE.obj (AObj.grow 5 1 UInt8 0 rowU8 [List.getD (be2 m) j 0])), (6, CE.obj (AObj.grow 5 1 UInt8 0 rowU8 ((b ++ List.take j (be2 m)) ++ [List.getD (be2 m) j 0])))] [(0 : Int) ≤ 8 - 8 * (j : Int), flat 1 rowU8 [List.getD (be2 m) j 0] = [.s (u8 (IntKind.wrap .u8 (Int.fdiv m (2 ^ (min (8 - 8 * (j : Int) : Int).toNat (IntKind.bits .u64))))))], List.length ([List.getD (be2 m) j 0] : List UInt8) = 1, AppC (flat 1 rowU8 [List.getD (be2 m) j 0]) (List.length ([List.getD (be2 m) j 0] : List UInt8)) 1 (AObj.grow 5 1 UInt8 0 rowU8 (b ++ List.take j (be2 m))) (AObj.grow 5 1 UInt8 0 rowU8 ((b ++ List.take j (be2 m)) ++ [List.getD (be2 m) j 0]))] 23 [(0, vo 21), (2, vc (u6 m)), (7, vc (i6 (8 - 8 * (j : Int))))] [(21, AObj.grow 5 1 UInt8 0 rowU8 ((b ++ List.take j (be2 m)) ++ [List.getD (be2 m) j 0]))] ⟨(by omega), (lay_at (by omega)), rfl, (⟨_, rfl, rfl, rfl, by simp only [List.length_append, List.length_cons, List.length_nil, List.length_take, be2_len]; omega, by simp only [maxLen, List.length_append, List.length_cons, List.length_nil, List.length_take, be2_len]; omega⟩)⟩ ?_
  refine AMx.blk ?_
  refine gR [] [InR .i64 ((8 - 8 * (j : Int)) - 8)] 23 [(0, vo 21), (2, vc (u6 m)), (7, vc (i6 ((8 - 8 * (j : Int)) - 8)))] [(21, AObj.grow 5 1 UInt8 0 rowU8 ((b ++ List.take j (be2 m)) ++ [List.getD (be2 m) j 0]))] (show InR .i64 ((8 - 8 * (j : Int)) - 8) from (inR64 (by omega) (by omega))) ?_
  refine AMx.ent_inv (s' := AS.lst 23 [(0, vo 0), (2, vc (u6 m)), (7, vc (i6 ((8 - 8 * (j : Int)) - 8)))] [(0, AObj.grow 5 1 UInt8 0 rowU8 ((b ++ List.take j (be2 m)) ++ [List.getD (be2 m) j 0]))]) (ent_swap 21 0 (by kernel_rfl) (by kernel_rfl)) ?_
  refine AMx.ent_inv (s' := AS.lst 23 [(0, vo 0), (2, vc (u6 m)), (7, vc (i6 ((8 - 8 * (j : Int)) - 8)))] [(0, AObj.grow 5 1 UInt8 0 rowU8 ((b ++ List.take j (be2 m)) ++ [List.getD (be2 m) j 0]))]) (ent_proj [0, 2, 7] [0]) ?_
  refine AMx.inv ⟨_, ?_, j + 1, ?_, rfl, ?_⟩
  rotate_left
  · omega
  · rw [lay_step b m (by omega), show (8 - 8 * (j : Int)) - 8 = 8 - 8 * ((j + 1 : Nat) : Int) by omega]
  · omega
 ·
  refine AMx.exit ?_
  refine AMx.code_exit ?_
  refine AMx.inv_exit ?_
  refine AMx.blk_exit ?_
  refine gS [] [] 23 [(6, vo 0)] [(0, AObj.grow 5 1 UInt8 0 rowU8 (b ++ List.take j (be2 m)))] trivial ?_
  refine AMx.ret ?_
  exact ⟨.inl rfl, 0, AObj.grow 5 1 UInt8 0 rowU8 (b ++ List.take j (be2 m)), by kernel_rfl, by kernel_rfl, by rw [lay_end b m (by omega)]⟩
theorem f145_body : Tryz.f145.body = some (.seq (.region 0 (rg Tryz.f145 0) false) (.seq (.region 1 (rg Tryz.f145 1) false) (.ret))) := by kernel_rfl
set_option maxRecDepth 100000 in
set_option maxHeartbeats 8000000 in
theorem sized_c (n : Int) : Pure Tryz.prog 145 [tc (i6 n)] (vc (bo (decide (1 ≤ n) && decide (n ≤ 8)))) := by
 refine Pure.of_body Tryz.func145 f145_body (by kernel_rfl) Tryz.ntmps145 (by kernel_rfl) (by kernel_rfl) ?_
 refine gS [] [] 9 [(0, vc (i6 n))] [] trivial ?_
 refine gS [] [((decide (1 ≤ n)) = true) → allP [(decide (1 ≤ n)) = true], (decide (1 ≤ n)) = true → allP [(decide (1 ≤ n)) = true]] 9 [(2, vc (bo ((decide (1 ≤ n)) && (decide (n ≤ 8)))))] [] ⟨(fun hp => hp), (fun hp2 => (by first | exact hp2 | exact ⟨hp, hp2⟩))⟩ ?_
 exact gT (vc (bo ((decide (1 ≤ n)) && (decide (n ≤ 8))))) rfl
theorem f144_body : Tryz.f144.body = some (.seq (.region 0 (rg Tryz.f144 0) false) (.seq (.region 1 (rg Tryz.f144 1) false) (.ret))) := by kernel_rfl
set_option maxRecDepth 100000 in
set_option maxHeartbeats 8000000 in
theorem stands_c (x : ScanV) : Pure Tryz.prog 144 [TV.agg [.s (st x.1), .s (i6 x.2.1), .s (i6 x.2.2)]] (vc (bo (decide (0 ≤ x.2.1) && decide (x.2.1 ≤ (List.length x.1 : Int))))) := by
 refine Pure.of_body Tryz.func144 f144_body (by kernel_rfl) Tryz.ntmps144 (by kernel_rfl) (by kernel_rfl) ?_
 refine gS [] [] 14 [(1, vp 1 0)] [(1, AObj.row [.s (st x.1), .s (i6 x.2.1), .s (i6 x.2.2)])] trivial ?_
 refine gS [] [((decide (0 ≤ x.2.1)) = true) → allP [(decide (0 ≤ x.2.1)) = true], ((decide (0 ≤ x.2.1)) = true) → allP [(decide (0 ≤ x.2.1)) = true], ((decide (0 ≤ x.2.1)) = true) → allP [(decide (0 ≤ x.2.1)) = true], ((decide (0 ≤ x.2.1)) = true) → allP [(decide (0 ≤ x.2.1)) = true, (decide (0 ≤ x.2.1)) = true], (decide (0 ≤ x.2.1)) = true → allP [(decide (0 ≤ x.2.1)) = true]] 14 [(2, vc (bo ((decide (0 ≤ x.2.1)) && (decide (x.2.1 ≤ (List.length x.1 : Int))))))] [] ⟨(fun hp => hp), (fun hp => hp), (fun hp => hp), (fun hp => ⟨hp, hp⟩), (fun hp2 => (by first | exact hp2 | exact ⟨hp, hp2⟩))⟩ ?_
 exact gT (vc (bo ((decide (0 ≤ x.2.1)) && (decide (x.2.1 ≤ (List.length x.1 : Int)))))) rfl
theorem f92_body : Tryz.f92.body = some (.seq (.region 0 (rg Tryz.f92 0) false) (.seq (.region 1 (rg Tryz.f92 1) false) (.ret))) := by kernel_rfl
set_option maxRecDepth 100000 in
set_option maxHeartbeats 8000000 in
theorem left_c (x : ScanV) (h : 0 ≤ x.2.1 ∧ x.2.1 ≤ x.1.length) (hl : x.1.length ≤ 1000000) : Pure Tryz.prog 92 [TV.agg [.s (st x.1), .s (i6 x.2.1), .s (i6 x.2.2)]] (vc (i6 ((List.length x.1 : Int) - x.2.1))) := by
 refine Pure.of_body Tryz.func92 f92_body (by kernel_rfl) Tryz.ntmps92 (by kernel_rfl) (by kernel_rfl) ?_
 refine gS [] [] 9 [(1, vp 1 0)] [(1, AObj.row [.s (st x.1), .s (i6 x.2.1), .s (i6 x.2.2)])] trivial ?_
 refine gS [] [InR .i64 ((List.length x.1 : Int) - x.2.1)] 9 [(2, vc (i6 ((List.length x.1 : Int) - x.2.1)))] [] (show InR .i64 ((List.length x.1 : Int) - x.2.1) from (inR64 (by omega) (by omega))) ?_
 exact gT (vc (i6 ((List.length x.1 : Int) - x.2.1))) rfl
theorem f126_body : Tryz.f126.body = some (.seq (.region 0 (rg Tryz.f126 0) false) (.seq (.region 1 (rg Tryz.f126 1) false) (.seq (.region 2 (rg Tryz.f126 2) false) (.ret)))) := by kernel_rfl
set_option maxRecDepth 100000 in
set_option maxHeartbeats 8000000 in
theorem fails_c (x : ScanV) (e : Int) : Pure Tryz.prog 126 [TV.agg [.s (st x.1), .s (i6 x.2.1), .s (i6 x.2.2)], tc (i6 e)] (AV.t (TV.agg [.s (st (((x.1, x.2.1, e) : ScanV).1)), .s (i6 (((x.1, x.2.1, e) : ScanV).2.1)), .s (i6 (((x.1, x.2.1, e) : ScanV).2.2))])) := by
 refine Pure.of_body Tryz.func126 f126_body (by kernel_rfl) Tryz.ntmps126 (by kernel_rfl) (by kernel_rfl) ?_
 refine gS [] [] 8 [(1, vc (i6 e)), (2, vp 2 0), (4, vp 4 0)] [(2, AObj.row [.s (st x.1), .s (i6 x.2.1), .s (i6 x.2.2)]), (4, AObj.row [.s (st []), .s (i6 0), .s (i6 0)])] trivial ?_
 refine gS [] [] 8 [(2, vp 2 0), (4, vp 4 0)] [(2, AObj.row [.s (st x.1), .s (i6 x.2.1), .s (i6 e)]), (4, AObj.row [.s (st []), .s (i6 0), .s (i6 0)])] trivial ?_
 refine gS [] [] 8 [(4, vp 4 0)] [(4, AObj.row [.s (st x.1), .s (i6 x.2.1), .s (i6 e)])] trivial ?_
 exact gT (AV.t (TV.agg [.s (st x.1), .s (i6 x.2.1), .s (i6 e)])) rfl
theorem f125_body : Tryz.f125.body = some (.seq (.region 0 (rg Tryz.f125 0) false) (.seq (.block 0 (.seq (.region 1 (rg Tryz.f125 1) false) (.cond (.tmp 9) (.seq (.region 2 (rg Tryz.f125 2) true) (.ret)) (.seq (.region 3 (rg Tryz.f125 3) false) (.cond (.tmp 14) (.seq (.region 4 (rg Tryz.f125 4) false) (.ret)) (.seq (.region 5 (rg Tryz.f125 5) false) (.cond (.tmp 25) (.seq (.region 6 (rg Tryz.f125 6) false) (.ret)) (.skip)))))))) (.seq (.region 7 (rg Tryz.f125 7) false) (.seq (.seq (.region 8 (rg Tryz.f125 8) false) (.block 1 (.loop (.seq (.region 9 (rg Tryz.f125 9) false) (.seq (.cond (.tmp 44) (.skip) (.exit 1)) (.seq (.block 2 (.seq (.region 10 (rg Tryz.f125 10) false) (.region 11 (rg Tryz.f125 11) false))) (.region 12 (rg Tryz.f125 12) false))))))) (.seq (.region 13 (rg Tryz.f125 13) false) (.seq (.region 14 (rg Tryz.f125 14) true) (.ret))))))) := by kernel_rfl
set_option maxRecDepth 100000 in
set_option maxHeartbeats 8000000 in
theorem Num_c (x : ScanV) (n : Int) (h1 : 1 ≤ n) (h2 : n ≤ 2) (hx : x.1.length ≤ 1000000) : Pure Tryz.prog 125 [TV.agg [.s (st x.1), .s (i6 x.2.1), .s (i6 x.2.2)], tc (i6 n)] (AV.tup [tc (u6 ((numQ x n).1)), TV.agg [.s (st (((numQ x n).2).1)), .s (i6 (((numQ x n).2).2.1)), .s (i6 (((numQ x n).2).2.2))]]) := by
 refine Pure.of_body Tryz.func125 f125_body (by kernel_rfl) Tryz.ntmps125 (by kernel_rfl) (by kernel_rfl) ?_
 refine gS [] [] 60 [(1, vc (i6 n)), (2, vp 2 0), (5, vp 5 0)] [(2, AObj.row [.s (st x.1), .s (i6 x.2.1), .s (i6 x.2.2)]), (5, AObj.row [.s (st []), .s (i6 0), .s (i6 0)])] trivial ?_
 refine gQ ?_
 refine AMx.block ?_
 refine gS [] [] 60 [(1, vc (i6 n)), (2, vp 2 0), (5, vp 5 0), (9, vc (bo (!decide (x.2.2 = 0))))] [(2, AObj.row [.s (st x.1), .s (i6 x.2.1), .s (i6 x.2.2)]), (5, AObj.row [.s (st []), .s (i6 0), .s (i6 0)])] trivial ?_
 refine gN (x.2.2 = 0) (fun hc1 => ?_) fun hc1 => ?_
 ·
  refine gY [] [(0, [2]), (2, [5])] [] 60 [(4, vc (u6 0)), (5, vp 5 0)] [(5, AObj.row [.s (st x.1), .s (i6 x.2.1), .s (i6 x.2.2)])] mixed trivial ?_
  exact gT (AV.tup [tc (u6 0), TV.agg [.s (st x.1), .s (i6 x.2.1), .s (i6 x.2.2)]]) (by rw [show numQ x n = (0, x) from by first | rw [num_1 (by assumption)] | rw [num_2 (by assumption) (by omega)] | rw [num_3 (by assumption) (by omega) (by assumption)] | (rw [num_4 (by assumption) (by omega) (by assumption)]; done) | (rw [num_4 (by assumption) (by omega) (by assumption)]; simp_all)])
 ·
  refine gS [(1, CE.call [] [] (vc (bo (decide (0 ≤ x.2.1) && decide (x.2.1 ≤ (List.length x.1 : Int))))) []), (5, CE.call [] [] (vc (bo (decide ((1 : Int) ≤ n) && decide ((n : Int) ≤ 8)))) [])] [Spec Tryz.prog 144 [TV.agg [.s (st x.1), .s (i6 x.2.1), .s (i6 x.2.2)]] (ofH []) (vc (bo (decide (0 ≤ x.2.1) && decide (x.2.1 ≤ (List.length x.1 : Int))))) (ofH []), ((!(decide (0 ≤ x.2.1) && decide (x.2.1 ≤ (List.length x.1 : Int)))) = false) → allP [(!(decide (0 ≤ x.2.1) && decide (x.2.1 ≤ (List.length x.1 : Int)))) = false, Spec Tryz.prog 145 [tc (i6 n)] (ofH []) (vc (bo (decide ((1 : Int) ≤ n) && decide ((n : Int) ≤ 8)))) (ofH [])], ((!(decide (0 ≤ x.2.1) && decide (x.2.1 ≤ (List.length x.1 : Int)))) = false) → allP [(!(decide (0 ≤ x.2.1) && decide (x.2.1 ≤ (List.length x.1 : Int)))) = false], (!(decide (0 ≤ x.2.1) && decide (x.2.1 ≤ (List.length x.1 : Int)))) = false → allP [(!(decide (0 ≤ x.2.1) && decide (x.2.1 ≤ (List.length x.1 : Int)))) = false]] 60 [(1, vc (i6 n)), (2, vp 2 0), (5, vp 5 0), (14, vc (bo ((!(decide (0 ≤ x.2.1) && decide (x.2.1 ≤ (List.length x.1 : Int)))) || (!(decide ((1 : Int) ≤ n) && decide ((n : Int) ≤ 8))))))] [(2, AObj.row [.s (st x.1), .s (i6 x.2.1), .s (i6 x.2.2)]), (5, AObj.row [.s (st []), .s (i6 0), .s (i6 0)])] ⟨(stands_c x), (fun hp => by have hq := hp; (try simp only [xT, xF, xA, xO, xB, xP, xN, xM, Bool.not_eq_true, Bool.not_eq_false] at hq); exact ⟨hp, (sized_c n)⟩), (fun hp => hp), (fun hp2 => (by first | exact hp2 | exact ⟨hp, hp2⟩))⟩ ?_
  refine gB (((!(decide (0 ≤ x.2.1) && decide (x.2.1 ≤ (List.length x.1 : Int)))) || (!(decide ((1 : Int) ≤ n) && decide ((n : Int) ≤ 8))))) (fun hc2 => ?_) fun hc2 => ?_
  ·
   try simp only [xT, xF, xA, xB, xO, xP, xN, xM] at hc2
   refine gS [(1, CE.call [] [] (AV.t (TV.agg [.s (st (((x.1, x.2.1, 2) : AL.Quill.ScanV).1)), .s (i6 (((x.1, x.2.1, 2) : AL.Quill.ScanV).2.1)), .s (i6 (((x.1, x.2.1, 2) : AL.Quill.ScanV).2.2))])) [])] [Spec Tryz.prog 126 [TV.agg [.s (st x.1), .s (i6 x.2.1), .s (i6 x.2.2)], tc (i6 2)] (ofH []) (AV.t (TV.agg [.s (st (((x.1, x.2.1, 2) : AL.Quill.ScanV).1)), .s (i6 (((x.1, x.2.1, 2) : AL.Quill.ScanV).2.1)), .s (i6 (((x.1, x.2.1, 2) : AL.Quill.ScanV).2.2))])) (ofH [])] 60 [(4, vc (u6 0)), (5, vp 5 0)] [(5, AObj.row [.s (st (((x.1, x.2.1, 2) : AL.Quill.ScanV).1)), .s (i6 (((x.1, x.2.1, 2) : AL.Quill.ScanV).2.1)), .s (i6 (((x.1, x.2.1, 2) : AL.Quill.ScanV).2.2))])] (fails_c x 2) ?_
   exact gT (AV.tup [tc (u6 0), TV.agg [.s (st (((x.1, x.2.1, 2) : AL.Quill.ScanV).1)), .s (i6 (((x.1, x.2.1, 2) : AL.Quill.ScanV).2.1)), .s (i6 (((x.1, x.2.1, 2) : AL.Quill.ScanV).2.2))]]) (by rw [show numQ x n = (0, ((x.1, x.2.1, 2) : AL.Quill.ScanV)) from by first | rw [num_1 (by assumption)] | rw [num_2 (by assumption) (by omega)] | rw [num_3 (by assumption) (by omega) (by assumption)] | (rw [num_4 (by assumption) (by omega) (by assumption)]; done) | (rw [num_4 (by assumption) (by omega) (by assumption)]; simp_all)])
  ·
   try simp only [xT, xF, xA, xB, xO, xP, xN, xM] at hc2
   refine gS [(1, CE.call [] [] (vc (i6 ((List.length x.1 : Int) - x.2.1))) [])] [Spec Tryz.prog 92 [TV.agg [.s (st x.1), .s (i6 x.2.1), .s (i6 x.2.2)]] (ofH []) (vc (i6 ((List.length x.1 : Int) - x.2.1))) (ofH [])] 60 [(1, vc (i6 n)), (2, vp 2 0), (5, vp 5 0), (25, vc (bo (decide ((List.length x.1 : Int) - x.2.1 < n))))] [(2, AObj.row [.s (st x.1), .s (i6 x.2.1), .s (i6 x.2.2)]), (5, AObj.row [.s (st []), .s (i6 0), .s (i6 0)])] (left_c x (by first | omega | (simp only [List.length_take, List.length_drop] at *; omega)) (by first | omega | (simp only [List.length_take, List.length_drop] at *; omega))) ?_
   refine gC ((List.length x.1 : Int) - x.2.1 < n) (fun hc3 => ?_) fun hc3 => ?_
   ·
    refine gS [(1, CE.call [] [] (AV.t (TV.agg [.s (st (((x.1, x.2.1, 3) : AL.Quill.ScanV).1)), .s (i6 (((x.1, x.2.1, 3) : AL.Quill.ScanV).2.1)), .s (i6 (((x.1, x.2.1, 3) : AL.Quill.ScanV).2.2))])) [])] [Spec Tryz.prog 126 [TV.agg [.s (st x.1), .s (i6 x.2.1), .s (i6 x.2.2)], tc (i6 3)] (ofH []) (AV.t (TV.agg [.s (st (((x.1, x.2.1, 3) : AL.Quill.ScanV).1)), .s (i6 (((x.1, x.2.1, 3) : AL.Quill.ScanV).2.1)), .s (i6 (((x.1, x.2.1, 3) : AL.Quill.ScanV).2.2))])) (ofH [])] 60 [(4, vc (u6 0)), (5, vp 5 0)] [(5, AObj.row [.s (st (((x.1, x.2.1, 3) : AL.Quill.ScanV).1)), .s (i6 (((x.1, x.2.1, 3) : AL.Quill.ScanV).2.1)), .s (i6 (((x.1, x.2.1, 3) : AL.Quill.ScanV).2.2))])] (fails_c x 3) ?_
    exact gT (AV.tup [tc (u6 0), TV.agg [.s (st (((x.1, x.2.1, 3) : AL.Quill.ScanV).1)), .s (i6 (((x.1, x.2.1, 3) : AL.Quill.ScanV).2.1)), .s (i6 (((x.1, x.2.1, 3) : AL.Quill.ScanV).2.2))]]) (by rw [show numQ x n = (0, ((x.1, x.2.1, 3) : AL.Quill.ScanV)) from by first | rw [num_1 (by assumption)] | rw [num_2 (by assumption) (by omega)] | rw [num_3 (by assumption) (by omega) (by assumption)] | (rw [num_4 (by assumption) (by omega) (by assumption)]; done) | (rw [num_4 (by assumption) (by omega) (by assumption)]; simp_all)])
   ·
    refine AMx.skip ?_
    refine AMx.blk ?_
    refine gS [] [] 60 [(1, vc (i6 n)), (2, vp 2 0), (5, vp 5 0), (6, vc (u6 0))] [(2, AObj.row [.s (st x.1), .s (i6 x.2.1), .s (i6 x.2.2)]), (5, AObj.row [.s (st []), .s (i6 0), .s (i6 0)])] trivial ?_
    refine gQ ?_
    refine gS [] [InR .i64 (x.2.1 + n), 0 ≤ x.2.1 + n, x.2.1 + n ≤ List.length x.1, 0 ≤ x.2.1, x.2.1 ≤ x.2.1 + n] 60 [(1, vc (i6 n)), (2, vp 2 0), (5, vp 5 0), (6, vc (u6 0)), (41, vc (SC.sl 1 UInt8 0 rowU8 (List.drop (x.2.1).toNat (List.take (x.2.1 + n).toNat x.1)))), (42, vc (i6 (List.length (List.drop (x.2.1).toNat (List.take (x.2.1 + n).toNat x.1) : List UInt8) : Int))), (43, vc (i6 0))] [(2, AObj.row [.s (st x.1), .s (i6 x.2.1), .s (i6 x.2.2)]), (5, AObj.row [.s (st []), .s (i6 0), .s (i6 0)])] ⟨(inR64 (by first | omega | (simp only [List.length_take, List.length_drop] at *; omega)) (by first | omega | (simp only [List.length_take, List.length_drop] at *; omega))), (by first | omega | (simp only [List.length_take, List.length_drop] at *; omega)), (by first | omega | (simp only [List.length_take, List.length_drop] at *; omega)), (by first | omega | (simp only [List.length_take, List.length_drop] at *; omega)), (show x.2.1 ≤ x.2.1 + n from (by first | omega | (simp only [List.length_take, List.length_drop] at *; omega)))⟩ ?_
    refine AMx.block ?_
    refine AMx.ent (s' := AS.lst 60 [(1, vc (i6 n)), (2, vp 2 0), (5, vp 5 0), (6, vc (u6 0)), (41, vc (SC.sl 1 UInt8 0 rowU8 (List.drop (x.2.1).toNat (List.take (x.2.1 + n).toNat x.1)))), (42, vc (i6 (List.length (List.drop (x.2.1).toNat (List.take (x.2.1 + n).toNat x.1) : List UInt8) : Int))), (43, vc (i6 0))] [(2, AObj.row [.s (st x.1), .s (i6 x.2.1), .s (i6 x.2.2)]), (5, AObj.row [.s (st []), .s (i6 0), .s (i6 0)])]) (ent_proj [1, 2, 5, 6, 41, 42, 43] [2, 5]) ?_
    refine AMx.loop (fun mm ss => ∃ (k : Nat), (k ≤ List.length (List.drop (x.2.1).toNat (List.take (x.2.1 + n).toNat x.1))) ∧ mm = List.length (List.drop (x.2.1).toNat (List.take (x.2.1 + n).toNat x.1)) - k ∧ ss = AS.lst 60 [(1, vc (i6 n)), (2, vp 2 0), (5, vp 5 0), (6, vc (u6 (bigS (List.take k (List.drop (x.2.1).toNat (List.take (x.2.1 + n).toNat x.1)))))), (41, vc (SC.sl 1 UInt8 0 rowU8 (List.drop (x.2.1).toNat (List.take (x.2.1 + n).toNat x.1)))), (42, vc (i6 (List.length (List.drop (x.2.1).toNat (List.take (x.2.1 + n).toNat x.1) : List UInt8) : Int))), (43, vc (i6 (k : Int)))] [(2, AObj.row [.s (st x.1), .s (i6 x.2.1), .s (i6 x.2.2)]), (5, AObj.row [.s (st []), .s (i6 0), .s (i6 0)])]) ⟨0, ?_, rfl, ?_⟩ ?_
    · omega
    · rfl
    rintro mm ss ⟨k, hI, rfl, rfl⟩
    refine gS [] [] 60 [(1, vc (i6 n)), (2, vp 2 0), (5, vp 5 0), (6, vc (u6 (bigS (List.take k (List.drop (x.2.1).toNat (List.take (x.2.1 + n).toNat x.1)))))), (41, vc (SC.sl 1 UInt8 0 rowU8 (List.drop (x.2.1).toNat (List.take (x.2.1 + n).toNat x.1)))), (42, vc (i6 (List.length (List.drop (x.2.1).toNat (List.take (x.2.1 + n).toNat x.1) : List UInt8) : Int))), (43, vc (i6 (k : Int))), (44, vc (bo (decide ((k : Int) < (List.length (List.drop (x.2.1).toNat (List.take (x.2.1 + n).toNat x.1) : List UInt8) : Int)))))] [(2, AObj.row [.s (st x.1), .s (i6 x.2.1), .s (i6 x.2.2)]), (5, AObj.row [.s (st []), .s (i6 0), .s (i6 0)])] trivial ?_
    refine gQ ?_
    refine gC ((k : Int) < (List.length (List.drop (x.2.1).toNat (List.take (x.2.1 + n).toNat x.1) : List UInt8) : Int)) (fun hc4 => ?_) fun hc4 => ?_
    ·
     refine AMx.skip ?_
     refine gQ ?_
     refine AMx.block ?_
     refine gS [] [(0 : Int) ≤ (k : Int), (k : Int) < List.length (List.drop (x.2.1).toNat (List.take (x.2.1 + n).toNat x.1) : List UInt8)] 60 [(1, vc (i6 n)), (2, vp 2 0), (5, vp 5 0), (6, vc (u6 (bigS (List.take k (List.drop (x.2.1).toNat (List.take (x.2.1 + n).toNat x.1)))))), (8, vc (u8 ((List.getD (List.drop (x.2.1).toNat (List.take (x.2.1 + n).toNat x.1)) k 0).toNat : Int))), (41, vc (SC.sl 1 UInt8 0 rowU8 (List.drop (x.2.1).toNat (List.take (x.2.1 + n).toNat x.1)))), (42, vc (i6 (List.length (List.drop (x.2.1).toNat (List.take (x.2.1 + n).toNat x.1) : List UInt8) : Int))), (43, vc (i6 (k : Int)))] [(2, AObj.row [.s (st x.1), .s (i6 x.2.1), .s (i6 x.2.2)]), (5, AObj.row [.s (st []), .s (i6 0), .s (i6 0)])] ⟨(by first | omega | (simp only [List.length_take, List.length_drop] at *; omega)), (show (k : Int) < List.length (List.drop (x.2.1).toNat (List.take (x.2.1 + n).toNat x.1) : List UInt8) from (by first | omega | (simp only [List.length_take, List.length_drop] at *; omega)))⟩ ?_
     refine gR [] [(0 : Int) ≤ 8] 60 [(1, vc (i6 n)), (2, vp 2 0), (5, vp 5 0), (6, vc (u6 (IntKind.wrap .u64 ((BitVec.ofInt 64 (IntKind.wrap .u64 ((bigS (List.take k (List.drop (x.2.1).toNat (List.take (x.2.1 + n).toNat x.1)))) * 2 ^ (min (8 : Int).toNat (IntKind.bits .u64)))) ||| BitVec.ofInt 64 ((List.getD (List.drop (x.2.1).toNat (List.take (x.2.1 + n).toNat x.1)) k 0).toNat : Int)).toNat)))), (41, vc (SC.sl 1 UInt8 0 rowU8 (List.drop (x.2.1).toNat (List.take (x.2.1 + n).toNat x.1)))), (42, vc (i6 (List.length (List.drop (x.2.1).toNat (List.take (x.2.1 + n).toNat x.1) : List UInt8) : Int))), (43, vc (i6 (k : Int)))] [(2, AObj.row [.s (st x.1), .s (i6 x.2.1), .s (i6 x.2.2)]), (5, AObj.row [.s (st []), .s (i6 0), .s (i6 0)])] (show (0 : Int) ≤ 8 from (by first | omega | (simp only [List.length_take, List.length_drop] at *; omega))) ?_
     refine AMx.blk ?_
     refine gR [] [InR .i64 ((k : Int) + 1)] 60 [(1, vc (i6 n)), (2, vp 2 0), (5, vp 5 0), (6, vc (u6 (IntKind.wrap .u64 ((BitVec.ofInt 64 (IntKind.wrap .u64 ((bigS (List.take k (List.drop (x.2.1).toNat (List.take (x.2.1 + n).toNat x.1)))) * 2 ^ (min (8 : Int).toNat (IntKind.bits .u64)))) ||| BitVec.ofInt 64 ((List.getD (List.drop (x.2.1).toNat (List.take (x.2.1 + n).toNat x.1)) k 0).toNat : Int)).toNat)))), (41, vc (SC.sl 1 UInt8 0 rowU8 (List.drop (x.2.1).toNat (List.take (x.2.1 + n).toNat x.1)))), (42, vc (i6 (List.length (List.drop (x.2.1).toNat (List.take (x.2.1 + n).toNat x.1) : List UInt8) : Int))), (43, vc (i6 ((k : Int) + 1)))] [(2, AObj.row [.s (st x.1), .s (i6 x.2.1), .s (i6 x.2.2)]), (5, AObj.row [.s (st []), .s (i6 0), .s (i6 0)])] (show InR .i64 ((k : Int) + 1) from (inR64 (by first | omega | (simp only [List.length_take, List.length_drop] at *; omega)) (by first | omega | (simp only [List.length_take, List.length_drop] at *; omega)))) ?_
     refine AMx.ent_inv (s' := AS.lst 60 [(1, vc (i6 n)), (2, vp 2 0), (5, vp 5 0), (6, vc (u6 (IntKind.wrap .u64 ((BitVec.ofInt 64 (IntKind.wrap .u64 ((bigS (List.take k (List.drop (x.2.1).toNat (List.take (x.2.1 + n).toNat x.1)))) * 2 ^ (min (8 : Int).toNat (IntKind.bits .u64)))) ||| BitVec.ofInt 64 ((List.getD (List.drop (x.2.1).toNat (List.take (x.2.1 + n).toNat x.1)) k 0).toNat : Int)).toNat)))), (41, vc (SC.sl 1 UInt8 0 rowU8 (List.drop (x.2.1).toNat (List.take (x.2.1 + n).toNat x.1)))), (42, vc (i6 (List.length (List.drop (x.2.1).toNat (List.take (x.2.1 + n).toNat x.1) : List UInt8) : Int))), (43, vc (i6 ((k : Int) + 1)))] [(2, AObj.row [.s (st x.1), .s (i6 x.2.1), .s (i6 x.2.2)]), (5, AObj.row [.s (st []), .s (i6 0), .s (i6 0)])]) (ent_proj [1, 2, 5, 6, 41, 42, 43] [2, 5]) ?_
     refine AMx.inv ⟨_, ?_, k + 1, ?_, rfl, ?_⟩
     rotate_left
     · omega
     · have z1 := big_2 (l := List.take k (List.drop (x.2.1).toNat (List.take (x.2.1 + n).toNat x.1))) (by simp only [List.length_take, List.length_drop]; omega); rw [or_big z1.1 (by omega) (Rune.byte_lt _ _), ← big_step _ k (by omega)]; rfl
     · omega
    ·
     refine AMx.exit ?_
     refine AMx.code_exit ?_
     refine AMx.inv_exit ?_
     refine AMx.blk_exit ?_
     rw [show List.take k (List.drop (x.2.1).toNat (List.take (x.2.1 + n).toNat x.1)) = List.drop (x.2.1).toNat (List.take (x.2.1 + n).toNat x.1) from List.take_of_length_le (by simp only [List.length_take, List.length_drop] at *; omega)]
     refine gS [] [InR .i64 (x.2.1 + n)] 60 [(2, vp 2 0), (5, vp 5 0), (6, vc (u6 (bigS (List.drop (x.2.1).toNat (List.take (x.2.1 + n).toNat x.1)))))] [(2, AObj.row [.s (st x.1), .s (i6 (x.2.1 + n)), .s (i6 x.2.2)]), (5, AObj.row [.s (st []), .s (i6 0), .s (i6 0)])] (show InR .i64 (x.2.1 + n) from (inR64 (by first | omega | (simp only [List.length_take, List.length_drop] at *; omega)) (by first | omega | (simp only [List.length_take, List.length_drop] at *; omega)))) ?_
     refine gY [] [(1, [2]), (3, [5])] [] 60 [(4, vc (u6 (bigS (List.drop (x.2.1).toNat (List.take (x.2.1 + n).toNat x.1))))), (5, vp 5 0)] [(5, AObj.row [.s (st x.1), .s (i6 (x.2.1 + n)), .s (i6 x.2.2)])] mixed trivial ?_
     exact gT (AV.tup [tc (u6 (bigS (List.drop (x.2.1).toNat (List.take (x.2.1 + n).toNat x.1)))), TV.agg [.s (st x.1), .s (i6 (x.2.1 + n)), .s (i6 x.2.2)]]) (by rw [show numQ x n = (bigS (List.drop (x.2.1).toNat (List.take (x.2.1 + n).toNat x.1)), ((x.1, x.2.1 + n, x.2.2) : AL.Quill.ScanV)) from by first | rw [num_1 (by assumption)] | rw [num_2 (by assumption) (by omega)] | rw [num_3 (by assumption) (by omega) (by assumption)] | (rw [num_4 (by assumption) (by omega) (by assumption)]; done) | (rw [num_4 (by assumption) (by omega) (by assumption)]; simp_all)])
theorem f93_body : Tryz.f93.body = some (.seq (.region 0 (rg Tryz.f93 0) false) (.seq (.region 1 (rg Tryz.f93 1) false) (.seq (.seq (.region 2 (rg Tryz.f93 2) false) (.cond (.tmp 14) (.seq (.region 3 (rg Tryz.f93 3) true) (.ret)) (.skip))) (.seq (.seq (.region 4 (rg Tryz.f93 4) false) (.cond (.tmp 20) (.seq (.region 5 (rg Tryz.f93 5) false) (.ret)) (.skip))) (.seq (.region 6 (rg Tryz.f93 6) false) (.seq (.region 7 (rg Tryz.f93 7) false) (.seq (.region 8 (rg Tryz.f93 8) true) (.ret)))))))) := by kernel_rfl
set_option maxRecDepth 100000 in
set_option maxHeartbeats 8000000 in
theorem Row_c (x : ScanV) (hx : x.1.length ≤ 1000000) : Pure Tryz.prog 93 [TV.agg [.s (st x.1), .s (i6 x.2.1), .s (i6 x.2.2)]] (AV.tup [tc (st ((rowQ x).1)), TV.agg [.s (st (((rowQ x).2).1)), .s (i6 (((rowQ x).2).2.1)), .s (i6 (((rowQ x).2).2.2))]]) := by
 refine Pure.of_body Tryz.func93 f93_body (by kernel_rfl) Tryz.ntmps93 (by kernel_rfl) (by kernel_rfl) ?_
 have ql := num_len x 2
 have qc : (numQ x 2).1 = 0 ∧ ¬ (numQ x 2).2.2.2 = 0 ∨ (0 ≤ x.2.1 ∧ x.2.1 + 2 ≤ (x.1.length : Int) ∧ (numQ x 2).2.2.1 = x.2.1 + 2 ∧ 0 ≤ (numQ x 2).1 ∧ (numQ x 2).1 < 65536) := by rcases num_cases x (n := 2) (by omega) (by omega) with q | ⟨_, q2, q3, q4, q5⟩; exact .inl q; exact .inr ⟨q2, q3, by rw [q4], q5⟩
 refine gS [] [] 38 [(1, vp 1 0), (3, vp 3 0)] [(1, AObj.row [.s (st x.1), .s (i6 x.2.1), .s (i6 x.2.2)]), (3, AObj.row [.s (st []), .s (i6 0), .s (i6 0)])] trivial ?_
 refine gS [(1, CE.call [] [] (AV.tup [tc (u6 ((numQ x 2).1)), TV.agg [.s (st (((numQ x 2).2).1)), .s (i6 (((numQ x 2).2).2.1)), .s (i6 (((numQ x 2).2).2.2))]]) [])] [Spec Tryz.prog 125 [TV.agg [.s (st x.1), .s (i6 x.2.1), .s (i6 x.2.2)], tc (i6 2)] (ofH []) (AV.tup [tc (u6 ((numQ x 2).1)), TV.agg [.s (st (((numQ x 2).2).1)), .s (i6 (((numQ x 2).2).2.1)), .s (i6 (((numQ x 2).2).2.2))]]) (ofH [])] 38 [(1, vp 1 0), (3, vp 3 0), (4, vc (u6 ((numQ x 2).1))), (5, vp 5 0)] [(1, AObj.row [.s (st x.1), .s (i6 x.2.1), .s (i6 x.2.2)]), (3, AObj.row [.s (st []), .s (i6 0), .s (i6 0)]), (5, AObj.row [.s (st (((numQ x 2).2).1)), .s (i6 (((numQ x 2).2).2.1)), .s (i6 (((numQ x 2).2).2.2))])] (Num_c x 2 (by omega) (by omega) (by first | omega | (rw [ql] at *; omega) | (rw [ql]; omega))) ?_
 refine gQ ?_
 refine gS [] [] 38 [(1, vp 1 0), (3, vp 3 0), (4, vc (u6 ((numQ x 2).1))), (5, vp 5 0), (14, vc (bo (!decide (((numQ x 2).2).2.2 = 0))))] [(1, AObj.row [.s (st x.1), .s (i6 x.2.1), .s (i6 x.2.2)]), (3, AObj.row [.s (st []), .s (i6 0), .s (i6 0)]), (5, AObj.row [.s (st (((numQ x 2).2).1)), .s (i6 (((numQ x 2).2).2.1)), .s (i6 (((numQ x 2).2).2.2))])] trivial ?_
 refine gN (((numQ x 2).2).2.2 = 0) (fun hc1 => ?_) fun hc1 => ?_
 ·
  refine gY [] [(0, [5]), (2, [3])] [] 38 [(2, vc (st [])), (3, vp 3 0)] [(3, AObj.row [.s (st (((numQ x 2).2).1)), .s (i6 (((numQ x 2).2).2.1)), .s (i6 (((numQ x 2).2).2.2))])] mixed trivial ?_
  exact gT (AV.tup [tc (st []), TV.agg [.s (st (((numQ x 2).2).1)), .s (i6 (((numQ x 2).2).2.1)), .s (i6 (((numQ x 2).2).2.2))]]) (by rw [show rowQ x = ([], ((numQ x 2).2)) from by first | rw [row_1 (by assumption)] | rw [row_2 (by assumption) (by assumption)] | (rw [row_3 (by assumption) (by assumption)]; done) | (rw [row_3 (by assumption) (by assumption)]; simp only [num_len, *])])
 ·
  refine AMx.skip ?_
  refine gQ ?_
  refine gS [(1, CE.call [] [] (vc (i6 ((List.length ((numQ x 2).2).1 : Int) - ((numQ x 2).2).2.1))) [])] [Spec Tryz.prog 92 [TV.agg [.s (st (((numQ x 2).2).1)), .s (i6 (((numQ x 2).2).2.1)), .s (i6 (((numQ x 2).2).2.2))]] (ofH []) (vc (i6 ((List.length ((numQ x 2).2).1 : Int) - ((numQ x 2).2).2.1))) (ofH []), InR .i64 ((numQ x 2).1)] 38 [(1, vp 1 0), (3, vp 3 0), (4, vc (u6 ((numQ x 2).1))), (5, vp 5 0), (20, vc (bo (decide ((List.length ((numQ x 2).2).1 : Int) - ((numQ x 2).2).2.1 < (numQ x 2).1))))] [(1, AObj.row [.s (st x.1), .s (i6 x.2.1), .s (i6 x.2.2)]), (3, AObj.row [.s (st []), .s (i6 0), .s (i6 0)]), (5, AObj.row [.s (st (((numQ x 2).2).1)), .s (i6 (((numQ x 2).2).2.1)), .s (i6 (((numQ x 2).2).2.2))])] ⟨(left_c ((numQ x 2).2) (by first | omega | (rw [ql] at *; omega) | (rw [ql]; omega)) (by first | omega | (rw [ql] at *; omega) | (rw [ql]; omega))), (show InR .i64 ((numQ x 2).1) from (inR64 (by first | omega | (rw [ql] at *; omega) | (rw [ql]; omega)) (by first | omega | (rw [ql] at *; omega) | (rw [ql]; omega))))⟩ ?_
  refine gC ((List.length ((numQ x 2).2).1 : Int) - ((numQ x 2).2).2.1 < (numQ x 2).1) (fun hc2 => ?_) fun hc2 => ?_
  ·
   refine gS [(1, CE.call [] [] (AV.t (TV.agg [.s (st (((x.1, x.2.1, 3) : AL.Quill.ScanV).1)), .s (i6 (((x.1, x.2.1, 3) : AL.Quill.ScanV).2.1)), .s (i6 (((x.1, x.2.1, 3) : AL.Quill.ScanV).2.2))])) [])] [Spec Tryz.prog 126 [TV.agg [.s (st x.1), .s (i6 x.2.1), .s (i6 x.2.2)], tc (i6 3)] (ofH []) (AV.t (TV.agg [.s (st (((x.1, x.2.1, 3) : AL.Quill.ScanV).1)), .s (i6 (((x.1, x.2.1, 3) : AL.Quill.ScanV).2.1)), .s (i6 (((x.1, x.2.1, 3) : AL.Quill.ScanV).2.2))])) (ofH [])] 38 [(2, vc (st [])), (3, vp 3 0)] [(3, AObj.row [.s (st (((x.1, x.2.1, 3) : AL.Quill.ScanV).1)), .s (i6 (((x.1, x.2.1, 3) : AL.Quill.ScanV).2.1)), .s (i6 (((x.1, x.2.1, 3) : AL.Quill.ScanV).2.2))])] (fails_c x 3) ?_
   exact gT (AV.tup [tc (st []), TV.agg [.s (st (((x.1, x.2.1, 3) : AL.Quill.ScanV).1)), .s (i6 (((x.1, x.2.1, 3) : AL.Quill.ScanV).2.1)), .s (i6 (((x.1, x.2.1, 3) : AL.Quill.ScanV).2.2))]]) (by rw [show rowQ x = ([], ((x.1, x.2.1, 3) : AL.Quill.ScanV)) from by first | rw [row_1 (by assumption)] | rw [row_2 (by assumption) (by assumption)] | (rw [row_3 (by assumption) (by assumption)]; done) | (rw [row_3 (by assumption) (by assumption)]; simp only [num_len, *])])
  ·
   refine AMx.skip ?_
   refine gS [] [] 38 [(1, vp 1 0), (3, vp 3 0), (4, vc (u6 ((numQ x 2).1))), (5, vp 5 0), (6, vc (i6 (((numQ x 2).2).2.1)))] [(1, AObj.row [.s (st x.1), .s (i6 x.2.1), .s (i6 x.2.2)]), (3, AObj.row [.s (st []), .s (i6 0), .s (i6 0)]), (5, AObj.row [.s (st (((numQ x 2).2).1)), .s (i6 (((numQ x 2).2).2.1)), .s (i6 (((numQ x 2).2).2.2))])] trivial ?_
   refine gS [] [InR .i64 ((numQ x 2).1), InR .i64 ((((numQ x 2).2).2.1) + ((numQ x 2).1))] 38 [(1, vp 1 0), (3, vp 3 0), (5, vp 5 0), (6, vc (i6 (((numQ x 2).2).2.1)))] [(1, AObj.row [.s (st x.1), .s (i6 x.2.1), .s (i6 x.2.2)]), (3, AObj.row [.s (st []), .s (i6 0), .s (i6 0)]), (5, AObj.row [.s (st (((numQ x 2).2).1)), .s (i6 ((((numQ x 2).2).2.1) + ((numQ x 2).1))), .s (i6 (((numQ x 2).2).2.2))])] ⟨(inR64 (by first | omega | (rw [ql] at *; omega) | (rw [ql]; omega)) (by first | omega | (rw [ql] at *; omega) | (rw [ql]; omega))), (show InR .i64 ((((numQ x 2).2).2.1) + ((numQ x 2).1)) from (inR64 (by first | omega | (rw [ql] at *; omega) | (rw [ql]; omega)) (by first | omega | (rw [ql] at *; omega) | (rw [ql]; omega))))⟩ ?_
   refine gY [] [(1, [1]), (4, [5]), (6, [5]), (8, [3])] [0 ≤ (((numQ x 2).2).2.1) + ((numQ x 2).1), (((numQ x 2).2).2.1) + ((numQ x 2).1) ≤ List.length x.1, 0 ≤ ((numQ x 2).2).2.1, ((numQ x 2).2).2.1 ≤ (((numQ x 2).2).2.1) + ((numQ x 2).1)] 38 [(2, vc (st (List.drop (((numQ x 2).2).2.1).toNat (List.take ((((numQ x 2).2).2.1) + ((numQ x 2).1)).toNat x.1)))), (3, vp 3 0)] [(3, AObj.row [.s (st (((numQ x 2).2).1)), .s (i6 ((((numQ x 2).2).2.1) + ((numQ x 2).1))), .s (i6 (((numQ x 2).2).2.2))])] mixed ⟨(by first | omega | (rw [ql] at *; omega) | (rw [ql]; omega)), (by first | omega | (rw [ql] at *; omega) | (rw [ql]; omega)), (by first | omega | (rw [ql] at *; omega) | (rw [ql]; omega)), (show ((numQ x 2).2).2.1 ≤ (((numQ x 2).2).2.1) + ((numQ x 2).1) from (by first | omega | (rw [ql] at *; omega) | (rw [ql]; omega)))⟩ ?_
   exact gT (AV.tup [tc (st (List.drop (((numQ x 2).2).2.1).toNat (List.take ((((numQ x 2).2).2.1) + ((numQ x 2).1)).toNat x.1))), TV.agg [.s (st (((numQ x 2).2).1)), .s (i6 ((((numQ x 2).2).2.1) + ((numQ x 2).1))), .s (i6 (((numQ x 2).2).2.2))]]) (by rw [show rowQ x = (List.drop (((numQ x 2).2).2.1).toNat (List.take ((((numQ x 2).2).2.1) + ((numQ x 2).1)).toNat x.1), ((((numQ x 2).2).1, (((numQ x 2).2).2.1) + ((numQ x 2).1), ((numQ x 2).2).2.2) : AL.Quill.ScanV)) from by first | rw [row_1 (by assumption)] | rw [row_2 (by assumption) (by assumption)] | (rw [row_3 (by assumption) (by assumption)]; done) | (rw [row_3 (by assumption) (by assumption)]; simp only [num_len, *])])
end AL.Quill
namespace AL.Policy
open Go Go.Proofs AL AL.Rune
set_option linter.unusedVariables false
set_option linter.unusedSimpArgs false
theorem f96_body : Tryz.f96.body = some (.seq (.region 0 (rg Tryz.f96 0) false) (.seq (.region 1 (rg Tryz.f96 1) false) (.seq (.region 2 (rg Tryz.f96 2) false) (.seq (.seq (.region 3 (rg Tryz.f96 3) false) (.block 0 (.loop (.seq (.region 4 (rg Tryz.f96 4) false) (.seq (.cond (.tmp 11) (.skip) (.exit 0)) (.block 1 (.seq (.region 5 (rg Tryz.f96 5) false) (.seq (.block 2 (.loop (.seq (.seq (.region 6 (rg Tryz.f96 6) false) (.cond (.tmp 21) (.skip) (.exit 2))) (.block 3 (.region 7 (rg Tryz.f96 7) false))))) (.seq (.seq (.region 8 (rg Tryz.f96 8) false) (.cond (.tmp 25) (.seq (.region 9 (rg Tryz.f96 9) false) (.ret)) (.skip))) (.seq (.region 10 (rg Tryz.f96 10) false) (.region 11 (rg Tryz.f96 11) false))))))))))) (.seq (.region 12 (rg Tryz.f96 12) false) (.ret)))))) := by kernel_rfl
set_option maxRecDepth 100000 in
set_option maxHeartbeats 8000000 in
theorem caps_c (s : Bytes) : Pure Tryz.prog 96 [tc (st s)] (AV.tup [tc (u8 ((capsR s).1)), tc (bo ((capsR s).2))]) := by
 refine Pure.of_body Tryz.func96 f96_body (by kernel_rfl) Tryz.ntmps96 (by kernel_rfl) (by kernel_rfl) ?_
 refine AMx.str 0 (b := s) rfl (fun hls => ?_)
 simp only [maxLen] at hls
 refine gS [] [] 33 [(0, vc (st s))] [] trivial ?_
 refine gS [] [] 33 [(0, vc (st s)), (4, vc (u8 0))] [] trivial ?_
 refine gS [] [] 33 [(0, vc (st s)), (4, vc (u8 0)), (5, vc (i6 0))] [] trivial ?_
 refine gQ ?_
 refine gS [] [] 33 [(4, vc (u8 0)), (5, vc (i6 0)), (9, vp 9 0)] [(9, AObj.iter s 0)] trivial ?_
 refine AMx.block ?_
 refine AMx.ent (s' := AS.lst 33 [(4, vc (u8 0)), (5, vc (i6 0)), (9, vp 9 0)] [(9, AObj.iter s 0)]) (ent_proj [4, 5, 9] [9]) ?_
 refine AMx.loop (fun mm ss => ∃ (pos : Nat) (out : Nat), (pos ≤ s.length ∧ out < 64 ∧ laysN out = List.take pos s) ∧ mm = s.length - pos ∧ ss = AS.lst 33 [(4, vc (u8 (out : Int))), (5, vc (i6 (atN out : Int))), (9, vp 9 0)] [(9, AObj.iter s pos)]) ⟨0, 0, ?_, rfl, ?_⟩ ?_
 · exact ⟨Nat.zero_le _, by omega, by rw [List.take_zero]; rfl⟩
 · rfl
 rintro mm ss ⟨pos, out, ⟨hI, hO, hS⟩, rfl, rfl⟩
 refine gQ ?_
 rcases Nat.lt_or_ge pos (List.length s) with hn1 | hn1
 ·
  have hd1 := AL.Rune.dec_ok hn1
  refine gR [(0, CE.str [])] [pos < List.length s, ((pos : Nat) : Int) ≤ 9223372036854775807] 33 [(4, vc (u8 (out : Int))), (5, vc (i6 (atN out : Int))), (9, vp 9 0), (10, AV.tup [tc (bo true), tc (i6 (pos : Int)), tc (i3 ((decS s pos).1 : Int))]), (11, vc (bo true))] [(9, AObj.iter s (pos + (decS s pos).2))] ⟨(by first | omega | (simp only [List.length_cons, List.length_nil]; omega)), (show ((pos : Nat) : Int) ≤ 9223372036854775807 from (by first | omega | (simp only [List.length_cons, List.length_nil]; omega)))⟩ ?_
  refine gQ ?_
  refine gBt ?_
  refine AMx.skip ?_
  refine AMx.block ?_
  refine gS [] [] 33 [(4, vc (u8 (out : Int))), (5, vc (i6 (atN out : Int))), (7, vc (i3 ((decS s pos).1 : Int))), (9, vp 9 0)] [(9, AObj.iter s (pos + (decS s pos).2))] trivial ?_
  refine gQ ?_
  refine AMx.block ?_
  refine AMx.ent (s' := AS.lst 33 [(4, vc (u8 (out : Int))), (5, vc (i6 (atN out : Int))), (7, vc (i3 ((decS s pos).1 : Int))), (9, vp 9 0)] [(9, AObj.iter s (pos + (decS s pos).2))]) (ent_proj [4, 5, 7, 9] [9]) ?_
  refine AMx.loop (fun mm ss => ∃ (j : Nat), (atN out ≤ j ∧ j ≤ 6 ∧ ∀ m, atN out ≤ m → m < j → ¬ (List.getD lets m 0).toNat = (decS s pos).1) ∧ mm = 6 - j ∧ ss = AS.lst 33 [(4, vc (u8 (out : Int))), (5, vc (i6 (j : Int))), (7, vc (i3 ((decS s pos).1 : Int))), (9, vp 9 0)] [(9, AObj.iter s (pos + (decS s pos).2))]) ⟨atN out, ?_, rfl, ?_⟩ ?_
  · exact ⟨Nat.le_refl _, at_le out hO, fun m h1 h2 => by omega⟩
  · rfl
  rintro mm ss ⟨j, ⟨hA, hJ, hL⟩, rfl, rfl⟩
  refine gQ ?_
  refine gS [] [((decide ((j : Int) < 6)) = true) → allP [(decide ((j : Int) < 6)) = true, (0 : Int) ≤ (j : Int), (j : Int) < List.length ([114, 119, 100, 120, 108, 115] : List UInt8)], ((decide ((j : Int) < 6)) = true) → allP [(decide ((j : Int) < 6)) = true], ((decide ((j : Int) < 6)) = true) → allP [(decide ((j : Int) < 6)) = true, (decide ((j : Int) < 6)) = true], (decide ((j : Int) < 6)) = true → allP [(decide ((j : Int) < 6)) = true]] 33 [(4, vc (u8 (out : Int))), (5, vc (i6 (j : Int))), (7, vc (i3 ((decS s pos).1 : Int))), (9, vp 9 0), (21, vc (bo ((decide ((j : Int) < 6)) && (!decide (((List.getD ([114, 119, 100, 120, 108, 115] : List UInt8) j 0).toNat : Int) = ((decS s pos).1 : Int))))))] [(9, AObj.iter s (pos + (decS s pos).2))] ⟨(fun hp => by have hq := hp; (try simp only [xT, xF, xA, xO, xB, xP, xN, xM, Bool.not_eq_true, Bool.not_eq_false] at hq); exact ⟨hp, (by first | omega | (simp only [List.length_cons, List.length_nil]; omega)), (show (j : Int) < List.length ([114, 119, 100, 120, 108, 115] : List UInt8) from (by first | omega | (simp only [List.length_cons, List.length_nil]; omega)))⟩), (fun hp => hp), (fun hp => ⟨hp, hp⟩), (fun hp2 => (by first | exact hp2 | exact ⟨hp, hp2⟩))⟩ ?_
  refine gB (((decide ((j : Int) < 6)) && (!decide (((List.getD ([114, 119, 100, 120, 108, 115] : List UInt8) j 0).toNat : Int) = ((decS s pos).1 : Int))))) (fun hc2 => ?_) fun hc2 => ?_
  ·
   try simp only [xT, xF, xA, xB, xN, xM] at hc2
   refine AMx.skip ?_
   refine AMx.block ?_
   refine gR [] [InR .i64 ((j : Int) + 1)] 33 [(4, vc (u8 (out : Int))), (5, vc (i6 ((j : Int) + 1))), (7, vc (i3 ((decS s pos).1 : Int))), (9, vp 9 0)] [(9, AObj.iter s (pos + (decS s pos).2))] (show InR .i64 ((j : Int) + 1) from (inR64 (by first | omega | (simp only [List.length_cons, List.length_nil]; omega)) (by first | omega | (simp only [List.length_cons, List.length_nil]; omega)))) ?_
   refine AMx.blk ?_
   refine AMx.ent_inv (s' := AS.lst 33 [(4, vc (u8 (out : Int))), (5, vc (i6 ((j : Int) + 1))), (7, vc (i3 ((decS s pos).1 : Int))), (9, vp 9 0)] [(9, AObj.iter s (pos + (decS s pos).2))]) (ent_proj [4, 5, 7, 9] [9]) ?_
   refine AMx.inv ⟨_, ?_, j + 1, ?_, rfl, ?_⟩
   rotate_left
   · exact ⟨by omega, by omega, fun m h1 h2 => by rcases Nat.lt_or_ge m j with q | q; exact hL m h1 q; rw [show m = j by omega]; exact fun q2 => hc2.2 (congrArg Int.ofNat q2)⟩
   · rfl
   · omega
  ·
   try simp only [xT, xF, xA, xB, xN, xM] at hc2
   refine AMx.exit ?_
   refine AMx.code_exit ?_
   refine AMx.inv_exit ?_
   refine AMx.blk_exit ?_
   refine gQ ?_
   refine gS [] [] 33 [(4, vc (u8 (out : Int))), (5, vc (i6 (j : Int))), (9, vp 9 0), (25, vc (bo (decide ((j : Int) = 6))))] [(9, AObj.iter s (pos + (decS s pos).2))] trivial ?_
   refine gC ((j : Int) = 6) (fun hc3 => ?_) fun hc3 => ?_
   ·
    refine gS [] [] 33 [(2, vc (u8 0)), (3, vc (bo false))] [] trivial ?_
    exact gT (AV.tup [tc (u8 0), tc (bo false)]) (by rw [show capsR s = (0, false) from by rw [caps_stop hO hS (by omega) (fun m h1 h2 => hL m h1 (by omega))]])
   ·
    refine AMx.skip ?_
    refine gS [] [(0 : Int) ≤ (j : Int)] 33 [(4, vc (u8 (IntKind.wrap .u8 ((BitVec.ofInt 8 (out : Int) ||| BitVec.ofInt 8 (IntKind.wrap .u8 (1 * 2 ^ (min ((j : Int) : Int).toNat (IntKind.bits .u8))))).toNat)))), (5, vc (i6 (j : Int))), (9, vp 9 0)] [(9, AObj.iter s (pos + (decS s pos).2))] (show (0 : Int) ≤ (j : Int) from (by first | omega | (simp only [List.length_cons, List.length_nil]; omega))) ?_
    refine gR [] [InR .i64 ((j : Int) + 1)] 33 [(4, vc (u8 (IntKind.wrap .u8 ((BitVec.ofInt 8 (out : Int) ||| BitVec.ofInt 8 (IntKind.wrap .u8 (1 * 2 ^ (min ((j : Int) : Int).toNat (IntKind.bits .u8))))).toNat)))), (5, vc (i6 ((j : Int) + 1))), (9, vp 9 0)] [(9, AObj.iter s (pos + (decS s pos).2))] (show InR .i64 ((j : Int) + 1) from (inR64 (by first | omega | (simp only [List.length_cons, List.length_nil]; omega)) (by first | omega | (simp only [List.length_cons, List.length_nil]; omega)))) ?_
    refine AMx.blk ?_
    refine AMx.ent_inv (s' := AS.lst 33 [(4, vc (u8 (IntKind.wrap .u8 ((BitVec.ofInt 8 (out : Int) ||| BitVec.ofInt 8 (IntKind.wrap .u8 (1 * 2 ^ (min ((j : Int) : Int).toNat (IntKind.bits .u8))))).toNat)))), (5, vc (i6 ((j : Int) + 1))), (9, vp 9 0)] [(9, AObj.iter s (pos + (decS s pos).2))]) (ent_proj [4, 5, 9] [9]) ?_
    refine AMx.inv ⟨_, ?_, pos + (decS s pos).2, out + 2 ^ j, ?_, rfl, ?_⟩
    rotate_left
    · obtain ⟨g1, g2, _⟩ := caps_next hO hS (by omega) (show j < 6 by omega) hA (by rcases hc2 with q | q; exact absurd q (by omega); exact Int.ofNat.inj q); exact ⟨by omega, g1, g2⟩
    · rw [← (caps_grow out hO j (show j < 6 by omega) hA).2.2.2, (caps_grow out hO j (show j < 6 by omega) hA).2.2.1]; rfl
    · omega
 ·
  refine gR [] [List.length s ≤ pos] 33 [(4, vc (u8 (out : Int))), (5, vc (i6 (atN out : Int))), (9, vp 9 0), (10, AV.tup [tc (bo false)]), (11, vc (bo false))] [(9, AObj.iter s pos)] (show List.length s ≤ pos from (by first | omega | (simp only [List.length_cons, List.length_nil]; omega))) ?_
  refine gQ ?_
  refine gBf ?_
  refine AMx.exit ?_
  refine AMx.code_exit ?_
  refine AMx.inv_exit ?_
  refine AMx.blk_exit ?_
  refine gS [] [] 33 [(2, vc (u8 (out : Int))), (3, vc (bo true))] [] trivial ?_
  exact gT (AV.tup [tc (u8 (out : Int)), tc (bo true)]) (by rw [show capsR s = ((out : Int), true) from by rw [caps_done hO hS (by omega)]])
theorem f66_body : Tryz.f66.body = some (.seq (.region 0 (rg Tryz.f66 0) false) (.seq (.seq (.region 1 (rg Tryz.f66 1) false) (.cond (.tmp 14) (.seq (.region 2 (rg Tryz.f66 2) false) (.ret)) (.skip))) (.seq (.region 3 (rg Tryz.f66 3) false) (.seq (.seq (.region 4 (rg Tryz.f66 4) false) (.block 0 (.loop (.seq (.region 5 (rg Tryz.f66 5) false) (.seq (.cond (.tmp 19) (.skip) (.exit 0)) (.seq (.block 1 (.seq (.region 6 (rg Tryz.f66 6) false) (.seq (.region 7 (rg Tryz.f66 7) false) (.seq (.region 8 (rg Tryz.f66 8) false) (.seq (.seq (.region 9 (rg Tryz.f66 9) false) (.cond (.tmp 38) (.seq (.region 10 (rg Tryz.f66 10) false) (.ret)) (.skip))) (.region 11 (rg Tryz.f66 11) false)))))) (.region 12 (rg Tryz.f66 12) false))))))) (.seq (.seq (.region 13 (rg Tryz.f66 13) false) (.seq (.region 14 (rg Tryz.f66 14) false) (.cond (.tmp 49) (.seq (.region 15 (rg Tryz.f66 15) false) (.ret)) (.skip)))) (.seq (.region 16 (rg Tryz.f66 16) false) (.ret))))))) := by kernel_rfl
set_option maxRecDepth 100000 in
set_option maxHeartbeats 8000000 in
theorem Parse_c (s : Bytes) (hb : s.length ≤ 100000) : Pure Tryz.prog 66 [tc (st s)] (AV.tup [tc (slP ((parseP s).1)), tc (i6 ((parseP s).2))]) := by
 refine Pure.of_body Tryz.func66 f66_body (by kernel_rfl) Tryz.ntmps66 (by kernel_rfl) (by kernel_rfl) ?_
 have hsl := split_le 44 s
 refine gS [] [] 52 [(0, vc (st s))] [] trivial ?_
 refine gQ ?_
 refine gS [] [] 52 [(0, vc (st s)), (14, vc (bo (decide (s = []))))] [] trivial ?_
 refine gC (s = []) (fun hc1 => ?_) fun hc1 => ?_
 ·
  refine gS [] [] 52 [(2, vc (SC.nilsl)), (3, vc (i6 0))] [] trivial ?_
  refine AMx.ent (ent_weak 2 (v' := vc (slP [])) (by kernel_rfl) (AV.le_t (TV.le_c AC.le_nil))) ?_
  exact gT (AV.tup [tc (slP []), tc (i6 0)]) (by rw [show parseP s = ([], 0) from by rw [hc1]; rfl])
 ·
  refine AMx.skip ?_
  refine gS [] [] 52 [(0, vc (st s)), (4, vc (SC.nilsl))] [] trivial ?_
  refine gQ ?_
  refine gS [(1, CE.call [] [] (vc (AL.Fnv.slS (AL.Sep.splitC 44 s))) [])] [Spec Tryz.prog 94 [tc (st s), tc (st [44])] (ofH []) (vc (AL.Fnv.slS (AL.Sep.splitC 44 s))) (ofH [])] 52 [(4, vc (SC.nilsl)), (16, vc (AL.Fnv.slS (AL.Sep.splitC 44 s))), (17, vc (i6 (List.length (AL.Sep.splitC 44 s : List Bytes) : Int))), (18, vc (i6 0))] [] (AL.Sep.Split_c 44 s (by first | omega | ((try simp only [List.length_append, List.length_cons, List.length_nil, List.length_replicate, List.length_map, List.length_take, List.length_drop, pref_len, ruled_len]); omega) | (have hpc := Sep.mem_len (Lib.getD_mem [] (AL.Sep.splitC 44 s) k (by omega)); omega))) ?_
  refine AMx.block ?_
  refine AMx.ent (s' := AS.lst 52 [(4, vo 4), (16, vc (AL.Fnv.slS (AL.Sep.splitC 44 s))), (17, vc (i6 (List.length (AL.Sep.splitC 44 s : List Bytes) : Int))), (18, vc (i6 0))] [(4, AObj.grow 80 2 RuleV ([], 0) rowP [])]) (ent_adopt (t := 4) (d := 4) 80 2 RuleV ([], 0) rowP (by kernel_rfl) (by kernel_rfl) (by kernel_rfl) (by kernel_rfl)) ?_
  refine AMx.ent (s' := AS.lst 52 [(4, vo 4), (16, vc (AL.Fnv.slS (AL.Sep.splitC 44 s))), (17, vc (i6 (List.length (AL.Sep.splitC 44 s : List Bytes) : Int))), (18, vc (i6 0))] [(4, AObj.grow 80 2 RuleV ([], 0) rowP [])]) (ent_proj [4, 16, 17, 18] [4]) ?_
  refine AMx.loop (fun mm ss => ∃ (k : Nat), (k ≤ (AL.Sep.splitC 44 s).length ∧ fineS (List.take k (AL.Sep.splitC 44 s)) = true) ∧ mm = (AL.Sep.splitC 44 s).length - k ∧ ss = AS.lst 52 [(4, vo 4), (16, vc (AL.Fnv.slS (AL.Sep.splitC 44 s))), (17, vc (i6 (List.length (AL.Sep.splitC 44 s : List Bytes) : Int))), (18, vc (i6 (k : Int)))] [(4, AObj.grow 80 2 RuleV ([], 0) rowP (ruled (List.take k (AL.Sep.splitC 44 s))))]) ⟨0, ?_, rfl, ?_⟩ ?_
  · exact ⟨Nat.zero_le _, rfl⟩
  · rfl
  rintro mm ss ⟨k, ⟨hI, hN⟩, rfl, rfl⟩
  refine gS [] [] 52 [(4, vo 4), (16, vc (AL.Fnv.slS (AL.Sep.splitC 44 s))), (17, vc (i6 (List.length (AL.Sep.splitC 44 s : List Bytes) : Int))), (18, vc (i6 (k : Int))), (19, vc (bo (decide ((k : Int) < (List.length (AL.Sep.splitC 44 s : List Bytes) : Int)))))] [(4, AObj.grow 80 2 RuleV ([], 0) rowP (ruled (List.take k (AL.Sep.splitC 44 s))))] trivial ?_
  refine gQ ?_
  refine gC ((k : Int) < (List.length (AL.Sep.splitC 44 s : List Bytes) : Int)) (fun hc2 => ?_) fun hc2 => ?_
  ·
   refine AMx.skip ?_
   refine gQ ?_
   refine AMx.block ?_
   refine gS [] [(0 : Int) ≤ (k : Int), (k : Int) < List.length (AL.Sep.splitC 44 s : List Bytes)] 52 [(4, vo 4), (6, vc (st (List.getD (AL.Sep.splitC 44 s) k []))), (16, vc (AL.Fnv.slS (AL.Sep.splitC 44 s))), (17, vc (i6 (List.length (AL.Sep.splitC 44 s : List Bytes) : Int))), (18, vc (i6 (k : Int)))] [(4, AObj.grow 80 2 RuleV ([], 0) rowP (ruled (List.take k (AL.Sep.splitC 44 s))))] ⟨(by first | omega | ((try simp only [List.length_append, List.length_cons, List.length_nil, List.length_replicate, List.length_map, List.length_take, List.length_drop, pref_len, ruled_len]); omega) | (have hpc := Sep.mem_len (Lib.getD_mem [] (AL.Sep.splitC 44 s) k (by omega)); omega)), (show (k : Int) < List.length (AL.Sep.splitC 44 s : List Bytes) from (by first | omega | ((try simp only [List.length_append, List.length_cons, List.length_nil, List.length_replicate, List.length_map, List.length_take, List.length_drop, pref_len, ruled_len]); omega) | (have hpc := Sep.mem_len (Lib.getD_mem [] (AL.Sep.splitC 44 s) k (by omega)); omega)))⟩ ?_
   refine gS [(1, CE.call [] [] (AV.tup [tc (st ((AL.Sep.cutAt 58 (List.getD (AL.Sep.splitC 44 s) k [])).1)), tc (st ((AL.Sep.cutAt 58 (List.getD (AL.Sep.splitC 44 s) k [])).2.1)), tc (bo ((AL.Sep.cutAt 58 (List.getD (AL.Sep.splitC 44 s) k [])).2.2))]) [])] [Spec Tryz.prog 95 [tc (st (List.getD (AL.Sep.splitC 44 s) k [])), tc (st [58])] (ofH []) (AV.tup [tc (st ((AL.Sep.cutAt 58 (List.getD (AL.Sep.splitC 44 s) k [])).1)), tc (st ((AL.Sep.cutAt 58 (List.getD (AL.Sep.splitC 44 s) k [])).2.1)), tc (bo ((AL.Sep.cutAt 58 (List.getD (AL.Sep.splitC 44 s) k [])).2.2))]) (ofH [])] 52 [(4, vo 4), (7, vc (st ((AL.Sep.cutAt 58 (List.getD (AL.Sep.splitC 44 s) k [])).1))), (8, vc (st ((AL.Sep.cutAt 58 (List.getD (AL.Sep.splitC 44 s) k [])).2.1))), (9, vc (bo ((AL.Sep.cutAt 58 (List.getD (AL.Sep.splitC 44 s) k [])).2.2))), (16, vc (AL.Fnv.slS (AL.Sep.splitC 44 s))), (17, vc (i6 (List.length (AL.Sep.splitC 44 s : List Bytes) : Int))), (18, vc (i6 (k : Int)))] [(4, AObj.grow 80 2 RuleV ([], 0) rowP (ruled (List.take k (AL.Sep.splitC 44 s))))] (AL.Sep.Cut_c 58 (List.getD (AL.Sep.splitC 44 s) k [])) ?_
   refine gS [(1, CE.call [] [] (AV.tup [tc (u8 ((capsR ((AL.Sep.cutAt 58 (List.getD (AL.Sep.splitC 44 s) k [])).2.1)).1)), tc (bo ((capsR ((AL.Sep.cutAt 58 (List.getD (AL.Sep.splitC 44 s) k [])).2.1)).2))]) [])] [Spec Tryz.prog 96 [tc (st ((AL.Sep.cutAt 58 (List.getD (AL.Sep.splitC 44 s) k [])).2.1))] (ofH []) (AV.tup [tc (u8 ((capsR ((AL.Sep.cutAt 58 (List.getD (AL.Sep.splitC 44 s) k [])).2.1)).1)), tc (bo ((capsR ((AL.Sep.cutAt 58 (List.getD (AL.Sep.splitC 44 s) k [])).2.1)).2))]) (ofH [])] 52 [(4, vo 4), (7, vc (st ((AL.Sep.cutAt 58 (List.getD (AL.Sep.splitC 44 s) k [])).1))), (9, vc (bo ((AL.Sep.cutAt 58 (List.getD (AL.Sep.splitC 44 s) k [])).2.2))), (10, vc (u8 ((capsR ((AL.Sep.cutAt 58 (List.getD (AL.Sep.splitC 44 s) k [])).2.1)).1))), (11, vc (bo ((capsR ((AL.Sep.cutAt 58 (List.getD (AL.Sep.splitC 44 s) k [])).2.1)).2))), (16, vc (AL.Fnv.slS (AL.Sep.splitC 44 s))), (17, vc (i6 (List.length (AL.Sep.splitC 44 s : List Bytes) : Int))), (18, vc (i6 (k : Int)))] [(4, AObj.grow 80 2 RuleV ([], 0) rowP (ruled (List.take k (AL.Sep.splitC 44 s))))] (caps_c ((AL.Sep.cutAt 58 (List.getD (AL.Sep.splitC 44 s) k [])).2.1)) ?_
   refine gQ ?_
   refine gS [] [((!((AL.Sep.cutAt 58 (List.getD (AL.Sep.splitC 44 s) k [])).2.2)) = false) → allP [(!((AL.Sep.cutAt 58 (List.getD (AL.Sep.splitC 44 s) k [])).2.2)) = false], (!((AL.Sep.cutAt 58 (List.getD (AL.Sep.splitC 44 s) k [])).2.2)) = false → allP [(!((AL.Sep.cutAt 58 (List.getD (AL.Sep.splitC 44 s) k [])).2.2)) = false]] 52 [(4, vo 4), (7, vc (st ((AL.Sep.cutAt 58 (List.getD (AL.Sep.splitC 44 s) k [])).1))), (10, vc (u8 ((capsR ((AL.Sep.cutAt 58 (List.getD (AL.Sep.splitC 44 s) k [])).2.1)).1))), (16, vc (AL.Fnv.slS (AL.Sep.splitC 44 s))), (17, vc (i6 (List.length (AL.Sep.splitC 44 s : List Bytes) : Int))), (18, vc (i6 (k : Int))), (38, vc (bo ((!((AL.Sep.cutAt 58 (List.getD (AL.Sep.splitC 44 s) k [])).2.2)) || (!((capsR ((AL.Sep.cutAt 58 (List.getD (AL.Sep.splitC 44 s) k [])).2.1)).2)))))] [(4, AObj.grow 80 2 RuleV ([], 0) rowP (ruled (List.take k (AL.Sep.splitC 44 s))))] ⟨(fun hp => hp), (fun hp2 => (by first | exact hp2 | exact ⟨hp, hp2⟩))⟩ ?_
   refine gB (((!((AL.Sep.cutAt 58 (List.getD (AL.Sep.splitC 44 s) k [])).2.2)) || (!((capsR ((AL.Sep.cutAt 58 (List.getD (AL.Sep.splitC 44 s) k [])).2.1)).2)))) (fun hc3 => ?_) fun hc3 => ?_
   ·
    try simp only [xT, xF, xO, xP, xN, xM] at hc3
    refine gS [] [] 52 [(2, vc (SC.nilsl)), (3, vc (i6 4))] [] trivial ?_
    refine AMx.ent (ent_weak 2 (v' := vc (slP [])) (by kernel_rfl) (AV.le_t (TV.le_c AC.le_nil))) ?_
    exact gT (AV.tup [tc (slP []), tc (i6 4)]) (by rw [show parseP s = ([], 4) from by rw [parse_bad hc1 (fine_bad (k := k) (by omega) (by rw [scan_no (fun q => by rcases hc3 with z | z; rw [q.1] at z; cases z; rw [q.2] at z; cases z)]))]])
   ·
    try simp only [xT, xF, xO, xP, xN, xM] at hc3
    refine AMx.skip ?_
    refine gR [(4, CE.obj (AObj.grow 80 2 RuleV ([], 0) rowP [(((AL.Sep.cutAt 58 (List.getD (AL.Sep.splitC 44 s) k [])).1, (capsR ((AL.Sep.cutAt 58 (List.getD (AL.Sep.splitC 44 s) k [])).2.1)).1) : RuleV)])), (5, CE.obj (AObj.grow 80 2 RuleV ([], 0) rowP ((ruled (List.take k (AL.Sep.splitC 44 s))) ++ [(((AL.Sep.cutAt 58 (List.getD (AL.Sep.splitC 44 s) k [])).1, (capsR ((AL.Sep.cutAt 58 (List.getD (AL.Sep.splitC 44 s) k [])).2.1)).1) : RuleV)])))] [flat 2 rowP [(((AL.Sep.cutAt 58 (List.getD (AL.Sep.splitC 44 s) k [])).1, (capsR ((AL.Sep.cutAt 58 (List.getD (AL.Sep.splitC 44 s) k [])).2.1)).1) : RuleV)] = [.s (st ((AL.Sep.cutAt 58 (List.getD (AL.Sep.splitC 44 s) k [])).1)), .s (u8 ((capsR ((AL.Sep.cutAt 58 (List.getD (AL.Sep.splitC 44 s) k [])).2.1)).1))], List.length ([(((AL.Sep.cutAt 58 (List.getD (AL.Sep.splitC 44 s) k [])).1, (capsR ((AL.Sep.cutAt 58 (List.getD (AL.Sep.splitC 44 s) k [])).2.1)).1) : RuleV)] : List RuleV) = 1, AppC (flat 2 rowP [(((AL.Sep.cutAt 58 (List.getD (AL.Sep.splitC 44 s) k [])).1, (capsR ((AL.Sep.cutAt 58 (List.getD (AL.Sep.splitC 44 s) k [])).2.1)).1) : RuleV)]) (List.length ([(((AL.Sep.cutAt 58 (List.getD (AL.Sep.splitC 44 s) k [])).1, (capsR ((AL.Sep.cutAt 58 (List.getD (AL.Sep.splitC 44 s) k [])).2.1)).1) : RuleV)] : List RuleV)) 24 (AObj.grow 80 2 RuleV ([], 0) rowP (ruled (List.take k (AL.Sep.splitC 44 s)))) (AObj.grow 80 2 RuleV ([], 0) rowP ((ruled (List.take k (AL.Sep.splitC 44 s))) ++ [(((AL.Sep.cutAt 58 (List.getD (AL.Sep.splitC 44 s) k [])).1, (capsR ((AL.Sep.cutAt 58 (List.getD (AL.Sep.splitC 44 s) k [])).2.1)).1) : RuleV)]))] 52 [(4, vo 44), (16, vc (AL.Fnv.slS (AL.Sep.splitC 44 s))), (17, vc (i6 (List.length (AL.Sep.splitC 44 s : List Bytes) : Int))), (18, vc (i6 (k : Int)))] [(44, AObj.grow 80 2 RuleV ([], 0) rowP ((ruled (List.take k (AL.Sep.splitC 44 s))) ++ [(((AL.Sep.cutAt 58 (List.getD (AL.Sep.splitC 44 s) k [])).1, (capsR ((AL.Sep.cutAt 58 (List.getD (AL.Sep.splitC 44 s) k [])).2.1)).1) : RuleV)]))] ⟨rfl, rfl, (⟨_, rfl, rfl, rfl, by simp only [List.length_append, List.length_cons, List.length_nil, List.length_replicate, List.length_map, List.length_take, List.length_drop, pref_len, ruled_len]; omega, by simp only [maxLen, List.length_append, List.length_cons, List.length_nil, List.length_replicate, List.length_map, List.length_take, List.length_drop, pref_len, ruled_len]; omega⟩)⟩ ?_
    refine AMx.blk ?_
    refine gR [] [InR .i64 ((k : Int) + 1)] 52 [(4, vo 44), (16, vc (AL.Fnv.slS (AL.Sep.splitC 44 s))), (17, vc (i6 (List.length (AL.Sep.splitC 44 s : List Bytes) : Int))), (18, vc (i6 ((k : Int) + 1)))] [(44, AObj.grow 80 2 RuleV ([], 0) rowP ((ruled (List.take k (AL.Sep.splitC 44 s))) ++ [(((AL.Sep.cutAt 58 (List.getD (AL.Sep.splitC 44 s) k [])).1, (capsR ((AL.Sep.cutAt 58 (List.getD (AL.Sep.splitC 44 s) k [])).2.1)).1) : RuleV)]))] (show InR .i64 ((k : Int) + 1) from (inR64 (by first | omega | ((try simp only [List.length_append, List.length_cons, List.length_nil, List.length_replicate, List.length_map, List.length_take, List.length_drop, pref_len, ruled_len]); omega) | (have hpc := Sep.mem_len (Lib.getD_mem [] (AL.Sep.splitC 44 s) k (by omega)); omega)) (by first | omega | ((try simp only [List.length_append, List.length_cons, List.length_nil, List.length_replicate, List.length_map, List.length_take, List.length_drop, pref_len, ruled_len]); omega) | (have hpc := Sep.mem_len (Lib.getD_mem [] (AL.Sep.splitC 44 s) k (by omega)); omega)))) ?_
    refine AMx.ent_inv (s' := AS.lst 52 [(4, vo 4), (16, vc (AL.Fnv.slS (AL.Sep.splitC 44 s))), (17, vc (i6 (List.length (AL.Sep.splitC 44 s : List Bytes) : Int))), (18, vc (i6 ((k : Int) + 1)))] [(4, AObj.grow 80 2 RuleV ([], 0) rowP ((ruled (List.take k (AL.Sep.splitC 44 s))) ++ [(((AL.Sep.cutAt 58 (List.getD (AL.Sep.splitC 44 s) k [])).1, (capsR ((AL.Sep.cutAt 58 (List.getD (AL.Sep.splitC 44 s) k [])).2.1)).1) : RuleV)]))]) (ent_swap 44 4 (by kernel_rfl) (by kernel_rfl)) ?_
    refine AMx.ent_inv (s' := AS.lst 52 [(4, vo 4), (16, vc (AL.Fnv.slS (AL.Sep.splitC 44 s))), (17, vc (i6 (List.length (AL.Sep.splitC 44 s : List Bytes) : Int))), (18, vc (i6 ((k : Int) + 1)))] [(4, AObj.grow 80 2 RuleV ([], 0) rowP ((ruled (List.take k (AL.Sep.splitC 44 s))) ++ [(((AL.Sep.cutAt 58 (List.getD (AL.Sep.splitC 44 s) k [])).1, (capsR ((AL.Sep.cutAt 58 (List.getD (AL.Sep.splitC 44 s) k [])).2.1)).1) : RuleV)]))]) (ent_proj [4, 16, 17, 18] [4]) ?_
    refine AMx.inv ⟨_, ?_, k + 1, ?_, rfl, ?_⟩
    rotate_left
    · exact ⟨by omega, fine_step (by omega) hN (by rw [scan_ok hc3.1 hc3.2])⟩
    · rw [← ruled_step (AL.Sep.splitC 44 s) k (by omega), scan_ok hc3.1 hc3.2]; rfl
    · omega
  ·
   refine AMx.exit ?_
   refine AMx.code_exit ?_
   refine AMx.inv_exit ?_
   refine AMx.blk_exit ?_
   rw [show List.take k (AL.Sep.splitC 44 s) = AL.Sep.splitC 44 s from List.take_of_length_le (by omega)]
   refine gQ ?_
   refine gQ ?_
   refine AMx.ent (s' := AS.lst 52 [(4, vc (slP (ruled (AL.Sep.splitC 44 s)))), (16, vc (AL.Fnv.slS (AL.Sep.splitC 44 s))), (17, vc (i6 (List.length (AL.Sep.splitC 44 s : List Bytes) : Int))), (18, vc (i6 (k : Int))), (19, vc (bo (decide ((k : Int) < (List.length (AL.Sep.splitC 44 s : List Bytes) : Int)))))] []) (ent_freeze (id := 4) (T := 80) (by kernel_rfl)) ?_
   refine gR [(1, CE.call [] [] (vc (i6 (checkP (ruled (AL.Sep.splitC 44 s))))) [])] [Spec Tryz.prog 41 [tc (slP (ruled (AL.Sep.splitC 44 s)))] (ofH []) (vc (i6 (checkP (ruled (AL.Sep.splitC 44 s))))) (ofH [])] 52 [(4, vc (slP (ruled (AL.Sep.splitC 44 s)))), (12, vc (i6 (checkP (ruled (AL.Sep.splitC 44 s)))))] [] (Check_c (ruled (AL.Sep.splitC 44 s))) ?_
   refine gS [] [] 52 [(4, vc (slP (ruled (AL.Sep.splitC 44 s)))), (12, vc (i6 (checkP (ruled (AL.Sep.splitC 44 s))))), (49, vc (bo (!decide (checkP (ruled (AL.Sep.splitC 44 s)) = 0))))] [] trivial ?_
   refine gN (checkP (ruled (AL.Sep.splitC 44 s)) = 0) (fun hc4 => ?_) fun hc4 => ?_
   ·
    refine gS [] [] 52 [(2, vc (SC.nilsl)), (3, vc (i6 (checkP (ruled (AL.Sep.splitC 44 s)))))] [] trivial ?_
    refine AMx.ent (ent_weak 2 (v' := vc (slP [])) (by kernel_rfl) (AV.le_t (TV.le_c AC.le_nil))) ?_
    exact gT (AV.tup [tc (slP []), tc (i6 (checkP (ruled (AL.Sep.splitC 44 s))))]) (by rw [show parseP s = ([], checkP (ruled (AL.Sep.splitC 44 s))) from by have hf : fineS (Sep.splitC 44 s) = true := (by rw [← hN, List.take_of_length_le (by omega)]); rw [parse_no hc1 hf (by assumption)]])
   ·
    refine AMx.skip ?_
    refine gS [] [] 52 [(2, vc (slP (ruled (AL.Sep.splitC 44 s)))), (3, vc (i6 0))] [] trivial ?_
    exact gT (AV.tup [tc (slP (ruled (AL.Sep.splitC 44 s))), tc (i6 0)]) (by rw [show parseP s = (ruled (AL.Sep.splitC 44 s), 0) from by have hf : fineS (Sep.splitC 44 s) = true := (by rw [← hN, List.take_of_length_le (by omega)]); rw [parse_ok hc1 hf (by assumption)]])
end AL.Policy
namespace AL.Token
open Go Go.Proofs AL
open AL.Policy (RuleV rowP slP checkP coversS capsP)
set_option linter.unusedVariables false
set_option linter.unusedSimpArgs false
theorem f62_body : Tryz.f62.body = some (.seq (.region 0 (rg Tryz.f62 0) false) (.seq (.seq (.region 1 (rg Tryz.f62 1) false) (.cond (.tmp 12) (.seq (.region 2 (rg Tryz.f62 2) false) (.ret)) (.skip))) (.seq (.region 3 (rg Tryz.f62 3) false) (.seq (.seq (.region 4 (rg Tryz.f62 4) false) (.block 0 (.loop (.seq (.region 5 (rg Tryz.f62 5) false) (.seq (.cond (.tmp 16) (.skip) (.exit 0)) (.seq (.block 1 (.seq (.region 6 (rg Tryz.f62 6) false) (.seq (.seq (.region 7 (rg Tryz.f62 7) false) (.cond (.tmp 21) (.seq (.region 8 (rg Tryz.f62 8) false) (.ret)) (.skip))) (.region 9 (rg Tryz.f62 9) false)))) (.region 10 (rg Tryz.f62 10) false))))))) (.seq (.region 11 (rg Tryz.f62 11) false) (.seq (.seq (.region 12 (rg Tryz.f62 12) false) (.block 2 (.loop (.seq (.region 13 (rg Tryz.f62 13) false) (.seq (.cond (.tmp 33) (.skip) (.exit 2)) (.seq (.block 3 (.seq (.region 14 (rg Tryz.f62 14) false) (.seq (.region 15 (rg Tryz.f62 15) false) (.region 16 (rg Tryz.f62 16) false)))) (.region 17 (rg Tryz.f62 17) false))))))) (.seq (.region 18 (rg Tryz.f62 18) false) (.ret)))))))) := by kernel_rfl
set_option maxRecDepth 100000 in
set_option maxHeartbeats 8000000 in
theorem Rows_c (l : List Bytes) (hl : l.length ≤ 1000) (hs : ∀ s ∈ l, s.length ≤ 65535) (ht : (rowsB l).length ≤ 800000) : ∀ d, Spec Tryz.prog 62 [tc (AL.Fnv.slS l)] H0 (.tup [.c (.own d), tc (i6 0)]) (ofH [(d, AObj.grow 5 1 UInt8 0 rowU8 (rowsB l))]) := by
 refine OwnT.of_body Tryz.func62 f62_body (by kernel_rfl) Tryz.ntmps62 (by kernel_rfl) rfl (by kernel_rfl) ?_
 refine gS [] [] 46 [(0, vc (AL.Fnv.slS l))] [] trivial ?_
 refine gQ ?_
 refine gS [] [] 46 [(0, vc (AL.Fnv.slS l)), (12, vc (bo (decide (1024 < (List.length l : Int)))))] [] trivial ?_
 refine gC (1024 < (List.length l : Int)) (fun hc1 => ?_) fun hc1 => ?_
 ·
  refine gS [] [] 46 [(2, vc (SC.nilsl)), (3, vc (i6 24))] [] trivial ?_
  exfalso
  first | omega | (have z2 := rows_le l k; omega) | (have z1 := rows_len l k (by omega); have z2 := rows_le l (k + 1); have z3 := hs _ (Lib.getD_mem [] l k (by omega)); first | omega | (simp only [List.length_append, List.length_cons, List.length_nil, AL.Quill.be2_len]; omega)) | (have z1 := rows_len l m (by omega); have z2 := rows_le l (m + 1); have z3 := hs _ (Lib.getD_mem [] l m (by omega)); first | omega | (simp only [List.length_append, List.length_cons, List.length_nil, AL.Quill.be2_len]; omega))
 ·
  refine AMx.skip ?_
  refine gS [] [] 46 [(0, vc (AL.Fnv.slS l)), (4, vc (i6 0))] [] trivial ?_
  refine gQ ?_
  refine gS [] [] 46 [(0, vc (AL.Fnv.slS l)), (4, vc (i6 0)), (13, vc (AL.Fnv.slS l)), (14, vc (i6 (List.length l : Int))), (15, vc (i6 0))] [] trivial ?_
  refine AMx.block ?_
  refine AMx.ent (s' := AS.lst 46 [(0, vc (AL.Fnv.slS l)), (4, vc (i6 0)), (13, vc (AL.Fnv.slS l)), (14, vc (i6 (List.length l : Int))), (15, vc (i6 0))] []) (ent_proj [0, 4, 13, 14, 15] []) ?_
  refine AMx.loop (fun mm ss => ∃ (k : Nat), (k ≤ l.length) ∧ mm = l.length - k ∧ ss = AS.lst 46 [(0, vc (AL.Fnv.slS l)), (4, vc (i6 ((rowsB (List.take k l)).length : Int))), (13, vc (AL.Fnv.slS l)), (14, vc (i6 (List.length l : Int))), (15, vc (i6 (k : Int)))] []) ⟨0, ?_, rfl, ?_⟩ ?_
  · omega
  · rfl
  rintro mm ss ⟨k, hI, rfl, rfl⟩
  refine gS [] [] 46 [(0, vc (AL.Fnv.slS l)), (4, vc (i6 ((rowsB (List.take k l)).length : Int))), (13, vc (AL.Fnv.slS l)), (14, vc (i6 (List.length l : Int))), (15, vc (i6 (k : Int))), (16, vc (bo (decide ((k : Int) < (List.length l : Int)))))] [] trivial ?_
  refine gQ ?_
  refine gC ((k : Int) < (List.length l : Int)) (fun hc2 => ?_) fun hc2 => ?_
  ·
   refine AMx.skip ?_
   refine gQ ?_
   refine AMx.block ?_
   refine gS [] [(0 : Int) ≤ (k : Int), (k : Int) < List.length l] 46 [(0, vc (AL.Fnv.slS l)), (4, vc (i6 ((rowsB (List.take k l)).length : Int))), (6, vc (st (List.getD l k []))), (13, vc (AL.Fnv.slS l)), (14, vc (i6 (List.length l : Int))), (15, vc (i6 (k : Int)))] [] ⟨(by first | omega | (have z2 := rows_le l k; omega) | (have z1 := rows_len l k (by omega); have z2 := rows_le l (k + 1); have z3 := hs _ (Lib.getD_mem [] l k (by omega)); first | omega | (simp only [List.length_append, List.length_cons, List.length_nil, AL.Quill.be2_len]; omega)) | (have z1 := rows_len l m (by omega); have z2 := rows_le l (m + 1); have z3 := hs _ (Lib.getD_mem [] l m (by omega)); first | omega | (simp only [List.length_append, List.length_cons, List.length_nil, AL.Quill.be2_len]; omega))), (show (k : Int) < List.length l from (by first | omega | (have z2 := rows_le l k; omega) | (have z1 := rows_len l k (by omega); have z2 := rows_le l (k + 1); have z3 := hs _ (Lib.getD_mem [] l k (by omega)); first | omega | (simp only [List.length_append, List.length_cons, List.length_nil, AL.Quill.be2_len]; omega)) | (have z1 := rows_len l m (by omega); have z2 := rows_le l (m + 1); have z3 := hs _ (Lib.getD_mem [] l m (by omega)); first | omega | (simp only [List.length_append, List.length_cons, List.length_nil, AL.Quill.be2_len]; omega))))⟩ ?_
   refine gQ ?_
   refine gS [] [] 46 [(0, vc (AL.Fnv.slS l)), (4, vc (i6 ((rowsB (List.take k l)).length : Int))), (6, vc (st (List.getD l k []))), (13, vc (AL.Fnv.slS l)), (14, vc (i6 (List.length l : Int))), (15, vc (i6 (k : Int))), (21, vc (bo (decide (65535 < (List.length ((List.getD l k []) : List UInt8) : Int)))))] [] trivial ?_
   refine gC (65535 < (List.length ((List.getD l k []) : List UInt8) : Int)) (fun hc3 => ?_) fun hc3 => ?_
   ·
    refine gS [] [] 46 [(2, vc (SC.nilsl)), (3, vc (i6 5))] [] trivial ?_
    exfalso
    first | omega | (have z2 := rows_le l k; omega) | (have z1 := rows_len l k (by omega); have z2 := rows_le l (k + 1); have z3 := hs _ (Lib.getD_mem [] l k (by omega)); first | omega | (simp only [List.length_append, List.length_cons, List.length_nil, AL.Quill.be2_len]; omega)) | (have z1 := rows_len l m (by omega); have z2 := rows_le l (m + 1); have z3 := hs _ (Lib.getD_mem [] l m (by omega)); first | omega | (simp only [List.length_append, List.length_cons, List.length_nil, AL.Quill.be2_len]; omega))
   ·
    refine AMx.skip ?_
    refine gR [] [InR .i64 (2 + (List.length ((List.getD l k []) : List UInt8) : Int)), InR .i64 (((rowsB (List.take k l)).length : Int) + (2 + (List.length ((List.getD l k []) : List UInt8) : Int)))] 46 [(0, vc (AL.Fnv.slS l)), (4, vc (i6 (((rowsB (List.take k l)).length : Int) + (2 + (List.length ((List.getD l k []) : List UInt8) : Int))))), (13, vc (AL.Fnv.slS l)), (14, vc (i6 (List.length l : Int))), (15, vc (i6 (k : Int)))] [] ⟨(inR64 (by first | omega | (have z2 := rows_le l k; omega) | (have z1 := rows_len l k (by omega); have z2 := rows_le l (k + 1); have z3 := hs _ (Lib.getD_mem [] l k (by omega)); first | omega | (simp only [List.length_append, List.length_cons, List.length_nil, AL.Quill.be2_len]; omega)) | (have z1 := rows_len l m (by omega); have z2 := rows_le l (m + 1); have z3 := hs _ (Lib.getD_mem [] l m (by omega)); first | omega | (simp only [List.length_append, List.length_cons, List.length_nil, AL.Quill.be2_len]; omega))) (by first | omega | (have z2 := rows_le l k; omega) | (have z1 := rows_len l k (by omega); have z2 := rows_le l (k + 1); have z3 := hs _ (Lib.getD_mem [] l k (by omega)); first | omega | (simp only [List.length_append, List.length_cons, List.length_nil, AL.Quill.be2_len]; omega)) | (have z1 := rows_len l m (by omega); have z2 := rows_le l (m + 1); have z3 := hs _ (Lib.getD_mem [] l m (by omega)); first | omega | (simp only [List.length_append, List.length_cons, List.length_nil, AL.Quill.be2_len]; omega)))), (show InR .i64 (((rowsB (List.take k l)).length : Int) + (2 + (List.length ((List.getD l k []) : List UInt8) : Int))) from (inR64 (by first | omega | (have z2 := rows_le l k; omega) | (have z1 := rows_len l k (by omega); have z2 := rows_le l (k + 1); have z3 := hs _ (Lib.getD_mem [] l k (by omega)); first | omega | (simp only [List.length_append, List.length_cons, List.length_nil, AL.Quill.be2_len]; omega)) | (have z1 := rows_len l m (by omega); have z2 := rows_le l (m + 1); have z3 := hs _ (Lib.getD_mem [] l m (by omega)); first | omega | (simp only [List.length_append, List.length_cons, List.length_nil, AL.Quill.be2_len]; omega))) (by first | omega | (have z2 := rows_le l k; omega) | (have z1 := rows_len l k (by omega); have z2 := rows_le l (k + 1); have z3 := hs _ (Lib.getD_mem [] l k (by omega)); first | omega | (simp only [List.length_append, List.length_cons, List.length_nil, AL.Quill.be2_len]; omega)) | (have z1 := rows_len l m (by omega); have z2 := rows_le l (m + 1); have z3 := hs _ (Lib.getD_mem [] l m (by omega)); first | omega | (simp only [List.length_append, List.length_cons, List.length_nil, AL.Quill.be2_len]; omega)))))⟩ ?_
    refine AMx.blk ?_
    refine gR [] [InR .i64 ((k : Int) + 1)] 46 [(0, vc (AL.Fnv.slS l)), (4, vc (i6 (((rowsB (List.take k l)).length : Int) + (2 + (List.length ((List.getD l k []) : List UInt8) : Int))))), (13, vc (AL.Fnv.slS l)), (14, vc (i6 (List.length l : Int))), (15, vc (i6 ((k : Int) + 1)))] [] (show InR .i64 ((k : Int) + 1) from (inR64 (by first | omega | (have z2 := rows_le l k; omega) | (have z1 := rows_len l k (by omega); have z2 := rows_le l (k + 1); have z3 := hs _ (Lib.getD_mem [] l k (by omega)); first | omega | (simp only [List.length_append, List.length_cons, List.length_nil, AL.Quill.be2_len]; omega)) | (have z1 := rows_len l m (by omega); have z2 := rows_le l (m + 1); have z3 := hs _ (Lib.getD_mem [] l m (by omega)); first | omega | (simp only [List.length_append, List.length_cons, List.length_nil, AL.Quill.be2_len]; omega))) (by first | omega | (have z2 := rows_le l k; omega) | (have z1 := rows_len l k (by omega); have z2 := rows_le l (k + 1); have z3 := hs _ (Lib.getD_mem [] l k (by omega)); first | omega | (simp only [List.length_append, List.length_cons, List.length_nil, AL.Quill.be2_len]; omega)) | (have z1 := rows_len l m (by omega); have z2 := rows_le l (m + 1); have z3 := hs _ (Lib.getD_mem [] l m (by omega)); first | omega | (simp only [List.length_append, List.length_cons, List.length_nil, AL.Quill.be2_len]; omega))))) ?_
    refine AMx.ent_inv (s' := AS.lst 46 [(0, vc (AL.Fnv.slS l)), (4, vc (i6 (((rowsB (List.take k l)).length : Int) + (2 + (List.length ((List.getD l k []) : List UInt8) : Int))))), (13, vc (AL.Fnv.slS l)), (14, vc (i6 (List.length l : Int))), (15, vc (i6 ((k : Int) + 1)))] []) (ent_proj [0, 4, 13, 14, 15] []) ?_
    refine AMx.inv ⟨_, ?_, k + 1, ?_, rfl, ?_⟩
    rotate_left
    · omega
    · rw [rows_len l k (by omega), show (((rowsB (List.take k l)).length + (2 + (List.getD l k []).length) : Nat) : Int) = ((rowsB (List.take k l)).length : Int) + (2 + ((List.getD l k []).length : Int)) by omega]; rfl
    · omega
  ·
   refine AMx.exit ?_
   refine AMx.code_exit ?_
   refine AMx.inv_exit ?_
   refine AMx.blk_exit ?_
   refine gS [(1, CE.obj (AObj.grow 5 1 UInt8 0 rowU8 (List.replicate 0 0)))] [0 ≤ (0 : Int), (0 : Int) ≤ ((rowsB (List.take k l)).length : Int), (1 : Int) * ((rowsB (List.take k l)).length : Int) ≤ 281474976710656, ((rowsB (List.take k l)).length : Int) ≤ 9223372036854775807, MakeC 0 [.s (u8 0)] (AObj.grow 5 1 UInt8 0 rowU8 (List.replicate 0 0))] 46 [(0, vc (AL.Fnv.slS l)), (7, vo 29)] [(29, AObj.grow 5 1 UInt8 0 rowU8 (List.replicate 0 0))] ⟨(by first | omega | (have z2 := rows_le l k; omega) | (have z1 := rows_len l k (by omega); have z2 := rows_le l (k + 1); have z3 := hs _ (Lib.getD_mem [] l k (by omega)); first | omega | (simp only [List.length_append, List.length_cons, List.length_nil, AL.Quill.be2_len]; omega)) | (have z1 := rows_len l m (by omega); have z2 := rows_le l (m + 1); have z3 := hs _ (Lib.getD_mem [] l m (by omega)); first | omega | (simp only [List.length_append, List.length_cons, List.length_nil, AL.Quill.be2_len]; omega))), (by first | omega | (have z2 := rows_le l k; omega) | (have z1 := rows_len l k (by omega); have z2 := rows_le l (k + 1); have z3 := hs _ (Lib.getD_mem [] l k (by omega)); first | omega | (simp only [List.length_append, List.length_cons, List.length_nil, AL.Quill.be2_len]; omega)) | (have z1 := rows_len l m (by omega); have z2 := rows_le l (m + 1); have z3 := hs _ (Lib.getD_mem [] l m (by omega)); first | omega | (simp only [List.length_append, List.length_cons, List.length_nil, AL.Quill.be2_len]; omega))), (by first | omega | (have z2 := rows_le l k; omega) | (have z1 := rows_len l k (by omega); have z2 := rows_le l (k + 1); have z3 := hs _ (Lib.getD_mem [] l k (by omega)); first | omega | (simp only [List.length_append, List.length_cons, List.length_nil, AL.Quill.be2_len]; omega)) | (have z1 := rows_len l m (by omega); have z2 := rows_le l (m + 1); have z3 := hs _ (Lib.getD_mem [] l m (by omega)); first | omega | (simp only [List.length_append, List.length_cons, List.length_nil, AL.Quill.be2_len]; omega))), (by first | omega | (have z2 := rows_le l k; omega) | (have z1 := rows_len l k (by omega); have z2 := rows_le l (k + 1); have z3 := hs _ (Lib.getD_mem [] l k (by omega)); first | omega | (simp only [List.length_append, List.length_cons, List.length_nil, AL.Quill.be2_len]; omega)) | (have z1 := rows_len l m (by omega); have z2 := rows_le l (m + 1); have z3 := hs _ (Lib.getD_mem [] l m (by omega)); first | omega | (simp only [List.length_append, List.length_cons, List.length_nil, AL.Quill.be2_len]; omega))), (⟨_, rfl, rfl⟩)⟩ ?_
   refine gQ ?_
   refine gS [] [] 46 [(7, vo 29), (30, vc (AL.Fnv.slS l)), (31, vc (i6 (List.length l : Int))), (32, vc (i6 0))] [(29, AObj.grow 5 1 UInt8 0 rowU8 (List.replicate 0 0))] trivial ?_
   refine AMx.block ?_
   refine AMx.ent (s' := AS.lst 46 [(7, vo 29), (30, vc (AL.Fnv.slS l)), (31, vc (i6 (List.length l : Int))), (32, vc (i6 0))] [(29, AObj.grow 5 1 UInt8 0 rowU8 (List.replicate 0 0))]) (ent_proj [7, 30, 31, 32] [29]) ?_
   refine AMx.loop (fun mm ss => ∃ (m : Nat), (m ≤ l.length) ∧ mm = l.length - m ∧ ss = AS.lst 46 [(7, vo 29), (30, vc (AL.Fnv.slS l)), (31, vc (i6 (List.length l : Int))), (32, vc (i6 (m : Int)))] [(29, AObj.grow 5 1 UInt8 0 rowU8 (rowsB (List.take m l)))]) ⟨0, ?_, rfl, ?_⟩ ?_
   · omega
   · rfl
   rintro mm ss ⟨m, hI, rfl, rfl⟩
   refine gS [] [] 46 [(7, vo 29), (30, vc (AL.Fnv.slS l)), (31, vc (i6 (List.length l : Int))), (32, vc (i6 (m : Int))), (33, vc (bo (decide ((m : Int) < (List.length l : Int)))))] [(29, AObj.grow 5 1 UInt8 0 rowU8 (rowsB (List.take m l)))] trivial ?_
   refine gQ ?_
   refine gC ((m : Int) < (List.length l : Int)) (fun hc4 => ?_) fun hc4 => ?_
   ·
    refine AMx.skip ?_
    refine gQ ?_
    refine AMx.block ?_
    refine gS [] [(0 : Int) ≤ (m : Int), (m : Int) < List.length l] 46 [(7, vo 29), (9, vc (st (List.getD l m []))), (30, vc (AL.Fnv.slS l)), (31, vc (i6 (List.length l : Int))), (32, vc (i6 (m : Int)))] [(29, AObj.grow 5 1 UInt8 0 rowU8 (rowsB (List.take m l)))] ⟨(by first | omega | (have z2 := rows_le l k; omega) | (have z1 := rows_len l k (by omega); have z2 := rows_le l (k + 1); have z3 := hs _ (Lib.getD_mem [] l k (by omega)); first | omega | (simp only [List.length_append, List.length_cons, List.length_nil, AL.Quill.be2_len]; omega)) | (have z1 := rows_len l m (by omega); have z2 := rows_le l (m + 1); have z3 := hs _ (Lib.getD_mem [] l m (by omega)); first | omega | (simp only [List.length_append, List.length_cons, List.length_nil, AL.Quill.be2_len]; omega))), (show (m : Int) < List.length l from (by first | omega | (have z2 := rows_le l k; omega) | (have z1 := rows_len l k (by omega); have z2 := rows_le l (k + 1); have z3 := hs _ (Lib.getD_mem [] l k (by omega)); first | omega | (simp only [List.length_append, List.length_cons, List.length_nil, AL.Quill.be2_len]; omega)) | (have z1 := rows_len l m (by omega); have z2 := rows_le l (m + 1); have z3 := hs _ (Lib.getD_mem [] l m (by omega)); first | omega | (simp only [List.length_append, List.length_cons, List.length_nil, AL.Quill.be2_len]; omega))))⟩ ?_
    refine gS [(4, CE.call [] [29] (vo 40) [(40, AObj.grow 5 1 UInt8 0 rowU8 ((rowsB (List.take m l)) ++ AL.Quill.be2 ((List.length ((List.getD l m []) : List UInt8) : Int))))])] [Spec Tryz.prog 89 [TV.c (.own 29), tc (i6 2), tc (u6 (IntKind.wrap .u64 ((List.length ((List.getD l m []) : List UInt8) : Int))))] (ofH [(29, AObj.grow 5 1 UInt8 0 rowU8 (rowsB (List.take m l)))]) (vo 40) (ofH [(40, AObj.grow 5 1 UInt8 0 rowU8 ((rowsB (List.take m l)) ++ AL.Quill.be2 ((List.length ((List.getD l m []) : List UInt8) : Int))))])] 46 [(7, vo 40), (9, vc (st (List.getD l m []))), (30, vc (AL.Fnv.slS l)), (31, vc (i6 (List.length l : Int))), (32, vc (i6 (m : Int)))] [(40, AObj.grow 5 1 UInt8 0 rowU8 ((rowsB (List.take m l)) ++ AL.Quill.be2 ((List.length ((List.getD l m []) : List UInt8) : Int))))] (AL.Quill.lay_c (rowsB (List.take m l)) (IntKind.wrap .u64 ((List.length ((List.getD l m []) : List UInt8) : Int))) ((List.length ((List.getD l m []) : List UInt8) : Int)) (AL.Quill.wrap_64 (by first | omega | (have z2 := rows_le l k; omega) | (have z1 := rows_len l k (by omega); have z2 := rows_le l (k + 1); have z3 := hs _ (Lib.getD_mem [] l k (by omega)); first | omega | (simp only [List.length_append, List.length_cons, List.length_nil, AL.Quill.be2_len]; omega)) | (have z1 := rows_len l m (by omega); have z2 := rows_le l (m + 1); have z3 := hs _ (Lib.getD_mem [] l m (by omega)); first | omega | (simp only [List.length_append, List.length_cons, List.length_nil, AL.Quill.be2_len]; omega))) (by first | omega | (have z2 := rows_le l k; omega) | (have z1 := rows_len l k (by omega); have z2 := rows_le l (k + 1); have z3 := hs _ (Lib.getD_mem [] l k (by omega)); first | omega | (simp only [List.length_append, List.length_cons, List.length_nil, AL.Quill.be2_len]; omega)) | (have z1 := rows_len l m (by omega); have z2 := rows_le l (m + 1); have z3 := hs _ (Lib.getD_mem [] l m (by omega)); first | omega | (simp only [List.length_append, List.length_cons, List.length_nil, AL.Quill.be2_len]; omega)))) (by first | omega | (have z2 := rows_le l k; omega) | (have z1 := rows_len l k (by omega); have z2 := rows_le l (k + 1); have z3 := hs _ (Lib.getD_mem [] l k (by omega)); first | omega | (simp only [List.length_append, List.length_cons, List.length_nil, AL.Quill.be2_len]; omega)) | (have z1 := rows_len l m (by omega); have z2 := rows_le l (m + 1); have z3 := hs _ (Lib.getD_mem [] l m (by omega)); first | omega | (simp only [List.length_append, List.length_cons, List.length_nil, AL.Quill.be2_len]; omega))) (by first | omega | (have z2 := rows_le l k; omega) | (have z1 := rows_len l k (by omega); have z2 := rows_le l (k + 1); have z3 := hs _ (Lib.getD_mem [] l k (by omega)); first | omega | (simp only [List.length_append, List.length_cons, List.length_nil, AL.Quill.be2_len]; omega)) | (have z1 := rows_len l m (by omega); have z2 := rows_le l (m + 1); have z3 := hs _ (Lib.getD_mem [] l m (by omega)); first | omega | (simp only [List.length_append, List.length_cons, List.length_nil, AL.Quill.be2_len]; omega))) (by first | omega | (have z2 := rows_le l k; omega) | (have z1 := rows_len l k (by omega); have z2 := rows_le l (k + 1); have z3 := hs _ (Lib.getD_mem [] l k (by omega)); first | omega | (simp only [List.length_append, List.length_cons, List.length_nil, AL.Quill.be2_len]; omega)) | (have z1 := rows_len l m (by omega); have z2 := rows_le l (m + 1); have z3 := hs _ (Lib.getD_mem [] l m (by omega)); first | omega | (simp only [List.length_append, List.length_cons, List.length_nil, AL.Quill.be2_len]; omega))) 29 40 rfl) ?_
    refine gR [(2, CE.obj (AObj.grow 5 1 UInt8 0 rowU8 (((rowsB (List.take m l)) ++ AL.Quill.be2 ((List.length ((List.getD l m []) : List UInt8) : Int))) ++ (List.getD l m []))))] [AppC (flat 1 rowU8 (List.getD l m [])) (List.length ((List.getD l m []) : List UInt8)) 1 (AObj.grow 5 1 UInt8 0 rowU8 ((rowsB (List.take m l)) ++ AL.Quill.be2 ((List.length ((List.getD l m []) : List UInt8) : Int)))) (AObj.grow 5 1 UInt8 0 rowU8 (((rowsB (List.take m l)) ++ AL.Quill.be2 ((List.length ((List.getD l m []) : List UInt8) : Int))) ++ (List.getD l m [])))] 46 [(7, vo 43), (30, vc (AL.Fnv.slS l)), (31, vc (i6 (List.length l : Int))), (32, vc (i6 (m : Int)))] [(43, AObj.grow 5 1 UInt8 0 rowU8 (((rowsB (List.take m l)) ++ AL.Quill.be2 ((List.length ((List.getD l m []) : List UInt8) : Int))) ++ (List.getD l m [])))] (⟨_, rfl, rfl, rfl, by have z1 := rows_len l m (by omega); have z2 := rows_le l (m + 1); have z3 := hs _ (Lib.getD_mem [] l m (by omega)); simp only [List.length_append, List.length_cons, List.length_nil, AL.Quill.be2_len]; omega, by have z1 := rows_len l m (by omega); have z2 := rows_le l (m + 1); have z3 := hs _ (Lib.getD_mem [] l m (by omega)); simp only [maxLen, List.length_append, List.length_cons, List.length_nil, AL.Quill.be2_len]; omega⟩) ?_
    refine AMx.blk ?_
    refine gR [] [InR .i64 ((m : Int) + 1)] 46 [(7, vo 43), (30, vc (AL.Fnv.slS l)), (31, vc (i6 (List.length l : Int))), (32, vc (i6 ((m : Int) + 1)))] [(43, AObj.grow 5 1 UInt8 0 rowU8 (((rowsB (List.take m l)) ++ AL.Quill.be2 ((List.length ((List.getD l m []) : List UInt8) : Int))) ++ (List.getD l m [])))] (show InR .i64 ((m : Int) + 1) from (inR64 (by first | omega | (have z2 := rows_le l k; omega) | (have z1 := rows_len l k (by omega); have z2 := rows_le l (k + 1); have z3 := hs _ (Lib.getD_mem [] l k (by omega)); first | omega | (simp only [List.length_append, List.length_cons, List.length_nil, AL.Quill.be2_len]; omega)) | (have z1 := rows_len l m (by omega); have z2 := rows_le l (m + 1); have z3 := hs _ (Lib.getD_mem [] l m (by omega)); first | omega | (simp only [List.length_append, List.length_cons, List.length_nil, AL.Quill.be2_len]; omega))) (by first | omega | (have z2 := rows_le l k; omega) | (have z1 := rows_len l k (by omega); have z2 := rows_le l (k + 1); have z3 := hs _ (Lib.getD_mem [] l k (by omega)); first | omega | (simp only [List.length_append, List.length_cons, List.length_nil, AL.Quill.be2_len]; omega)) | (have z1 := rows_len l m (by omega); have z2 := rows_le l (m + 1); have z3 := hs _ (Lib.getD_mem [] l m (by omega)); first | omega | (simp only [List.length_append, List.length_cons, List.length_nil, AL.Quill.be2_len]; omega))))) ?_
    refine AMx.ent_inv (s' := AS.lst 46 [(7, vo 29), (30, vc (AL.Fnv.slS l)), (31, vc (i6 (List.length l : Int))), (32, vc (i6 ((m : Int) + 1)))] [(29, AObj.grow 5 1 UInt8 0 rowU8 (((rowsB (List.take m l)) ++ AL.Quill.be2 ((List.length ((List.getD l m []) : List UInt8) : Int))) ++ (List.getD l m [])))]) (ent_swap 43 29 (by kernel_rfl) (by kernel_rfl)) ?_
    refine AMx.ent_inv (s' := AS.lst 46 [(7, vo 29), (30, vc (AL.Fnv.slS l)), (31, vc (i6 (List.length l : Int))), (32, vc (i6 ((m : Int) + 1)))] [(29, AObj.grow 5 1 UInt8 0 rowU8 (((rowsB (List.take m l)) ++ AL.Quill.be2 ((List.length ((List.getD l m []) : List UInt8) : Int))) ++ (List.getD l m [])))]) (ent_proj [7, 30, 31, 32] [29]) ?_
    refine AMx.inv ⟨_, ?_, m + 1, ?_, rfl, ?_⟩
    rotate_left
    · omega
    · rw [rows_succ l m (by omega), List.append_assoc]; rfl
    · omega
   ·
    refine AMx.exit ?_
    refine AMx.code_exit ?_
    refine AMx.inv_exit ?_
    refine AMx.blk_exit ?_
    refine gS [] [] 46 [(2, vo 29), (3, vc (i6 0))] [(29, AObj.grow 5 1 UInt8 0 rowU8 (rowsB (List.take m l)))] trivial ?_
    refine AMx.ret ?_
    exact ⟨.inl rfl, 29, AObj.grow 5 1 UInt8 0 rowU8 (rowsB (List.take m l)), AV.tup [TV.c (.own 29), tc (i6 0)], by kernel_rfl, rfl, by kernel_rfl, (by rw [rows_all l (show l.length ≤ m by omega)])⟩
theorem f65_body : Tryz.f65.body = some (.seq (.region 0 (rg Tryz.f65 0) false) (.seq (.region 1 (rg Tryz.f65 1) false) (.seq (.region 2 (rg Tryz.f65 2) false) (.seq (.block 0 (.loop (.seq (.seq (.region 3 (rg Tryz.f65 3) false) (.cond (.tmp 11) (.skip) (.exit 0))) (.block 1 (.seq (.seq (.region 4 (rg Tryz.f65 4) false) (.cond (.tmp 14) (.seq (.region 5 (rg Tryz.f65 5) false) (.ret)) (.skip))) (.seq (.region 6 (rg Tryz.f65 6) false) (.seq (.seq (.region 7 (rg Tryz.f65 7) false) (.seq (.region 8 (rg Tryz.f65 8) false) (.cond (.tmp 22) (.seq (.region 9 (rg Tryz.f65 9) true) (.ret)) (.skip)))) (.region 10 (rg Tryz.f65 10) false)))))))) (.seq (.region 11 (rg Tryz.f65 11) false) (.ret)))))) := by kernel_rfl
set_option maxRecDepth 100000 in
set_option maxHeartbeats 8000000 in
theorem Split_c (s : Bytes) (hs : s.length ≤ 2000) : Pure Tryz.prog 65 [tc (st s)] (AV.tup [tc (AL.Fnv.slS ((splitR s).1)), tc (i6 ((splitR s).2))]) := by
 refine Pure.of_body Tryz.func65 f65_body (by kernel_rfl) Tryz.ntmps65 (by kernel_rfl) (by kernel_rfl) ?_
 refine gS [] [] 30 [(0, vc (st s))] [] trivial ?_
 refine gS [] [] 30 [(0, vc (st s)), (4, vc (SC.nilsl))] [] trivial ?_
 refine gS [] [] 30 [(4, vc (SC.nilsl)), (5, vp 5 0)] [(5, AObj.row [.s (st s), .s (i6 0), .s (i6 0)])] trivial ?_
 refine gQ ?_
 refine AMx.block ?_
 refine AMx.ent (s' := AS.lst 30 [(4, vo 4), (5, vp 5 0)] [(4, AObj.grow 9 1 Bytes [] AL.Fnv.rowS []), (5, AObj.row [.s (st s), .s (i6 0), .s (i6 0)])]) (ent_adopt (t := 4) (d := 4) 9 1 Bytes [] AL.Fnv.rowS (by kernel_rfl) (by kernel_rfl) (by kernel_rfl) (by kernel_rfl)) ?_
 refine AMx.ent (s' := AS.lst 30 [(4, vo 4), (5, vp 5 0)] [(4, AObj.grow 9 1 Bytes [] AL.Fnv.rowS []), (5, AObj.row [.s (st s), .s (i6 0), .s (i6 0)])]) (ent_proj [4, 5] [4, 5]) ?_
 refine AMx.loop (fun mm ss => ∃ (f : Nat) (o : List Bytes) (x : AL.Quill.ScanV), (SplI s f o x) ∧ mm = 1 + f ∧ ss = AS.lst 30 [(4, vo 4), (5, vp 5 0)] [(4, AObj.grow 9 1 Bytes [] AL.Fnv.rowS o), (5, AObj.row [.s (st x.1), .s (i6 x.2.1), .s (i6 x.2.2)])]) ⟨s.length, [], (s, 0, 0), ?_, rfl, ?_⟩ ?_
 · exact spl_0 s
 · rfl
 rintro mm ss ⟨f, o, x, hP, rfl, rfl⟩
 refine gQ ?_
 refine gS [(1, CE.call [] [] (vc (i6 ((List.length x.1 : Int) - x.2.1))) [])] [Spec Tryz.prog 92 [TV.agg [.s (st x.1), .s (i6 x.2.1), .s (i6 x.2.2)]] (ofH []) (vc (i6 ((List.length x.1 : Int) - x.2.1))) (ofH [])] 30 [(4, vo 4), (5, vp 5 0), (11, vc (bo (decide (0 < (List.length x.1 : Int) - x.2.1))))] [(4, AObj.grow 9 1 Bytes [] AL.Fnv.rowS o), (5, AObj.row [.s (st x.1), .s (i6 x.2.1), .s (i6 x.2.2)])] (AL.Quill.left_c x (by first | omega | (have z1 := hP.lo; have z2 := hP.hi; have z3 := hP.few; have z4 := hP.fuel; have z5 := hP.text; have z6 := congrArg List.length z5; first | omega | ((try simp only [List.length_append, List.length_cons, List.length_nil]); omega))) (by first | omega | (have z1 := hP.lo; have z2 := hP.hi; have z3 := hP.few; have z4 := hP.fuel; have z5 := hP.text; have z6 := congrArg List.length z5; first | omega | ((try simp only [List.length_append, List.length_cons, List.length_nil]); omega)))) ?_
 refine gC (0 < (List.length x.1 : Int) - x.2.1) (fun hc1 => ?_) fun hc1 => ?_
 ·
  refine AMx.skip ?_
  refine AMx.block ?_
  refine gQ ?_
  refine gS [] [] 30 [(4, vo 4), (5, vp 5 0), (14, vc (bo (decide ((List.length o : Int) = 1024))))] [(4, AObj.grow 9 1 Bytes [] AL.Fnv.rowS o), (5, AObj.row [.s (st x.1), .s (i6 x.2.1), .s (i6 x.2.2)])] trivial ?_
  refine gC ((List.length o : Int) = 1024) (fun hc2 => ?_) fun hc2 => ?_
  ·
   exfalso; first | omega | (have z1 := hP.lo; have z2 := hP.hi; have z3 := hP.few; have z4 := hP.fuel; have z5 := hP.text; have z6 := congrArg List.length z5; first | omega | ((try simp only [List.length_append, List.length_cons, List.length_nil]); omega))
  ·
   refine AMx.skip ?_
   refine gS [] [] 30 [(4, vo 4), (5, vp 5 0)] [(4, AObj.grow 9 1 Bytes [] AL.Fnv.rowS o), (5, AObj.row [.s (st x.1), .s (i6 x.2.1), .s (i6 x.2.2)])] trivial ?_
   refine gQ ?_
   refine gS [(1, CE.call [] [] (AV.tup [tc (st ((AL.Quill.rowQ x).1)), TV.agg [.s (st (((AL.Quill.rowQ x).2).1)), .s (i6 (((AL.Quill.rowQ x).2).2.1)), .s (i6 (((AL.Quill.rowQ x).2).2.2))]]) [])] [Spec Tryz.prog 93 [TV.agg [.s (st x.1), .s (i6 x.2.1), .s (i6 x.2.2)]] (ofH []) (AV.tup [tc (st ((AL.Quill.rowQ x).1)), TV.agg [.s (st (((AL.Quill.rowQ x).2).1)), .s (i6 (((AL.Quill.rowQ x).2).2.1)), .s (i6 (((AL.Quill.rowQ x).2).2.2))]]) (ofH [])] 30 [(4, vo 4), (5, vp 5 0), (6, vc (st ((AL.Quill.rowQ x).1)))] [(4, AObj.grow 9 1 Bytes [] AL.Fnv.rowS o), (5, AObj.row [.s (st (((AL.Quill.rowQ x).2).1)), .s (i6 (((AL.Quill.rowQ x).2).2.1)), .s (i6 (((AL.Quill.rowQ x).2).2.2))])] (AL.Quill.Row_c x (by first | omega | (have z1 := hP.lo; have z2 := hP.hi; have z3 := hP.few; have z4 := hP.fuel; have z5 := hP.text; have z6 := congrArg List.length z5; first | omega | ((try simp only [List.length_append, List.length_cons, List.length_nil]); omega)))) ?_
   refine gS [] [] 30 [(4, vo 4), (5, vp 5 0), (6, vc (st ((AL.Quill.rowQ x).1))), (22, vc (bo (!decide (((AL.Quill.rowQ x).2).2.2 = 0))))] [(4, AObj.grow 9 1 Bytes [] AL.Fnv.rowS o), (5, AObj.row [.s (st (((AL.Quill.rowQ x).2).1)), .s (i6 (((AL.Quill.rowQ x).2).2.1)), .s (i6 (((AL.Quill.rowQ x).2).2.2))])] trivial ?_
   refine gN (((AL.Quill.rowQ x).2).2.2 = 0) (fun hc3 => ?_) fun hc3 => ?_
   ·
    refine gY [] [(1, [5])] [] 30 [(2, vc (SC.nilsl)), (3, vc (i6 (((AL.Quill.rowQ x).2).2.2)))] [] mixed trivial ?_
    refine AMx.ent (ent_weak 2 (v' := vc (AL.Fnv.slS [])) (by kernel_rfl) (AV.le_t (TV.le_c AC.le_nil))) ?_
    exact gT (AV.tup [tc (AL.Fnv.slS []), tc (i6 (((AL.Quill.rowQ x).2).2.2))]) (by rw [show splitR s = ([], ((AL.Quill.rowQ x).2).2.2) from by first | exact spl_bad hP (by have z5 := hP.text; have z6 := congrArg List.length z5; omega) (by assumption) | exact spl_end hP (by have z5 := hP.text; have z6 := congrArg List.length z5; omega)])
   ·
    refine AMx.skip ?_
    refine gR [(2, CE.obj (AObj.grow 9 1 Bytes [] AL.Fnv.rowS [(AL.Quill.rowQ x).1])), (3, CE.obj (AObj.grow 9 1 Bytes [] AL.Fnv.rowS (o ++ [(AL.Quill.rowQ x).1])))] [flat 1 AL.Fnv.rowS [(AL.Quill.rowQ x).1] = [.s (st ((AL.Quill.rowQ x).1))], List.length ([(AL.Quill.rowQ x).1] : List Bytes) = 1, AppC (flat 1 AL.Fnv.rowS [(AL.Quill.rowQ x).1]) (List.length ([(AL.Quill.rowQ x).1] : List Bytes)) 16 (AObj.grow 9 1 Bytes [] AL.Fnv.rowS o) (AObj.grow 9 1 Bytes [] AL.Fnv.rowS (o ++ [(AL.Quill.rowQ x).1]))] 30 [(4, vo 28), (5, vp 5 0)] [(5, AObj.row [.s (st (((AL.Quill.rowQ x).2).1)), .s (i6 (((AL.Quill.rowQ x).2).2.1)), .s (i6 (((AL.Quill.rowQ x).2).2.2))]), (28, AObj.grow 9 1 Bytes [] AL.Fnv.rowS (o ++ [(AL.Quill.rowQ x).1]))] ⟨rfl, rfl, (⟨_, rfl, rfl, rfl, by have z1 := hP.few; have z2 := hP.hi; simp only [List.length_append, List.length_cons, List.length_nil]; omega, by have z1 := hP.few; have z2 := hP.hi; simp only [maxLen, List.length_append, List.length_cons, List.length_nil]; omega⟩)⟩ ?_
    refine AMx.blk ?_
    refine AMx.ent_inv (s' := AS.lst 30 [(4, vo 4), (5, vp 5 0)] [(5, AObj.row [.s (st (((AL.Quill.rowQ x).2).1)), .s (i6 (((AL.Quill.rowQ x).2).2.1)), .s (i6 (((AL.Quill.rowQ x).2).2.2))]), (4, AObj.grow 9 1 Bytes [] AL.Fnv.rowS (o ++ [(AL.Quill.rowQ x).1]))]) (ent_swap 28 4 (by kernel_rfl) (by kernel_rfl)) ?_
    refine AMx.ent_inv (s' := AS.lst 30 [(4, vo 4), (5, vp 5 0)] [(4, AObj.grow 9 1 Bytes [] AL.Fnv.rowS (o ++ [(AL.Quill.rowQ x).1])), (5, AObj.row [.s (st (((AL.Quill.rowQ x).2).1)), .s (i6 (((AL.Quill.rowQ x).2).2.1)), .s (i6 (((AL.Quill.rowQ x).2).2.2))])]) (ent_proj [4, 5] [4, 5]) ?_
    refine AMx.inv ⟨_, ?_, f - 1, o ++ [(AL.Quill.rowQ x).1], (AL.Quill.rowQ x).2, ?_, rfl, ?_⟩
    rotate_left
    · exact (spl_next hP (by have z5 := hP.text; have z6 := congrArg List.length z5; omega) (by assumption)).1
    · rfl
    · have z := (spl_next hP (by have z5 := hP.text; have z6 := congrArg List.length z5; omega) (by assumption)).2; omega
 ·
  refine AMx.exit ?_
  refine AMx.code_exit ?_
  refine AMx.inv_exit ?_
  refine AMx.blk_exit ?_
  refine gS [] [] 30 [(2, vo 4), (3, vc (i6 0))] [(4, AObj.grow 9 1 Bytes [] AL.Fnv.rowS o)] trivial ?_
  refine AMx.ent (s' := AS.lst 30 [(2, vc (AL.Fnv.slS o)), (3, vc (i6 0))] []) (ent_freeze (id := 4) (T := 9) (by kernel_rfl)) ?_
  exact gT (AV.tup [tc (AL.Fnv.slS o), tc (i6 0)]) (by rw [show splitR s = (o, 0) from by first | exact spl_bad hP (by have z5 := hP.text; have z6 := congrArg List.length z5; omega) (by assumption) | exact spl_end hP (by have z5 := hP.text; have z6 := congrArg List.length z5; omega)])
theorem f30_body : Tryz.f30.body = some (.seq (.region 0 (rg Tryz.f30 0) false) (.seq (.seq (.region 1 (rg Tryz.f30 1) false) (.seq (.region 2 (rg Tryz.f30 2) false) (.cond (.tmp 12) (.seq (.region 3 (rg Tryz.f30 3) false) (.ret)) (.skip)))) (.seq (.region 4 (rg Tryz.f30 4) false) (.seq (.region 5 (rg Tryz.f30 5) false) (.seq (.region 6 (rg Tryz.f30 6) false) (.ret)))))) := by kernel_rfl
set_option maxRecDepth 100000 in
set_option maxHeartbeats 8000000 in
theorem Text_c (t : TokV) : Pure Tryz.prog 30 [TV.agg [.s (st t.1), .s (st t.2.1), .s (AL.Policy.slP t.2.2)]] (AV.tup [tc (st ((textT t).1)), tc (i6 ((textT t).2))]) := by
 refine Pure.of_body Tryz.func30 f30_body (by kernel_rfl) Tryz.ntmps30 (by kernel_rfl) (by kernel_rfl) ?_
 refine gS [] [] 31 [(1, vp 1 0)] [(1, AObj.row [.s (st t.1), .s (st t.2.1), .s (AL.Policy.slP t.2.2)])] trivial ?_
 refine gQ ?_
 refine gS [(1, CE.call [] [] (vc (i6 (checkT t))) [])] [Spec Tryz.prog 13 [TV.agg [.s (st t.1), .s (st t.2.1), .s (AL.Policy.slP t.2.2)]] (ofH []) (vc (i6 (checkT t))) (ofH [])] 31 [(1, vp 1 0), (4, vc (i6 (checkT t)))] [(1, AObj.row [.s (st t.1), .s (st t.2.1), .s (AL.Policy.slP t.2.2)])] (Check_c t) ?_
 refine gS [] [] 31 [(1, vp 1 0), (4, vc (i6 (checkT t))), (12, vc (bo (!decide (checkT t = 0))))] [(1, AObj.row [.s (st t.1), .s (st t.2.1), .s (AL.Policy.slP t.2.2)])] trivial ?_
 refine gN (checkT t = 0) (fun hc1 => ?_) fun hc1 => ?_
 ·
  refine gS [] [] 31 [(2, vc (st [])), (3, vc (i6 (checkT t)))] [] trivial ?_
  exact gT (AV.tup [tc (st []), tc (i6 (checkT t))]) (by rw [show textT t = ([], checkT t) from by unfold textT; first | (rw [if_pos (by assumption)]; done) | (rw [if_neg (by omega)]; done)])
 ·
  refine AMx.skip ?_
  refine gS [(2, CE.call [] [] (AV.tup [tc (st ((Policy.textP t.2.2).1)), tc (i6 ((Policy.textP t.2.2).2))]) [])] [Spec Tryz.prog 61 [tc (AL.Policy.slP t.2.2)] (ofH []) (AV.tup [tc (st ((Policy.textP t.2.2).1)), tc (i6 ((Policy.textP t.2.2).2))]) (ofH [])] 31 [(1, vp 1 0), (5, vc (st ((Policy.textP t.2.2).1)))] [(1, AObj.row [.s (st t.1), .s (st t.2.1), .s (AL.Policy.slP t.2.2)])] (Policy.Text_c t.2.2) ?_
  refine gS [(3, CE.obj (AObj.grow 9 1 Bytes [] AL.Fnv.rowS [t.2.1, (Policy.textP t.2.2).1])), (4, CE.call [24] [] (AV.tup [TV.c (.own 25), tc (i6 0)]) [(25, AObj.grow 5 1 UInt8 0 rowU8 (rowsB [t.2.1, (Policy.textP t.2.2).1]))])] [flat 1 AL.Fnv.rowS [t.2.1, (Policy.textP t.2.2).1] = [.s (st t.2.1), .s (st ((Policy.textP t.2.2).1))], List.length ([t.2.1, (Policy.textP t.2.2).1] : List Bytes) = 2, Spec Tryz.prog 62 [tc (AL.Fnv.slS [t.2.1, (Policy.textP t.2.2).1])] (ofH []) (AV.tup [TV.c (.own 25), tc (i6 0)]) (ofH [(25, AObj.grow 5 1 UInt8 0 rowU8 (rowsB [t.2.1, (Policy.textP t.2.2).1]))])] 31 [(7, vo 25), (8, vc (i6 0))] [(25, AObj.grow 5 1 UInt8 0 rowU8 (rowsB [t.2.1, (Policy.textP t.2.2).1]))] ⟨rfl, rfl, (Rows_c [t.2.1, (Policy.textP t.2.2).1] (by first | omega | (have z := two_len (t := t) (by omega); first | omega | (simp only [List.length_cons, List.length_nil]; omega))) (by exact two_le (by omega)) (by first | omega | (have z := two_len (t := t) (by omega); first | omega | (simp only [List.length_cons, List.length_nil]; omega))) 25)⟩ ?_
  refine gS [(1, CE.str (rowsB [t.2.1, (Policy.textP t.2.2).1]))] [flat 1 rowU8 (rowsB [t.2.1, (Policy.textP t.2.2).1]) = flat 1 rowU8 (rowsB [t.2.1, (Policy.textP t.2.2).1]), List.length (rowsB [t.2.1, (Policy.textP t.2.2).1] : List UInt8) = List.length (rowsB [t.2.1, (Policy.textP t.2.2).1] : List UInt8), (List.length (rowsB [t.2.1, (Policy.textP t.2.2).1] : List UInt8) : Int) ≤ 140737488355328] 31 [(2, vc (st (rowsB [t.2.1, (Policy.textP t.2.2).1]))), (3, vc (i6 0))] [] ⟨rfl, rfl, (show (List.length (rowsB [t.2.1, (Policy.textP t.2.2).1] : List UInt8) : Int) ≤ 140737488355328 from (by first | omega | (have z := two_len (t := t) (by omega); first | omega | (simp only [List.length_cons, List.length_nil]; omega))))⟩ ?_
  exact gT (AV.tup [tc (st (rowsB [t.2.1, (Policy.textP t.2.2).1])), tc (i6 0)]) (by rw [show textT t = (rowsB [t.2.1, (Policy.textP t.2.2).1], 0) from by unfold textT; first | (rw [if_pos (by assumption)]; done) | (rw [if_neg (by omega)]; done)])
theorem f32_body : Tryz.f32.body = some (.seq (.region 0 (rg Tryz.f32 0) false) (.seq (.region 1 (rg Tryz.f32 1) false) (.seq (.seq (.region 2 (rg Tryz.f32 2) false) (.cond (.tmp 16) (.seq (.region 3 (rg Tryz.f32 3) false) (.ret)) (.skip))) (.seq (.seq (.region 4 (rg Tryz.f32 4) false) (.cond (.tmp 21) (.seq (.region 5 (rg Tryz.f32 5) false) (.ret)) (.skip))) (.seq (.region 6 (rg Tryz.f32 6) false) (.seq (.region 7 (rg Tryz.f32 7) false) (.seq (.seq (.region 8 (rg Tryz.f32 8) false) (.cond (.tmp 42) (.seq (.region 9 (rg Tryz.f32 9) false) (.ret)) (.skip))) (.seq (.region 10 (rg Tryz.f32 10) false) (.ret))))))))) := by kernel_rfl
set_option maxRecDepth 100000 in
set_option maxHeartbeats 8000000 in
theorem Parse_c (n s : Bytes) (hs : s.length ≤ 2000) : Pure Tryz.prog 32 [tc (st n), tc (st s)] (AV.tup [TV.agg [.s (st (((parseT n s).1).1)), .s (st (((parseT n s).1).2.1)), .s (AL.Policy.slP (((parseT n s).1).2.2))], tc (i6 ((parseT n s).2))]) := by
 refine Pure.of_body Tryz.func32 f32_body (by kernel_rfl) Tryz.ntmps32 (by kernel_rfl) (by kernel_rfl) ?_
 refine gS [] [] 45 [(0, vc (st n)), (1, vc (st s)), (4, vp 4 0)] [(4, AObj.row [.s (st []), .s (st []), .s (SC.nilsl)])] trivial ?_
 refine gS [(1, CE.call [] [] (AV.tup [tc (AL.Fnv.slS ((splitR s).1)), tc (i6 ((splitR s).2))]) [])] [Spec Tryz.prog 65 [tc (st s)] (ofH []) (AV.tup [tc (AL.Fnv.slS ((splitR s).1)), tc (i6 ((splitR s).2))]) (ofH [])] 45 [(0, vc (st n)), (4, vp 4 0), (6, vc (AL.Fnv.slS ((splitR s).1))), (7, vc (i6 ((splitR s).2)))] [(4, AObj.row [.s (st []), .s (st []), .s (SC.nilsl)])] (Split_c s (by first | omega | (have z := piece_le (s := s) 1; omega))) ?_
 refine gQ ?_
 refine gS [] [] 45 [(0, vc (st n)), (4, vp 4 0), (6, vc (AL.Fnv.slS ((splitR s).1))), (7, vc (i6 ((splitR s).2))), (16, vc (bo (!decide ((splitR s).2 = 0))))] [(4, AObj.row [.s (st []), .s (st []), .s (SC.nilsl)])] trivial ?_
 refine gN ((splitR s).2 = 0) (fun hc1 => ?_) fun hc1 => ?_
 ·
  refine gS [] [] 45 [(4, vp 4 0), (5, vc (i6 ((splitR s).2)))] [(4, AObj.row [.s (st []), .s (st []), .s (SC.nilsl)])] trivial ?_
  refine AMx.ent (ent_row 4 (l := [.s (st []), .s (st []), .s (SC.nilsl)]) (m := [.s (st []), .s (st []), .s (AL.Policy.slP [])]) (by kernel_rfl) ⟨AC.le_rfl, AC.le_rfl, AC.le_nil, trivial⟩) ?_
  exact gT (AV.tup [TV.agg [.s (st []), .s (st []), .s (AL.Policy.slP [])], tc (i6 ((splitR s).2))]) (by rw [show parseT n s = ((([], [], []) : TokV), (splitR s).2) from by unfold parseT; first | (rw [if_pos (by assumption)]; done) | (rw [if_pos (by assumption)]; rfl) | (rw [if_neg (by omega), if_pos (by omega)]; rfl) | (rw [if_neg (by omega), if_neg (by omega), if_pos (by assumption)]; rfl) | (rw [if_neg (by omega), if_neg (by omega), if_neg (by grind)]; done)])
 ·
  refine AMx.skip ?_
  refine gQ ?_
  refine gS [] [] 45 [(0, vc (st n)), (4, vp 4 0), (6, vc (AL.Fnv.slS ((splitR s).1))), (21, vc (bo (!decide ((List.length ((splitR s).1 : List Bytes) : Int) = 2))))] [(4, AObj.row [.s (st []), .s (st []), .s (SC.nilsl)])] trivial ?_
  refine gN ((List.length ((splitR s).1 : List Bytes) : Int) = 2) (fun hc2 => ?_) fun hc2 => ?_
  ·
   refine gS [] [] 45 [(4, vp 4 0), (5, vc (i6 4))] [(4, AObj.row [.s (st []), .s (st []), .s (SC.nilsl)])] trivial ?_
   refine AMx.ent (ent_row 4 (l := [.s (st []), .s (st []), .s (SC.nilsl)]) (m := [.s (st []), .s (st []), .s (AL.Policy.slP [])]) (by kernel_rfl) ⟨AC.le_rfl, AC.le_rfl, AC.le_nil, trivial⟩) ?_
   exact gT (AV.tup [TV.agg [.s (st []), .s (st []), .s (AL.Policy.slP [])], tc (i6 4)]) (by rw [show parseT n s = ((([], [], []) : TokV), 4) from by unfold parseT; first | (rw [if_pos (by assumption)]; done) | (rw [if_pos (by assumption)]; rfl) | (rw [if_neg (by omega), if_pos (by omega)]; rfl) | (rw [if_neg (by omega), if_neg (by omega), if_pos (by assumption)]; rfl) | (rw [if_neg (by omega), if_neg (by omega), if_neg (by grind)]; done)])
  ·
   refine AMx.skip ?_
   refine gS [(3, CE.call [] [] (AV.tup [tc (AL.Policy.slP ((Policy.parseP (List.getD ((splitR s).1) 1 [])).1)), tc (i6 ((Policy.parseP (List.getD ((splitR s).1) 1 [])).2))]) [])] [(0 : Int) ≤ 1, (1 : Int) < List.length ((splitR s).1 : List Bytes), Spec Tryz.prog 66 [tc (st (List.getD ((splitR s).1) 1 []))] (ofH []) (AV.tup [tc (AL.Policy.slP ((Policy.parseP (List.getD ((splitR s).1) 1 [])).1)), tc (i6 ((Policy.parseP (List.getD ((splitR s).1) 1 [])).2))]) (ofH [])] 45 [(0, vc (st n)), (4, vp 4 0), (6, vc (AL.Fnv.slS ((splitR s).1))), (7, vc (i6 ((Policy.parseP (List.getD ((splitR s).1) 1 [])).2))), (8, vc (AL.Policy.slP ((Policy.parseP (List.getD ((splitR s).1) 1 [])).1)))] [(4, AObj.row [.s (st []), .s (st []), .s (SC.nilsl)])] ⟨(by first | omega | (have z := piece_le (s := s) 1; omega)), (by first | omega | (have z := piece_le (s := s) 1; omega)), (Policy.Parse_c (List.getD ((splitR s).1) 1 []) (by first | omega | (have z := piece_le (s := s) 1; omega)))⟩ ?_
   refine gS [] [(0 : Int) ≤ 0, (0 : Int) < List.length ((splitR s).1 : List Bytes)] 45 [(4, vp 4 0), (7, vc (i6 ((Policy.parseP (List.getD ((splitR s).1) 1 [])).2))), (9, vp 9 0)] [(4, AObj.row [.s (st []), .s (st []), .s (SC.nilsl)]), (9, AObj.row [.s (st n), .s (st (List.getD ((splitR s).1) 0 [])), .s (AL.Policy.slP ((Policy.parseP (List.getD ((splitR s).1) 1 [])).1))])] ⟨(by first | omega | (have z := piece_le (s := s) 1; omega)), (show (0 : Int) < List.length ((splitR s).1 : List Bytes) from (by first | omega | (have z := piece_le (s := s) 1; omega)))⟩ ?_
   refine gQ ?_
   refine gS [(4, CE.call [] [] (vc (i6 (checkT ((n, (List.getD ((splitR s).1) 0 []), (Policy.parseP (List.getD ((splitR s).1) 1 [])).1) : TokV)))) [])] [((!decide ((Policy.parseP (List.getD ((splitR s).1) 1 [])).2 = 0)) = false) → allP [(!decide ((Policy.parseP (List.getD ((splitR s).1) 1 [])).2 = 0)) = false, Spec Tryz.prog 13 [TV.agg [.s (st n), .s (st (List.getD ((splitR s).1) 0 [])), .s (AL.Policy.slP ((Policy.parseP (List.getD ((splitR s).1) 1 [])).1))]] (ofH []) (vc (i6 (checkT ((n, (List.getD ((splitR s).1) 0 []), (Policy.parseP (List.getD ((splitR s).1) 1 [])).1) : TokV)))) (ofH [])], ((!decide ((Policy.parseP (List.getD ((splitR s).1) 1 [])).2 = 0)) = false) → allP [(!decide ((Policy.parseP (List.getD ((splitR s).1) 1 [])).2 = 0)) = false], (!decide ((Policy.parseP (List.getD ((splitR s).1) 1 [])).2 = 0)) = false → allP [(!decide ((Policy.parseP (List.getD ((splitR s).1) 1 [])).2 = 0)) = false]] 45 [(4, vp 4 0), (9, vp 9 0), (42, vc (bo ((!decide ((Policy.parseP (List.getD ((splitR s).1) 1 [])).2 = 0)) || (!decide (checkT ((n, (List.getD ((splitR s).1) 0 []), (Policy.parseP (List.getD ((splitR s).1) 1 [])).1) : TokV) = 0)))))] [(4, AObj.row [.s (st []), .s (st []), .s (SC.nilsl)]), (9, AObj.row [.s (st n), .s (st (List.getD ((splitR s).1) 0 [])), .s (AL.Policy.slP ((Policy.parseP (List.getD ((splitR s).1) 1 [])).1))])] ⟨(fun hp => by have hq := hp; (try simp only [xT, xF, xA, xO, xB, xP, xN, xM, Bool.not_eq_true, Bool.not_eq_false] at hq); exact ⟨hp, (Check_c ((n, (List.getD ((splitR s).1) 0 []), (Policy.parseP (List.getD ((splitR s).1) 1 [])).1) : TokV))⟩), (fun hp => hp), (fun hp2 => (by first | exact hp2 | exact ⟨hp, hp2⟩))⟩ ?_
   refine gB (((!decide ((Policy.parseP (List.getD ((splitR s).1) 1 [])).2 = 0)) || (!decide (checkT ((n, (List.getD ((splitR s).1) 0 []), (Policy.parseP (List.getD ((splitR s).1) 1 [])).1) : TokV) = 0)))) (fun hc3 => ?_) fun hc3 => ?_
   ·
    try simp only [xT, xF, xO, xP, xN, xM] at hc3
    refine gS [] [] 45 [(4, vp 4 0), (5, vc (i6 4))] [(4, AObj.row [.s (st []), .s (st []), .s (SC.nilsl)])] trivial ?_
    refine AMx.ent (ent_row 4 (l := [.s (st []), .s (st []), .s (SC.nilsl)]) (m := [.s (st []), .s (st []), .s (AL.Policy.slP [])]) (by kernel_rfl) ⟨AC.le_rfl, AC.le_rfl, AC.le_nil, trivial⟩) ?_
    exact gT (AV.tup [TV.agg [.s (st []), .s (st []), .s (AL.Policy.slP [])], tc (i6 4)]) (by rw [show parseT n s = ((([], [], []) : TokV), 4) from by unfold parseT; first | (rw [if_pos (by assumption)]; done) | (rw [if_pos (by assumption)]; rfl) | (rw [if_neg (by omega), if_pos (by omega)]; rfl) | (rw [if_neg (by omega), if_neg (by omega), if_pos (by assumption)]; rfl) | (rw [if_neg (by omega), if_neg (by omega), if_neg (by grind)]; done)])
   ·
    try simp only [xT, xF, xO, xP, xN, xM] at hc3
    refine AMx.skip ?_
    refine gS [] [] 45 [(4, vp 4 0), (5, vc (i6 0))] [(4, AObj.row [.s (st n), .s (st (List.getD ((splitR s).1) 0 [])), .s (AL.Policy.slP ((Policy.parseP (List.getD ((splitR s).1) 1 [])).1))])] trivial ?_
    exact gT (AV.tup [TV.agg [.s (st n), .s (st (List.getD ((splitR s).1) 0 [])), .s (AL.Policy.slP ((Policy.parseP (List.getD ((splitR s).1) 1 [])).1))], tc (i6 0)]) (by rw [show parseT n s = (((n, (List.getD ((splitR s).1) 0 []), (Policy.parseP (List.getD ((splitR s).1) 1 [])).1) : TokV), 0) from by unfold parseT; first | (rw [if_pos (by assumption)]; done) | (rw [if_pos (by assumption)]; rfl) | (rw [if_neg (by omega), if_pos (by omega)]; rfl) | (rw [if_neg (by omega), if_neg (by omega), if_pos (by assumption)]; rfl) | (rw [if_neg (by omega), if_neg (by omega), if_neg (by grind)]; done)])
end AL.Token
namespace AL.Token
open Go AL
open AL.Policy (RuleV rowP slP checkP coversS capsP)
set_option linter.unusedVariables false
set_option linter.unusedSimpArgs false
theorem make_cases (l : List TokV) (t : TokV) : ((makeT l t).1 = l ∧ ¬ (makeT l t).2 = 0) ∨ (makeT l t = (intoT l t, 0) ∧ checkT t = 0 ∧ ¬ t.2.1 = [] ∧ findT l t.1 < 0 ∧ 0 ≤ findT l t.2.1 ∧ coversS t.2.2 (List.getD l (findT l t.2.1).toNat tokd).2.2 = true) := by
  unfold makeT
  split
  · exact .inl ⟨rfl, by assumption⟩
  · split
    · exact .inl ⟨rfl, show ¬ (2 : Int) = 0 by decide⟩
    · split
      · exact .inl ⟨rfl, show ¬ (20 : Int) = 0 by decide⟩
      · split
        · exact .inl ⟨rfl, show ¬ (6 : Int) = 0 by decide⟩
        · split
          · exact .inl ⟨rfl, show ¬ (13 : Int) = 0 by decide⟩
          · rename_i h1 h2 h3 h4 h5
            exact .inr ⟨rfl, Decidable.not_not.1 h1, h2, by omega, by omega, by simpa using h5⟩
theorem make_sort {l : List TokV} {t : TokV} (h : SortT l) : SortT (makeT l t).1 := by
  rcases make_cases l t with ⟨h1, _⟩ | ⟨h1, _, _, h2, _⟩
  · rw [h1]; exact h
  · rw [h1]; exact into_sort h h2
theorem make_len (l : List TokV) (t : TokV) : l.length ≤ (makeT l t).1.length ∧ (makeT l t).1.length ≤ l.length + 1 := by
  rcases make_cases l t with ⟨h1, _⟩ | ⟨h1, _⟩
  · rw [h1]; omega
  · rw [h1]; have := into_len l t; dsimp only; omega
def addL (s : List TokV) (t : TokV) : Option (List TokV) :=
  if t = firstT ∧ (s.length : Int) = 0 then some (intoT s t) else if ¬ (makeT s t).2 = 0 ∨ t.1 = rootB then none else some (makeT s t).1
def passL : List TokV → List TokV → List TokV × List TokV
  | s, [] => (s, [])
  | s, t :: l => match addL s t with
    | some s' => passL s' l
    | none => ((passL s l).1, t :: (passL s l).2)
theorem pass_len : ∀ (l s : List TokV), (passL s l).2.length ≤ l.length
  | [], _ => Nat.le_refl _
  | t :: l, s => by
    unfold passL
    split
    · exact Nat.le_succ_of_le (pass_len l _)
    · exact Nat.succ_le_succ (pass_len l s)
def loadL : Nat → List TokV → List TokV → List TokV × Int
  | 0, _, _ => ([], 4)
  | f + 1, s, left => if left.length = 0 then (s, 0) else if (passL s left).2.length = left.length then ([], 4) else loadL f (passL s left).1 (passL s left).2
def loadT (l : List TokV) : List TokV × Int := loadL (l.length + 1) [] l
structure LoadI (l : List TokV) (f : Nat) (s left : List TokV) : Prop where
  eq : loadT l = loadL f s left
  fuel : left.length < f
  rise : SortT s
  few : s.length + left.length ≤ l.length
structure PassI (s0 left : List TokV) (k : Nat) (s late : List TokV) : Prop where
  eq : passL s0 left = ((passL s (List.drop k left)).1, late ++ (passL s (List.drop k left)).2)
  rise : SortT s
  few : s.length + late.length ≤ s0.length + k
theorem load_0 (l : List TokV) : LoadI l (l.length + 1) [] l := ⟨rfl, Nat.lt_succ_self _, List.Pairwise.nil, by simp⟩
theorem pass_0 {s left : List TokV} (h : SortT s) : PassI s left 0 s [] := ⟨by simp, h, by simp⟩
section
variable {s0 left s late : List TokV} {k : Nat}
theorem pass_y (h : PassI s0 left k s late) (hk : k < left.length) {s' : List TokV} (ha : addL s (List.getD left k tokd) = some s') (hs : SortT s') (hl : s'.length ≤ s.length + 1) : PassI s0 left (k + 1) s' late := by
  refine ⟨?_, hs, by have := h.few; omega⟩
  rw [h.eq, Lib.drop_cons tokd left k hk, passL, ha]
theorem pass_n (h : PassI s0 left k s late) (hk : k < left.length) (ha : addL s (List.getD left k tokd) = none) : PassI s0 left (k + 1) s (late ++ [List.getD left k tokd]) := by
  refine ⟨?_, h.rise, by have := h.few; rw [List.length_append, List.length_singleton]; omega⟩
  rw [h.eq, Lib.drop_cons tokd left k hk, passL, ha]
  simp
theorem pass_a (h : PassI s0 left k s late) (hk : k < left.length) (hc : List.getD left k tokd = firstT ∧ (s.length : Int) = 0) : PassI s0 left (k + 1) (intoT s (List.getD left k tokd)) late := by
  refine pass_y h hk (by unfold addL; rw [if_pos hc]) ?_ (by rw [into_len]; exact Nat.le_refl _)
  have : s = [] := List.eq_nil_of_length_eq_zero (by omega)
  rw [this, hc.1]
  exact List.pairwise_singleton _ _
theorem pass_b (h : PassI s0 left k s late) (hk : k < left.length) (hc : ¬ List.getD left k tokd = firstT ∨ ¬ (s.length : Int) = 0) (h2 : ¬ (makeT s (List.getD left k tokd)).2 = 0 ∨ (List.getD left k tokd).1 = rootB) : PassI s0 left (k + 1) s (late ++ [List.getD left k tokd]) :=
  pass_n h hk (by unfold addL; rw [if_neg (fun q => hc.elim (fun z => z q.1) (fun z => z q.2)), if_pos h2])
theorem pass_c (h : PassI s0 left k s late) (hk : k < left.length) (hc : ¬ List.getD left k tokd = firstT ∨ ¬ (s.length : Int) = 0) (h2 : (makeT s (List.getD left k tokd)).2 = 0 ∧ ¬ (List.getD left k tokd).1 = rootB) : PassI s0 left (k + 1) (makeT s (List.getD left k tokd)).1 late :=
  pass_y h hk (by unfold addL; rw [if_neg (fun q => hc.elim (fun z => z q.1) (fun z => z q.2)), if_neg (fun q => q.elim (fun z => z h2.1) (fun z => h2.2 z))]) (make_sort h.rise) (make_len _ _).2
theorem pass_end (h : PassI s0 left k s late) (hk : left.length ≤ k) : passL s0 left = (s, late) := by
  rw [h.eq, List.drop_of_length_le hk]
  simp [passL]
end
theorem load_next {l : List TokV} {f : Nat} {s left s' late : List TokV} (h : LoadI l f s left) (h0 : ¬ left.length = 0) (hp : passL s left = (s', late)) (hn : ¬ late.length = left.length) (hs : SortT s') (hl : s'.length + late.length ≤ s.length + left.length) : LoadI l (f - 1) s' late ∧ 0 < f := by
  obtain ⟨g, rfl⟩ : ∃ g, f = g + 1 := ⟨f - 1, by have := h.fuel; omega⟩
  have h1 := h.fuel
  have h2 := h.few
  have h3 := pass_len left s
  rw [hp] at h3
  dsimp only at h3
  refine ⟨⟨?_, by omega, hs, by omega⟩, by omega⟩
  rw [h.eq, loadL, if_neg h0, hp, if_neg hn, Nat.add_sub_cancel]
theorem load_bad {l : List TokV} {f : Nat} {s left s' late : List TokV} (h : LoadI l f s left) (h0 : ¬ left.length = 0) (hp : passL s left = (s', late)) (hn : late.length = left.length) : loadT l = ([], 4) := by
  obtain ⟨g, rfl⟩ : ∃ g, f = g + 1 := ⟨f - 1, by have := h.fuel; omega⟩
  rw [h.eq, loadL, if_neg h0, hp, if_pos hn]
theorem load_end {l : List TokV} {f : Nat} {s left : List TokV} (h : LoadI l f s left) (h0 : left.length = 0) : loadT l = (s, 0) := by
  obtain ⟨g, rfl⟩ : ∃ g, f = g + 1 := ⟨f - 1, by have := h.fuel; omega⟩
  rw [h.eq, loadL, if_pos h0]
def RootC (s : List TokV) (t : TokV) : Prop := (((t.2.1 = [] ∧ t.1 = rootB) ∧ checkT t = 0) ∧ t.2.2 = firstT.2.2) ∧ findT s rootB < 0
instance (s : List TokV) (t : TokV) : Decidable (RootC s t) := inferInstanceAs (Decidable (_ ∧ _))
def rootR (s : List TokV) (t : TokV) : List TokV := if RootC s t then intoT s t else s
def stepR (s : List TokV) (t : TokV) : List TokV := if (makeT (rootR s t) t).2 = 0 ∧ ¬ t.1 = rootB then (makeT (rootR s t) t).1 else rootR s t
def roundsR (l : List TokV) : Nat → List TokV
  | 0 => []
  | n + 1 => l.foldl stepR (roundsR l n)
structure RoundI (l : List TokV) (n i : Nat) (s : List TokV) : Prop where
  eq : s = (List.take i l).foldl stepR (roundsR l n)
  few : s.length ≤ 202 * n + 2 * i
end AL.Token
namespace AL.Token
open Go Go.Proofs AL
open AL.Policy (RuleV rowP slP checkP coversS capsP)
set_option linter.unusedVariables false
set_option linter.unusedSimpArgs false
theorem f69_body : Tryz.f69.body = some (.seq (.region 0 (rg Tryz.f69 0) false) (.seq (.seq (.region 1 (rg Tryz.f69 1) false) (.cond (.tmp 4) (.seq (.region 2 (rg Tryz.f69 2) false) (.ret)) (.skip))) (.seq (.region 3 (rg Tryz.f69 3) false) (.ret)))) := by kernel_rfl
set_option maxRecDepth 100000 in
set_option maxHeartbeats 8000000 in
theorem CloneT_c (l : List TokV) (hb : l.length ≤ 100000) : ∀ d, Spec Tryz.prog 69 [tc (slT l)] H0 (vo d) (ofH [(d, AObj.grow 41 3 TokV tokd rowT l)]) := by
 refine Own.of_body Tryz.func69 f69_body (by kernel_rfl) Tryz.ntmps69 (by kernel_rfl) rfl ?_
 refine AMx.isnil 0 rfl (fun hnil0 => ?_) ?_
 ·
  refine gS [] [] 8 [(0, vc (SC.nilsl))] [] trivial ?_
  refine gQ ?_
  refine gS [] [] 8 [(0, vc (SC.nilsl)), (4, vc (bo true))] [] trivial ?_
  refine gBt ?_
  refine gS [] [] 8 [(2, vc (SC.nilsl))] [] trivial ?_
  refine AMx.ent (s' := AS.lst 8 [(2, vo 2)] [(2, AObj.grow 41 3 TokV tokd rowT [])]) (ent_adopt (t := 2) (d := 2) 41 3 TokV tokd rowT (by kernel_rfl) (by kernel_rfl) (by kernel_rfl) (by kernel_rfl)) ?_
  refine AMx.ret ?_
  exact ⟨.inl rfl, 2, AObj.grow 41 3 TokV tokd rowT [], by kernel_rfl, by kernel_rfl, by first | rfl | (rw [hnil0])⟩
 ·
  refine gS [] [] 8 [(0, vc (SC.nn (slT l)))] [] trivial ?_
  refine gQ ?_
  refine gS [] [] 8 [(0, vc (SC.nn (slT l))), (4, vc (bo false))] [] trivial ?_
  refine gBf ?_
  refine AMx.skip ?_
  refine gQ ?_
  refine AMx.ent (ent_weak 0 (v' := vc (slT l)) (by kernel_rfl) (AV.le_t (TV.le_c AC.le_nn))) ?_
  refine gR [(0, CE.obj (AObj.grow 41 3 TokV tokd rowT [])), (2, CE.obj (AObj.grow 41 3 TokV tokd rowT ([] ++ l)))] [flat 3 rowT [] = [], List.length ([] : List TokV) = 0, AppC (flat 3 rowT l) (List.length l) 56 (AObj.grow 41 3 TokV tokd rowT []) (AObj.grow 41 3 TokV tokd rowT ([] ++ l))] 8 [(2, vo 7)] [(7, AObj.grow 41 3 TokV tokd rowT ([] ++ l))] ⟨rfl, rfl, (⟨_, rfl, rfl, rfl, by simp only [List.length_nil]; omega, by simp only [maxLen, List.length_nil]; omega⟩)⟩ ?_
  refine AMx.ret ?_
  exact ⟨.inl rfl, 7, AObj.grow 41 3 TokV tokd rowT ([] ++ l), by kernel_rfl, by kernel_rfl, by first | rfl | (rw [hnil0])⟩
theorem f34_body : Tryz.f34.body = some (.seq (.region 0 (rg Tryz.f34 0) false) (.seq (.region 1 (rg Tryz.f34 1) false) (.seq (.region 2 (rg Tryz.f34 2) false) (.seq (.block 0 (.loop (.seq (.seq (.region 3 (rg Tryz.f34 3) false) (.cond (.tmp 15) (.skip) (.exit 0))) (.block 1 (.seq (.region 4 (rg Tryz.f34 4) false) (.seq (.seq (.region 5 (rg Tryz.f34 5) false) (.block 2 (.loop (.seq (.region 6 (rg Tryz.f34 6) false) (.seq (.cond (.tmp 19) (.skip) (.exit 2)) (.seq (.block 3 (.seq (.region 7 (rg Tryz.f34 7) false) (.seq (.seq (.region 8 (rg Tryz.f34 8) true) (.cond (.tmp 30) (.seq (.region 9 (rg Tryz.f34 9) false) (.exit 3)) (.skip))) (.seq (.region 10 (rg Tryz.f34 10) false) (.seq (.seq (.region 11 (rg Tryz.f34 11) false) (.cond (.tmp 46) (.seq (.region 12 (rg Tryz.f34 12) false) (.exit 3)) (.skip))) (.region 13 (rg Tryz.f34 13) false)))))) (.region 14 (rg Tryz.f34 14) false))))))) (.seq (.seq (.region 15 (rg Tryz.f34 15) false) (.cond (.tmp 57) (.seq (.region 16 (rg Tryz.f34 16) false) (.ret)) (.skip))) (.region 17 (rg Tryz.f34 17) false)))))))) (.seq (.region 18 (rg Tryz.f34 18) false) (.ret)))))) := by kernel_rfl
set_option maxRecDepth 100000 in
set_option maxHeartbeats 8000000 in
theorem Load_c (l : List TokV) (hb : l.length ≤ 1000) : Pure Tryz.prog 34 [tc (slT l)] (AV.tup [TV.agg [.s (slT ((loadT l).1))], tc (i6 ((loadT l).2))]) := by
 refine Pure.of_body Tryz.func34 f34_body (by kernel_rfl) Tryz.ntmps34 (by kernel_rfl) (by kernel_rfl) ?_
 refine gS [] [] 61 [(0, vc (slT l)), (2, vp 2 0)] [(2, AObj.row [.s (SC.nilsl)])] trivial ?_
 refine gS [] [] 61 [(0, vc (slT l)), (2, vp 2 0), (4, vp 4 0)] [(2, AObj.row [.s (SC.nilsl)]), (4, AObj.row [.s (SC.nilsl)])] trivial ?_
 refine gS [(1, CE.call [] [] (vo 12) [(12, AObj.grow 41 3 TokV tokd rowT l)])] [Spec Tryz.prog 69 [tc (slT l)] (ofH []) (vo 12) (ofH [(12, AObj.grow 41 3 TokV tokd rowT l)])] 61 [(2, vp 2 0), (4, vp 4 0), (5, vo 12)] [(2, AObj.row [.s (SC.nilsl)]), (4, AObj.row [.s (SC.nilsl)]), (12, AObj.grow 41 3 TokV tokd rowT l)] (CloneT_c l (by first | omega | (simp only [List.length_drop, List.length_take, List.length_append, List.length_cons, List.length_nil]; omega) | (first | omega | (have z1 := hL.few; have z2 := hL.fuel; first | omega | (have z3 := hP.few; first | omega | (rw [hc3.1]; decide) | ((try simp only [List.length_append, List.length_cons, List.length_nil]); omega))))) 12) ?_
 refine gQ ?_
 refine AMx.block ?_
 refine AMx.ent (s' := AS.lst 61 [(2, vp 2 0), (4, vp 4 0), (5, vc (slT l))] [(2, AObj.row [.s (SC.nilsl)]), (4, AObj.row [.s (SC.nilsl)])]) (ent_freeze (id := 12) (T := 41) (by kernel_rfl)) ?_
 refine AMx.ent (ent_row 4 (l := [.s (SC.nilsl)]) (m := [.s (slT [])]) (by kernel_rfl) ⟨AC.le_nil, trivial⟩) ?_
 refine AMx.ent (s' := AS.lst 61 [(2, vp 2 0), (4, vp 4 0), (5, vc (slT l))] [(2, AObj.row [.s (SC.nilsl)]), (4, AObj.row [.s (slT [])])]) (ent_proj [2, 4, 5] [2, 4]) ?_
 refine AMx.loop (fun mm ss => ∃ (f : Nat) (s : List TokV) (left : List TokV), (LoadI l f s left) ∧ mm = 1 + f ∧ ss = AS.lst 61 [(2, vp 2 0), (4, vp 4 0), (5, vc (slT left))] [(2, AObj.row [.s (SC.nilsl)]), (4, AObj.row [.s (slT s)])]) ⟨l.length + 1, [], l, ?_, rfl, ?_⟩ ?_
 · exact load_0 l
 · rfl
 rintro mm ss ⟨f, s, left, hL, rfl, rfl⟩
 refine gQ ?_
 refine gS [] [] 61 [(2, vp 2 0), (4, vp 4 0), (5, vc (slT left)), (15, vc (bo (decide (0 < (List.length left : Int)))))] [(2, AObj.row [.s (SC.nilsl)]), (4, AObj.row [.s (slT s)])] trivial ?_
 refine gC (0 < (List.length left : Int)) (fun hc1 => ?_) fun hc1 => ?_
 ·
  refine AMx.skip ?_
  refine AMx.block ?_
  refine gS [] [] 61 [(2, vp 2 0), (4, vp 4 0), (5, vc (slT left)), (6, vc (SC.nilsl))] [(2, AObj.row [.s (SC.nilsl)]), (4, AObj.row [.s (slT s)])] trivial ?_
  refine gQ ?_
  refine gS [] [] 61 [(2, vp 2 0), (4, vp 4 0), (5, vc (slT left)), (6, vc (SC.nilsl)), (16, vc (slT left)), (17, vc (i6 (List.length left : Int))), (18, vc (i6 0))] [(2, AObj.row [.s (SC.nilsl)]), (4, AObj.row [.s (slT s)])] trivial ?_
  refine AMx.block ?_
  refine AMx.ent (s' := AS.lst 61 [(2, vp 2 0), (4, vp 4 0), (5, vc (slT left)), (6, vo 6), (16, vc (slT left)), (17, vc (i6 (List.length left : Int))), (18, vc (i6 0))] [(6, AObj.grow 41 3 TokV tokd rowT []), (2, AObj.row [.s (SC.nilsl)]), (4, AObj.row [.s (slT s)])]) (ent_adopt (t := 6) (d := 6) 41 3 TokV tokd rowT (by kernel_rfl) (by kernel_rfl) (by kernel_rfl) (by kernel_rfl)) ?_
  refine AMx.ent (s' := AS.lst 61 [(2, vp 2 0), (4, vp 4 0), (5, vc (slT left)), (6, vo 6), (16, vc (slT left)), (17, vc (i6 (List.length left : Int))), (18, vc (i6 0))] [(2, AObj.row [.s (SC.nilsl)]), (4, AObj.row [.s (slT s)]), (6, AObj.grow 41 3 TokV tokd rowT [])]) (ent_proj [2, 4, 5, 6, 16, 17, 18] [2, 4, 6]) ?_
  refine AMx.loop (fun mm ss => ∃ (k : Nat) (s2 : List TokV) (late : List TokV), (PassI s left k s2 late ∧ k ≤ left.length) ∧ mm = left.length - k ∧ ss = AS.lst 61 [(2, vp 2 0), (4, vp 4 0), (5, vc (slT left)), (6, vo 6), (16, vc (slT left)), (17, vc (i6 (List.length left : Int))), (18, vc (i6 (k : Int)))] [(2, AObj.row [.s (SC.nilsl)]), (4, AObj.row [.s (slT s2)]), (6, AObj.grow 41 3 TokV tokd rowT late)]) ⟨0, s, [], ?_, rfl, ?_⟩ ?_
  · exact ⟨pass_0 hL.rise, Nat.zero_le _⟩
  · rfl
  rintro mm ss ⟨k, s2, late, ⟨hP, hI⟩, rfl, rfl⟩
  refine gS [] [] 61 [(2, vp 2 0), (4, vp 4 0), (5, vc (slT left)), (6, vo 6), (16, vc (slT left)), (17, vc (i6 (List.length left : Int))), (18, vc (i6 (k : Int))), (19, vc (bo (decide ((k : Int) < (List.length left : Int)))))] [(2, AObj.row [.s (SC.nilsl)]), (4, AObj.row [.s (slT s2)]), (6, AObj.grow 41 3 TokV tokd rowT late)] trivial ?_
  refine gQ ?_
  refine gC ((k : Int) < (List.length left : Int)) (fun hc2 => ?_) fun hc2 => ?_
  ·
   refine AMx.skip ?_
   refine gQ ?_
   refine AMx.block ?_
   refine gS [] [(0 : Int) ≤ (k : Int), (k : Int) < List.length left] 61 [(2, vp 2 0), (4, vp 4 0), (5, vc (slT left)), (6, vo 6), (8, vp 8 0), (16, vc (slT left)), (17, vc (i6 (List.length left : Int))), (18, vc (i6 (k : Int)))] [(2, AObj.row [.s (SC.nilsl)]), (4, AObj.row [.s (slT s2)]), (6, AObj.grow 41 3 TokV tokd rowT late), (8, AObj.row [.s (st ((List.getD left k tokd).1)), .s (st ((List.getD left k tokd).2.1)), .s (AL.Policy.slP ((List.getD left k tokd).2.2))])] ⟨(by first | omega | (have z1 := hL.few; have z2 := hL.fuel; first | omega | (have z3 := hP.few; first | omega | (rw [hc3.1]; decide) | ((try simp only [List.length_append, List.length_cons, List.length_nil]); omega)))), (show (k : Int) < List.length left from (by first | omega | (have z1 := hL.few; have z2 := hL.fuel; first | omega | (have z3 := hP.few; first | omega | (rw [hc3.1]; decide) | ((try simp only [List.length_append, List.length_cons, List.length_nil]); omega)))))⟩ ?_
   refine gQ ?_
   refine gY [(1, CE.call [] [] (AV.t (TV.agg [.s (st firstT.1), .s (st firstT.2.1), .s (AL.Policy.slP firstT.2.2)])) []), (2, CE.call [] [] (vc (bo (decide ((List.getD left k tokd) = firstT)))) [])] [(0, [8]), (5, [4])] [Spec Tryz.prog 39 [] (ofH []) (AV.t (TV.agg [.s (st firstT.1), .s (st firstT.2.1), .s (AL.Policy.slP firstT.2.2)])) (ofH []), Spec Tryz.prog 52 [TV.agg [.s (st ((List.getD left k tokd).1)), .s (st ((List.getD left k tokd).2.1)), .s (AL.Policy.slP ((List.getD left k tokd).2.2))], TV.agg [.s (st firstT.1), .s (st firstT.2.1), .s (AL.Policy.slP firstT.2.2)]] (ofH []) (vc (bo (decide ((List.getD left k tokd) = firstT)))) (ofH []), ((decide ((List.getD left k tokd) = firstT)) = true) → allP [(decide ((List.getD left k tokd) = firstT)) = true], ((decide ((List.getD left k tokd) = firstT)) = true) → allP [(decide ((List.getD left k tokd) = firstT)) = true], ((decide ((List.getD left k tokd) = firstT)) = true) → allP [(decide ((List.getD left k tokd) = firstT)) = true], (decide ((List.getD left k tokd) = firstT)) = true → allP [(decide ((List.getD left k tokd) = firstT)) = true]] 61 [(2, vp 2 0), (4, vp 4 0), (5, vc (slT left)), (6, vo 6), (8, vp 8 0), (16, vc (slT left)), (17, vc (i6 (List.length left : Int))), (18, vc (i6 (k : Int))), (30, vc (bo ((decide ((List.getD left k tokd) = firstT)) && (decide ((List.length s2 : Int) = 0)))))] [(2, AObj.row [.s (SC.nilsl)]), (4, AObj.row [.s (slT s2)]), (6, AObj.grow 41 3 TokV tokd rowT late), (8, AObj.row [.s (st ((List.getD left k tokd).1)), .s (st ((List.getD left k tokd).2.1)), .s (AL.Policy.slP ((List.getD left k tokd).2.2))])] mixed ⟨(first_c), (same_c (List.getD left k tokd) firstT), (fun hp => hp), (fun hp => hp), (fun hp => hp), (fun hp2 => (by first | exact hp2 | exact ⟨hp, hp2⟩))⟩ ?_
   refine gB (((decide ((List.getD left k tokd) = firstT)) && (decide ((List.length s2 : Int) = 0)))) (fun hc3 => ?_) fun hc3 => ?_
   ·
    try simp only [xT, xF, xA, xB] at hc3
    refine gS [(2, CE.call [] [] (AV.t (TV.agg [.s (slT (intoT s2 (List.getD left k tokd)))])) [])] [Spec Tryz.prog 53 [TV.agg [.s (slT s2)], TV.agg [.s (st ((List.getD left k tokd).1)), .s (st ((List.getD left k tokd).2.1)), .s (AL.Policy.slP ((List.getD left k tokd).2.2))]] (ofH []) (AV.t (TV.agg [.s (slT (intoT s2 (List.getD left k tokd)))])) (ofH [])] 61 [(2, vp 2 0), (4, vp 4 0), (5, vc (slT left)), (6, vo 6), (16, vc (slT left)), (17, vc (i6 (List.length left : Int))), (18, vc (i6 (k : Int)))] [(2, AObj.row [.s (SC.nilsl)]), (4, AObj.row [.s (slT (intoT s2 (List.getD left k tokd)))]), (6, AObj.grow 41 3 TokV tokd rowT late)] (with_c s2 (List.getD left k tokd) (by exact hP.rise) (by first | omega | (have z1 := hL.few; have z2 := hL.fuel; first | omega | (have z3 := hP.few; first | omega | (rw [hc3.1]; decide) | ((try simp only [List.length_append, List.length_cons, List.length_nil]); omega)))) (by first | omega | (have z1 := hL.few; have z2 := hL.fuel; first | omega | (have z3 := hP.few; first | omega | (rw [hc3.1]; decide) | ((try simp only [List.length_append, List.length_cons, List.length_nil]); omega))))) ?_
    refine AMx.exit ?_
    refine AMx.code_exit ?_
    refine AMx.blk_exit ?_
    refine gR [] [InR .i64 ((k : Int) + 1)] 61 [(2, vp 2 0), (4, vp 4 0), (5, vc (slT left)), (6, vo 6), (16, vc (slT left)), (17, vc (i6 (List.length left : Int))), (18, vc (i6 ((k : Int) + 1)))] [(2, AObj.row [.s (SC.nilsl)]), (4, AObj.row [.s (slT (intoT s2 (List.getD left k tokd)))]), (6, AObj.grow 41 3 TokV tokd rowT late)] (show InR .i64 ((k : Int) + 1) from (inR64 (by first | omega | (have z1 := hL.few; have z2 := hL.fuel; first | omega | (have z3 := hP.few; first | omega | (rw [hc3.1]; decide) | ((try simp only [List.length_append, List.length_cons, List.length_nil]); omega)))) (by first | omega | (have z1 := hL.few; have z2 := hL.fuel; first | omega | (have z3 := hP.few; first | omega | (rw [hc3.1]; decide) | ((try simp only [List.length_append, List.length_cons, List.length_nil]); omega)))))) ?_
    refine AMx.ent_inv (s' := AS.lst 61 [(2, vp 2 0), (4, vp 4 0), (5, vc (slT left)), (6, vo 6), (16, vc (slT left)), (17, vc (i6 (List.length left : Int))), (18, vc (i6 ((k : Int) + 1)))] [(2, AObj.row [.s (SC.nilsl)]), (4, AObj.row [.s (slT (intoT s2 (List.getD left k tokd)))]), (6, AObj.grow 41 3 TokV tokd rowT late)]) (ent_proj [2, 4, 5, 6, 16, 17, 18] [2, 4, 6]) ?_
    refine AMx.inv ⟨_, ?_, k + 1, intoT s2 (List.getD left k tokd), late, ?_, rfl, ?_⟩
    rotate_left
    · exact ⟨pass_a hP (by omega) hc3, by omega⟩
    · rfl
    · omega
   ·
    try simp only [xT, xF, xA, xB] at hc3
    refine AMx.skip ?_
    refine gS [(2, CE.call [] [] (AV.tup [TV.agg [.s (slT ((makeT s2 (List.getD left k tokd)).1))], tc (i6 ((makeT s2 (List.getD left k tokd)).2))]) [])] [Spec Tryz.prog 20 [TV.agg [.s (slT s2)], TV.agg [.s (st ((List.getD left k tokd).1)), .s (st ((List.getD left k tokd).2.1)), .s (AL.Policy.slP ((List.getD left k tokd).2.2))]] (ofH []) (AV.tup [TV.agg [.s (slT ((makeT s2 (List.getD left k tokd)).1))], tc (i6 ((makeT s2 (List.getD left k tokd)).2))]) (ofH [])] 61 [(2, vp 2 0), (4, vp 4 0), (5, vc (slT left)), (6, vo 6), (8, vp 8 0), (9, vp 9 0), (10, vc (i6 ((makeT s2 (List.getD left k tokd)).2))), (16, vc (slT left)), (17, vc (i6 (List.length left : Int))), (18, vc (i6 (k : Int)))] [(2, AObj.row [.s (SC.nilsl)]), (4, AObj.row [.s (slT s2)]), (6, AObj.grow 41 3 TokV tokd rowT late), (8, AObj.row [.s (st ((List.getD left k tokd).1)), .s (st ((List.getD left k tokd).2.1)), .s (AL.Policy.slP ((List.getD left k tokd).2.2))]), (9, AObj.row [.s (slT ((makeT s2 (List.getD left k tokd)).1))])] (Make_c s2 (List.getD left k tokd) (by exact hP.rise) (by first | omega | (have z1 := hL.few; have z2 := hL.fuel; first | omega | (have z3 := hP.few; first | omega | (rw [hc3.1]; decide) | ((try simp only [List.length_append, List.length_cons, List.length_nil]); omega))))) ?_
    refine gQ ?_
    refine gS [] [((!decide ((makeT s2 (List.getD left k tokd)).2 = 0)) = false) → allP [(!decide ((makeT s2 (List.getD left k tokd)).2 = 0)) = false], ((!decide ((makeT s2 (List.getD left k tokd)).2 = 0)) = false) → allP [(!decide ((makeT s2 (List.getD left k tokd)).2 = 0)) = false], (!decide ((makeT s2 (List.getD left k tokd)).2 = 0)) = false → allP [(!decide ((makeT s2 (List.getD left k tokd)).2 = 0)) = false]] 61 [(2, vp 2 0), (4, vp 4 0), (5, vc (slT left)), (6, vo 6), (8, vp 8 0), (9, vp 9 0), (16, vc (slT left)), (17, vc (i6 (List.length left : Int))), (18, vc (i6 (k : Int))), (46, vc (bo ((!decide ((makeT s2 (List.getD left k tokd)).2 = 0)) || (decide ((List.getD left k tokd).1 = [114, 111, 111, 116])))))] [(2, AObj.row [.s (SC.nilsl)]), (4, AObj.row [.s (slT s2)]), (6, AObj.grow 41 3 TokV tokd rowT late), (8, AObj.row [.s (st ((List.getD left k tokd).1)), .s (st ((List.getD left k tokd).2.1)), .s (AL.Policy.slP ((List.getD left k tokd).2.2))]), (9, AObj.row [.s (slT ((makeT s2 (List.getD left k tokd)).1))])] ⟨(fun hp => hp), (fun hp => hp), (fun hp2 => (by first | exact hp2 | exact ⟨hp, hp2⟩))⟩ ?_
    refine gB (((!decide ((makeT s2 (List.getD left k tokd)).2 = 0)) || (decide ((List.getD left k tokd).1 = [114, 111, 111, 116])))) (fun hc4 => ?_) fun hc4 => ?_
    ·
     try simp only [xT, xF, xO, xP, xN, xM] at hc4
     refine gS [(2, CE.obj (AObj.grow 41 3 TokV tokd rowT [(List.getD left k tokd)])), (3, CE.obj (AObj.grow 41 3 TokV tokd rowT (late ++ [(List.getD left k tokd)])))] [flat 3 rowT [(List.getD left k tokd)] = [.s (st ((List.getD left k tokd).1)), .s (st ((List.getD left k tokd).2.1)), .s (AL.Policy.slP ((List.getD left k tokd).2.2))], List.length ([(List.getD left k tokd)] : List TokV) = 1, AppC (flat 3 rowT [(List.getD left k tokd)]) (List.length ([(List.getD left k tokd)] : List TokV)) 56 (AObj.grow 41 3 TokV tokd rowT late) (AObj.grow 41 3 TokV tokd rowT (late ++ [(List.getD left k tokd)]))] 61 [(2, vp 2 0), (4, vp 4 0), (5, vc (slT left)), (6, vo 50), (16, vc (slT left)), (17, vc (i6 (List.length left : Int))), (18, vc (i6 (k : Int)))] [(2, AObj.row [.s (SC.nilsl)]), (4, AObj.row [.s (slT s2)]), (50, AObj.grow 41 3 TokV tokd rowT (late ++ [(List.getD left k tokd)]))] ⟨rfl, rfl, (⟨_, rfl, rfl, rfl, by have z1 := hL.few; have z3 := hP.few; simp only [List.length_append, List.length_cons, List.length_nil]; omega, by have z1 := hL.few; have z3 := hP.few; simp only [maxLen, List.length_append, List.length_cons, List.length_nil]; omega⟩)⟩ ?_
     refine AMx.exit ?_
     refine AMx.code_exit ?_
     refine AMx.blk_exit ?_
     refine gR [] [InR .i64 ((k : Int) + 1)] 61 [(2, vp 2 0), (4, vp 4 0), (5, vc (slT left)), (6, vo 50), (16, vc (slT left)), (17, vc (i6 (List.length left : Int))), (18, vc (i6 ((k : Int) + 1)))] [(2, AObj.row [.s (SC.nilsl)]), (4, AObj.row [.s (slT s2)]), (50, AObj.grow 41 3 TokV tokd rowT (late ++ [(List.getD left k tokd)]))] (show InR .i64 ((k : Int) + 1) from (inR64 (by first | omega | (have z1 := hL.few; have z2 := hL.fuel; first | omega | (have z3 := hP.few; first | omega | (rw [hc3.1]; decide) | ((try simp only [List.length_append, List.length_cons, List.length_nil]); omega)))) (by first | omega | (have z1 := hL.few; have z2 := hL.fuel; first | omega | (have z3 := hP.few; first | omega | (rw [hc3.1]; decide) | ((try simp only [List.length_append, List.length_cons, List.length_nil]); omega)))))) ?_
     refine AMx.ent_inv (s' := AS.lst 61 [(2, vp 2 0), (4, vp 4 0), (5, vc (slT left)), (6, vo 6), (16, vc (slT left)), (17, vc (i6 (List.length left : Int))), (18, vc (i6 ((k : Int) + 1)))] [(2, AObj.row [.s (SC.nilsl)]), (4, AObj.row [.s (slT s2)]), (6, AObj.grow 41 3 TokV tokd rowT (late ++ [(List.getD left k tokd)]))]) (ent_swap 50 6 (by kernel_rfl) (by kernel_rfl)) ?_
     refine AMx.ent_inv (s' := AS.lst 61 [(2, vp 2 0), (4, vp 4 0), (5, vc (slT left)), (6, vo 6), (16, vc (slT left)), (17, vc (i6 (List.length left : Int))), (18, vc (i6 ((k : Int) + 1)))] [(2, AObj.row [.s (SC.nilsl)]), (4, AObj.row [.s (slT s2)]), (6, AObj.grow 41 3 TokV tokd rowT (late ++ [(List.getD left k tokd)]))]) (ent_proj [2, 4, 5, 6, 16, 17, 18] [2, 4, 6]) ?_
     refine AMx.inv ⟨_, ?_, k + 1, s2, late ++ [(List.getD left k tokd)], ?_, rfl, ?_⟩
     rotate_left
     · exact ⟨pass_b hP (by omega) hc3 hc4, by omega⟩
     · rfl
     · omega
    ·
     try simp only [xT, xF, xO, xP, xN, xM] at hc4
     refine AMx.skip ?_
     refine gR [] [] 61 [(2, vp 2 0), (4, vp 4 0), (5, vc (slT left)), (6, vo 6), (16, vc (slT left)), (17, vc (i6 (List.length left : Int))), (18, vc (i6 (k : Int)))] [(2, AObj.row [.s (SC.nilsl)]), (4, AObj.row [.s (slT ((makeT s2 (List.getD left k tokd)).1))]), (6, AObj.grow 41 3 TokV tokd rowT late)] trivial ?_
     refine AMx.blk ?_
     refine gR [] [InR .i64 ((k : Int) + 1)] 61 [(2, vp 2 0), (4, vp 4 0), (5, vc (slT left)), (6, vo 6), (16, vc (slT left)), (17, vc (i6 (List.length left : Int))), (18, vc (i6 ((k : Int) + 1)))] [(2, AObj.row [.s (SC.nilsl)]), (4, AObj.row [.s (slT ((makeT s2 (List.getD left k tokd)).1))]), (6, AObj.grow 41 3 TokV tokd rowT late)] (show InR .i64 ((k : Int) + 1) from (inR64 (by first | omega | (have z1 := hL.few; have z2 := hL.fuel; first | omega | (have z3 := hP.few; first | omega | (rw [hc3.1]; decide) | ((try simp only [List.length_append, List.length_cons, List.length_nil]); omega)))) (by first | omega | (have z1 := hL.few; have z2 := hL.fuel; first | omega | (have z3 := hP.few; first | omega | (rw [hc3.1]; decide) | ((try simp only [List.length_append, List.length_cons, List.length_nil]); omega)))))) ?_
     refine AMx.ent_inv (s' := AS.lst 61 [(2, vp 2 0), (4, vp 4 0), (5, vc (slT left)), (6, vo 6), (16, vc (slT left)), (17, vc (i6 (List.length left : Int))), (18, vc (i6 ((k : Int) + 1)))] [(2, AObj.row [.s (SC.nilsl)]), (4, AObj.row [.s (slT ((makeT s2 (List.getD left k tokd)).1))]), (6, AObj.grow 41 3 TokV tokd rowT late)]) (ent_proj [2, 4, 5, 6, 16, 17, 18] [2, 4, 6]) ?_
     refine AMx.inv ⟨_, ?_, k + 1, (makeT s2 (List.getD left k tokd)).1, late, ?_, rfl, ?_⟩
     rotate_left
     · exact ⟨pass_c hP (by omega) hc3 hc4, by omega⟩
     · rfl
     · omega
  ·
   refine AMx.exit ?_
   refine AMx.code_exit ?_
   refine AMx.inv_exit ?_
   refine AMx.blk_exit ?_
   refine gQ ?_
   refine gS [] [] 61 [(2, vp 2 0), (4, vp 4 0), (6, vo 6), (57, vc (bo (decide ((List.length late : Int) = (List.length left : Int)))))] [(2, AObj.row [.s (SC.nilsl)]), (4, AObj.row [.s (slT s2)]), (6, AObj.grow 41 3 TokV tokd rowT late)] trivial ?_
   refine gC ((List.length late : Int) = (List.length left : Int)) (fun hc5 => ?_) fun hc5 => ?_
   ·
    refine gS [] [] 61 [(2, vp 2 0), (3, vc (i6 4))] [(2, AObj.row [.s (SC.nilsl)])] trivial ?_
    refine AMx.ent (ent_row 2 (l := [.s (SC.nilsl)]) (m := [.s (slT [])]) (by kernel_rfl) ⟨AC.le_nil, trivial⟩) ?_
    exact gT (AV.tup [TV.agg [.s (slT [])], tc (i6 4)]) (by rw [show loadT l = ([], 4) from by first | exact load_bad hL (by omega) (pass_end hP (show left.length ≤ k by omega)) (by omega) | exact load_end hL (by omega)])
   ·
    refine AMx.skip ?_
    refine gR [] [] 61 [(2, vp 2 0), (4, vp 4 0), (5, vo 6)] [(2, AObj.row [.s (SC.nilsl)]), (4, AObj.row [.s (slT s2)]), (6, AObj.grow 41 3 TokV tokd rowT late)] trivial ?_
    refine AMx.blk ?_
    refine AMx.ent_inv (s' := AS.lst 61 [(2, vp 2 0), (4, vp 4 0), (5, vc (slT late))] [(2, AObj.row [.s (SC.nilsl)]), (4, AObj.row [.s (slT s2)])]) (ent_freeze (id := 6) (T := 41) (by kernel_rfl)) ?_
    refine AMx.ent_inv (s' := AS.lst 61 [(2, vp 2 0), (4, vp 4 0), (5, vc (slT late))] [(2, AObj.row [.s (SC.nilsl)]), (4, AObj.row [.s (slT s2)])]) (ent_proj [2, 4, 5] [2, 4]) ?_
    refine AMx.inv ⟨_, ?_, f - 1, s2, late, ?_, rfl, ?_⟩
    rotate_left
    · exact (load_next hL (by omega) (pass_end hP (show left.length ≤ k by omega)) (by omega) hP.rise (by have z := hP.few; omega)).1
    · rfl
    · have z := (load_next hL (by omega) (pass_end hP (show left.length ≤ k by omega)) (by omega) hP.rise (by have z := hP.few; omega)).2; omega
 ·
  refine AMx.exit ?_
  refine AMx.code_exit ?_
  refine AMx.inv_exit ?_
  refine AMx.blk_exit ?_
  refine gS [] [] 61 [(2, vp 2 0), (3, vc (i6 0))] [(2, AObj.row [.s (slT s)])] trivial ?_
  exact gT (AV.tup [TV.agg [.s (slT s)], tc (i6 0)]) (by rw [show loadT l = (s, 0) from by first | exact load_bad hL (by omega) (pass_end hP (show left.length ≤ k by omega)) (by omega) | exact load_end hL (by omega)])
end AL.Token
namespace AL.Token
open Go AL
open AL.Policy (RuleV rowP slP checkP coversS capsP textP parseP)
set_option linter.unusedVariables false
set_option linter.unusedSimpArgs false
theorem new_wf : WF [firstT] := ⟨fun t ht => by rw [List.mem_singleton.1 ht]; decide, fun _ => 0, fun t ht => .inl (List.mem_singleton.1 ht)⟩
theorem new_sort : SortT [firstT] := List.pairwise_singleton _ _
theorem make_wf {s : List TokV} {t : TokV} (hw : WF s) : WF (makeT s t).1 := by
  rcases make_cases s t with ⟨h, _⟩ | ⟨h, hc, hp, hn, hf, hv⟩
  · rw [h]; exact hw
  · rw [h]
    obtain ⟨d, hd⟩ := hw.ex
    have h1 := find_at hf
    have hne := find_no.1 hn
    refine ⟨fun x hx => ?_, fun n => if n = t.1 then d t.2.1 + 1 else d n, fun x hx => ?_⟩
    · rcases into_mem.1 hx with rfl | hx
      · exact hc
      · exact hw.chk x hx
    · rcases into_mem.1 hx with rfl | hx
      · right
        have h2 : ¬ x.2.1 = x.1 := fun e => hne _ h1.2 (h1.1.trans e)
        refine ⟨hp, ?_, _, into_mem.2 (.inr h1.2), h1.1, hv⟩
        dsimp only
        rw [if_pos rfl, if_neg h2]
      · rcases hd x hx with e | ⟨q1, q2, p, q3, q4, q5⟩
        · exact .inl e
        · right
          refine ⟨q1, ?_, p, into_mem.2 (.inr q3), q4, q5⟩
          dsimp only
          rw [if_neg (hne x hx), if_neg (fun e => hne p q3 (q4.trans e))]
          exact q2
theorem left_wf {s : List TokV} (hw : WF s) (hs : SortT s) (n : Bytes) : WF (leftT s n) := by
  obtain ⟨d, hd⟩ := hw.ex
  refine ⟨fun x hx => hw.chk x (List.mem_filter.1 hx).1, d, fun x hx => ?_⟩
  obtain ⟨hx, hg⟩ := List.mem_filter.1 hx
  rcases hd x hx with e | ⟨q1, q2, p, q3, q4, q5⟩
  · exact .inl e
  · refine .inr ⟨q1, q2, p, List.mem_filter.2 ⟨q3, ?_⟩, q4, q5⟩
    cases hgp : goneS s p n with
    | false => rfl
    | true =>
      have := (gone_anc hs hw hx).2 (.step q3 q4 ((gone_anc hs hw q3).1 hgp))
      rw [this] at hg
      cases hg
theorem left_sort {s : List TokV} (hs : SortT s) (n : Bytes) : SortT (leftT s n) := List.Pairwise.filter _ hs
theorem revoke_wf {s : List TokV} {n : Bytes} (hw : WF s) (hs : SortT s) : WF (revokeT s n).1 := by
  unfold revokeT
  split
  · exact hw
  · exact left_wf hw hs n
theorem revoke_sort {s : List TokV} {n : Bytes} (hs : SortT s) : SortT (revokeT s n).1 := by
  unfold revokeT
  split
  · exact hs
  · exact left_sort hs n
theorem revoke_len (s : List TokV) (n : Bytes) : (revokeT s n).1.length ≤ s.length := by
  unfold revokeT
  split
  · exact Nat.le_refl _
  · exact List.length_filter_le _ _
theorem wf_rules {s : List TokV} (hw : WF s) : ∀ x ∈ s, x.2.2.length ≤ 100000 := fun x hx => Nat.le_trans (check_le (hw.chk x hx)) (by decide)
def doT (s : List TokV) (o : OpT) : List TokV := if o.1 = true then (revokeT s o.2.1).1 else (makeT s o.2).1
structure Good (s : List TokV) (k : Nat) : Prop where
  wf : WF s
  rise : SortT s
  few : s.length ≤ k + 1
theorem good_0 : Good [firstT] 0 := ⟨new_wf, new_sort, Nat.le_refl _⟩
theorem good_rev {s : List TokV} {k : Nat} (h : Good s k) (n : Bytes) : Good (revokeT s n).1 (k + 1) := ⟨revoke_wf h.wf h.rise, revoke_sort h.rise, by have := revoke_len s n; have := h.few; omega⟩
theorem good_make {s : List TokV} {k : Nat} (h : Good s k) (t : TokV) : Good (makeT s t).1 (k + 1) := ⟨make_wf h.wf, make_sort h.rise, by have := (make_len s t).2; have := h.few; omega⟩
theorem good_do {s : List TokV} {k : Nat} (h : Good s k) (o : OpT) : Good (doT s o) (k + 1) := by
  unfold doT
  split
  · exact good_rev h _
  · exact good_make h _
def madeT (l : List OpT) : List TokV := l.foldl doT [firstT]
theorem made_step {l : List OpT} {k : Nat} (h : k < l.length) : madeT (List.take (k + 1) l) = doT (madeT (List.take k l)) (List.getD l k opd) := by
  unfold madeT
  rw [Lib.take_succ opd l k h, List.foldl_append]; rfl
theorem made_good (l : List OpT) : ∀ k, k ≤ l.length → Good (madeT (List.take k l)) k
  | 0, _ => good_0
  | k + 1, h => by rw [made_step (by omega)]; exact good_do (made_good l k (by omega)) _
theorem made_goodA (l : List OpT) : Good (madeT l) l.length := by
  have := made_good l l.length (Nat.le_refl _)
  rwa [List.take_length] at this
theorem made_y {l : List OpT} {k : Nat} (h : k < l.length) (h1 : (List.getD l k opd).1 = true) : (revokeT (madeT (List.take k l)) (List.getD l k opd).2.1).1 = madeT (List.take (k + 1) l) := by
  rw [made_step h, doT, if_pos h1]
theorem made_n {l : List OpT} {k : Nat} (h : k < l.length) (h1 : (List.getD l k opd).1 = false) : (makeT (madeT (List.take k l)) (List.getD l k opd).2).1 = madeT (List.take (k + 1) l) := by
  rw [made_step h, doT, if_neg (by rw [h1]; decide)]
def tokensO (l : List OpT) : List TokV := l.map (·.2)
theorem toks_step (l : List OpT) (k : Nat) (h : k < l.length) : tokensO (List.take k l) ++ [(List.getD l k opd).2] = tokensO (List.take (k + 1) l) := by
  unfold tokensO
  rw [Lib.take_succ opd l k h, List.map_append]; rfl
theorem toks_len (l : List OpT) : (tokensO l).length = l.length := List.length_map _
def bigT (x : TokV) : Bool := decide (40 < x.1.length) || (decide (40 < x.2.1.length) || decide (0 < Policy.overP x.2.2))
def overT (l : List TokV) : Int := if 12 < l.length ∨ l.any bigT = true then 1 else 0
def SmallTo (l : List TokV) (k : Nat) : Prop := ∀ x ∈ List.take k l, bigT x = false
theorem small_0 (l : List TokV) : SmallTo l 0 := fun x hx => by simp at hx
theorem small_step {l : List TokV} {k : Nat} (h : k < l.length) (hN : SmallTo l k) (h1 : (¬ (40 : Int) < (List.length (List.getD l k tokd).1 : Int) ∧ ¬ (40 : Int) < (List.length (List.getD l k tokd).2.1 : Int)) ∧ ¬ 0 < Policy.overP (List.getD l k tokd).2.2) : SmallTo l (k + 1) := by
  intro x hx
  rw [Lib.take_succ tokd l k h] at hx
  rcases List.mem_append.1 hx with q | q
  · exact hN x q
  · rw [List.mem_singleton.1 q]
    unfold bigT
    rw [decide_eq_false (by omega), decide_eq_false (by omega), decide_eq_false h1.2]; rfl
theorem over_1 {l : List TokV} (h : (12 : Int) < (List.length l : Int)) : overT l = 1 := if_pos (.inl (by omega))
theorem over_2 {l : List TokV} {k : Nat} (hk : k < l.length) (h : ((40 : Int) < (List.length (List.getD l k tokd).1 : Int) ∨ (40 : Int) < (List.length (List.getD l k tokd).2.1 : Int)) ∨ 0 < Policy.overP (List.getD l k tokd).2.2) : overT l = 1 := by
  refine if_pos (.inr (List.any_eq_true.2 ⟨_, Lib.getD_mem tokd l k hk, ?_⟩))
  unfold bigT
  rcases h with (h | h) | h
  · rw [decide_eq_true (p := 40 < (List.getD l k tokd).1.length) (by omega)]; rfl
  · rw [decide_eq_true (p := 40 < (List.getD l k tokd).2.1.length) (by omega)]; simp
  · rw [decide_eq_true (p := 0 < Policy.overP (List.getD l k tokd).2.2) h]; simp
theorem over_0 {l : List TokV} {k : Nat} (h12 : ¬ (12 : Int) < (List.length l : Int)) (hk : l.length ≤ k) (hN : SmallTo l k) : overT l = 0 := by
  unfold SmallTo at hN
  rw [List.take_of_length_le hk] at hN
  refine if_neg fun h => ?_
  rcases h with h | h
  · omega
  · obtain ⟨x, hx, h2⟩ := List.any_eq_true.1 h
    rw [hN x hx] at h2
    cases h2
theorem over_ok {l : List TokV} (h : ¬ 0 < overT l) : l.length ≤ 12 ∧ ∀ x ∈ l, x.1.length ≤ 40 ∧ x.2.1.length ≤ 40 ∧ x.2.2.length ≤ 8 := by
  unfold overT at h
  split at h
  · exact absurd h (by decide)
  · rename_i q
    rw [not_or] at q
    refine ⟨by omega, fun x hx => ?_⟩
    have : bigT x = false := by
      cases hb : bigT x with
      | false => rfl
      | true => exact absurd (List.any_eq_true.2 ⟨x, hx, hb⟩) q.2
    unfold bigT at this
    simp only [Bool.or_eq_false_iff, decide_eq_false_iff_not] at this
    exact ⟨by omega, by omega, (Policy.over_ok this.2.2).1⟩
theorem over_tok {l : List OpT} (h : ¬ 0 < overT (tokensO l)) : l.length ≤ 12 ∧ ∀ x ∈ l, x.2.1.length ≤ 40 ∧ x.2.2.1.length ≤ 40 ∧ x.2.2.2.length ≤ 8 := by
  have := over_ok h
  rw [toks_len] at this
  exact ⟨this.1, fun x hx => this.2 x.2 (List.mem_map.2 ⟨x, hx, rfl⟩)⟩
theorem names_at {l : List TokV} {i : Nat} (h : i < l.length) : List.getD (namesT l) i [] = (List.getD l i tokd).1 := by
  unfold namesT
  rw [Lib.getD_lt _ _ _ (by rw [List.length_map]; exact h), Lib.getD_lt _ _ _ h, List.getElem_map]
theorem findR_at {l : List TokV} (hs : SortT l) {i : Nat} (h : i < l.length) : findR l (List.getD l i tokd).1 = (List.getD l i tokd, true) := by
  have := find_yes hs (Lib.getD_mem tokd l i h) rfl
  unfold findR
  rw [if_neg (by omega), this.2]
def RootIn (s : List TokV) : Prop := s = [] ∨ 0 ≤ findT s rootB
theorem find_into {s : List TokV} {t : TokV} {n : Bytes} : 0 ≤ findT (intoT s t) n ↔ t.1 = n ∨ 0 ≤ findT s n := by
  have key : ∀ l : List TokV, 0 ≤ findT l n ↔ ∃ x ∈ l, x.1 = n := fun l => by
    constructor
    · intro h; exact ⟨_, (find_at h).2, (find_at h).1⟩
    · rintro ⟨x, hx, e⟩
      rcases Int.lt_or_le (findT l n) 0 with q | q
      · exact absurd e (find_no.1 q x hx)
      · exact q
  rw [key, key]
  constructor
  · rintro ⟨x, hx, e⟩
    rcases into_mem.1 hx with rfl | hx
    · exact .inl e
    · exact .inr ⟨x, hx, e⟩
  · rintro (e | ⟨x, hx, e⟩)
    · exact ⟨t, into_mem.2 (.inl rfl), e⟩
    · exact ⟨x, into_mem.2 (.inr hx), e⟩
theorem add_cases {s s' : List TokV} {t : TokV} (h : addL s t = some s') : s' = intoT s t ∧ ((t = firstT ∧ s = []) ∨ (makeT s t = (intoT s t, 0) ∧ ¬ t.1 = rootB)) := by
  unfold addL at h
  split at h
  · rename_i q
    cases h
    exact ⟨rfl, .inl ⟨q.1, List.eq_nil_of_length_eq_zero (by omega)⟩⟩
  · split at h
    · cases h
    · rename_i q
      rw [not_or] at q
      rcases make_cases s t with ⟨_, q2⟩ | ⟨q2, _⟩
      · exact absurd q2 q.1
      · cases h
        rw [q2]
        exact ⟨rfl, .inr ⟨rfl, q.2⟩⟩
theorem add_root {s s' : List TokV} {t : TokV} (hr : RootIn s) (h : addL s t = some s') : RootIn s' := by
  obtain ⟨rfl, h2⟩ := add_cases h
  right
  rw [find_into]
  rcases h2 with ⟨rfl, _⟩ | ⟨q, _⟩
  · exact .inl rfl
  · right
    rcases hr with rfl | hr
    · rcases make_cases [] t with ⟨_, z⟩ | ⟨_, _, _, _, z, _⟩
      · rw [q] at z; exact absurd rfl z
      · cases z
    · exact hr
inductive Thin (s : List TokV) : List TokV → List TokV → Prop
  | nil : Thin s [] []
  | keep {t a l} : Thin s a l → Thin s (t :: a) (t :: l)
  | drop {t a l} : 0 ≤ findT s t.1 → Thin s a l → Thin s (t :: a) l
theorem Thin.refl {s : List TokV} : ∀ l : List TokV, Thin s l l
  | [] => .nil
  | _ :: l => .keep (Thin.refl l)
theorem Thin.mono {s s' : List TokV} (h : ∀ n, 0 ≤ findT s n → 0 ≤ findT s' n) {a l : List TokV} (ht : Thin s a l) : Thin s' a l := by
  induction ht with
  | nil => exact .nil
  | keep _ ih => exact .keep ih
  | drop q _ ih => exact .drop (h _ q) ih
theorem pass_sort : ∀ {l s : List TokV}, SortT s → SortT (passL s l).1
  | [], s, h => h
  | t :: l, s, h => by
    unfold passL
    split
    · rename_i s' ha
      refine pass_sort ?_
      obtain ⟨e, h2⟩ := add_cases ha
      rw [e]
      rcases h2 with ⟨rfl, rfl⟩ | ⟨q, _⟩
      · exact List.pairwise_singleton _ _
      · have := make_sort (t := t) h
        rwa [q] at this
    · exact pass_sort h
def bobT : TokV := ([98, 111, 98], rootB, [([97], 1)])
def eveT : TokV := ([101, 118, 101], [98, 111, 98], [])
def maxT : TokV := ([109, 97, 120], [98, 111, 98], [([], 1)])
def awA : List TokV := [bobT, firstT]
def awB : List TokV := [bobT, eveT, firstT]
instance (l : List TokV) : Decidable (SortT l) := inferInstanceAs (Decidable (List.Pairwise _ _))
theorem awm1 : makeT [firstT] bobT = (awA, 0) := Prod.ext (by decide +kernel) (by decide +kernel)
theorem awm2 : makeT awA eveT = (awB, 0) := Prod.ext (by decide +kernel) (by decide +kernel)
theorem awm3 : (makeT awB maxT).2 = 13 := by decide +kernel
theorem awr : revokeT awB [98, 111, 98] = ([firstT], [[98, 111, 98], [101, 118, 101]], 0) := Prod.ext (by decide +kernel) (Prod.ext (by decide +kernel) (by decide +kernel))
theorem aws1 : SortT awA := by decide +kernel
theorem aws2 : SortT awB := by decide +kernel
theorem aww1 : WF awA := by
  have := make_wf (t := bobT) new_wf
  rwa [awm1] at this
theorem aww2 : WF awB := by
  have := make_wf (t := eveT) aww1
  rwa [awm2] at this
theorem awf1 : (findR [firstT] [98, 111, 98]).2 = false := by decide +kernel
theorem awf2 : findR awB [98, 111, 98] = (bobT, true) := by decide +kernel
theorem awt : (textT bobT).2 = 0 := by decide +kernel
theorem awp : parseT [98, 111, 98] (textT bobT).1 = (bobT, 0) := by decide +kernel
theorem awl : (textT bobT).1.length ≤ 2000 := by decide +kernel
end AL.Token
namespace AL.Token
open Go Go.Proofs AL
open AL.Policy (RuleV rowP slP checkP coversS capsP)
set_option linter.unusedVariables false
set_option linter.unusedSimpArgs false
theorem f14_body : Tryz.f14.body = some (.seq (.region 0 (rg Tryz.f14 0) false) (.seq (.region 1 (rg Tryz.f14 1) true) (.ret))) := by kernel_rfl
set_option maxRecDepth 100000 in
set_option maxHeartbeats 8000000 in
theorem Own_c (t : TokV) (hr : t.2.2.length ≤ 100000) : Pure Tryz.prog 14 [TV.agg [.s (st t.1), .s (st t.2.1), .s (AL.Policy.slP t.2.2)]] (AV.t (TV.agg [.s (st t.1), .s (st t.2.1), .s (AL.Policy.slP t.2.2)])) := by
 refine Pure.of_body Tryz.func14 f14_body (by kernel_rfl) Tryz.ntmps14 (by kernel_rfl) (by kernel_rfl) ?_
 refine gS [] [] 11 [(1, vp 1 0), (2, vp 2 0)] [(1, AObj.row [.s (st t.1), .s (st t.2.1), .s (AL.Policy.slP t.2.2)]), (2, AObj.row [.s (st []), .s (st []), .s (SC.nilsl)])] trivial ?_
 refine gY [(6, CE.call [] [] (vc (AL.Policy.slP t.2.2)) [])] [(1, [1]), (3, [1]), (5, [1]), (8, [2])] [Spec Tryz.prog 42 [tc (AL.Policy.slP t.2.2)] (ofH []) (vc (AL.Policy.slP t.2.2)) (ofH [])] 11 [(2, vp 2 0)] [(2, AObj.row [.s (st t.1), .s (st t.2.1), .s (AL.Policy.slP t.2.2)])] mixed (Policy.Own_c t.2.2 (by omega)) ?_
 exact gT (AV.t (TV.agg [.s (st t.1), .s (st t.2.1), .s (AL.Policy.slP t.2.2)])) rfl
theorem f8_body : Tryz.f8.body = some (.seq (.region 0 (rg Tryz.f8 0) false) (.seq (.seq (.region 1 (rg Tryz.f8 1) false) (.cond (.tmp 6) (.seq (.region 2 (rg Tryz.f8 2) false) (.ret)) (.skip))) (.seq (.seq (.region 3 (rg Tryz.f8 3) false) (.block 0 (.loop (.seq (.seq (.region 4 (rg Tryz.f8 4) false) (.cond (.tmp 10) (.skip) (.exit 0))) (.seq (.block 1 (.seq (.region 6 (rg Tryz.f8 6) false) (.cond (.tmp 37) (.seq (.region 7 (rg Tryz.f8 7) false) (.ret)) (.skip)))) (.region 5 (rg Tryz.f8 5) false)))))) (.seq (.region 8 (rg Tryz.f8 8) false) (.ret))))) := by kernel_rfl
set_option maxRecDepth 100000 in
set_option maxHeartbeats 8000000 in
theorem Over_c (l : List TokV) : Pure Tryz.prog 8 [tc (slT l)] (vc (i6 (overT l))) := by
 refine Pure.of_body Tryz.func8 f8_body (by kernel_rfl) Tryz.ntmps8 (by kernel_rfl) (by kernel_rfl) ?_
 refine AMx.sl 0 (l := l) rfl (fun hl => ?_)
 simp only [maxLen] at hl
 refine gS [] [] 38 [(0, vc (slT l))] [] trivial ?_
 refine gQ ?_
 refine gS [] [] 38 [(0, vc (slT l)), (6, vc (bo (decide (12 < (List.length l : Int)))))] [] trivial ?_
 refine gC (12 < (List.length l : Int)) (fun hc1 => ?_) fun hc1 => ?_
 ·
  refine gS [] [] 38 [(2, vc (i6 1))] [] trivial ?_
  exact gT (vc (i6 1)) (by first | rw [over_1 hc1] | rw [over_2 (k := i) (by omega) hc3])
 ·
  refine AMx.skip ?_
  refine gQ ?_
  refine gS [] [] 38 [(0, vc (slT l)), (3, vc (i6 0))] [] trivial ?_
  refine AMx.block ?_
  refine AMx.ent (s' := AS.lst 38 [(0, vc (slT l)), (3, vc (i6 0))] []) (ent_proj [0, 3] []) ?_
  refine AMx.loop (fun mm ss => ∃ (i : Nat), (i ≤ l.length ∧ SmallTo l i) ∧ mm = l.length - i ∧ ss = AS.lst 38 [(0, vc (slT l)), (3, vc (i6 (i : Int)))] []) ⟨0, ?_, rfl, ?_⟩ ?_
  · exact ⟨Nat.zero_le _, small_0 l⟩
  · rfl
  rintro mm ss ⟨i, ⟨hI, hN⟩, rfl, rfl⟩
  refine gQ ?_
  refine gS [] [] 38 [(0, vc (slT l)), (3, vc (i6 (i : Int))), (10, vc (bo (decide ((i : Int) < (List.length l : Int)))))] [] trivial ?_
  refine gC ((i : Int) < (List.length l : Int)) (fun hc2 => ?_) fun hc2 => ?_
  ·
   refine AMx.skip ?_
   refine gQ ?_
   refine AMx.block ?_
   refine gS [(22, CE.call [] [] (vc (i6 (Policy.overP ((List.getD l i tokd).2.2)))) [])] [(0 : Int) ≤ (i : Int), (i : Int) < List.length l, ((decide (40 < (List.length ((List.getD l i tokd).1 : List UInt8) : Int))) = false) → allP [(decide (40 < (List.length ((List.getD l i tokd).1 : List UInt8) : Int))) = false, (decide (40 < (List.length ((List.getD l i tokd).1 : List UInt8) : Int))) = false, (0 : Int) ≤ (i : Int), (i : Int) < List.length l], ((decide (40 < (List.length ((List.getD l i tokd).1 : List UInt8) : Int))) = false) → allP [(decide (40 < (List.length ((List.getD l i tokd).1 : List UInt8) : Int))) = false], ((decide (40 < (List.length ((List.getD l i tokd).1 : List UInt8) : Int))) = false) → allP [(decide (40 < (List.length ((List.getD l i tokd).1 : List UInt8) : Int))) = false], ((decide (40 < (List.length ((List.getD l i tokd).1 : List UInt8) : Int))) = false) → allP [(decide (40 < (List.length ((List.getD l i tokd).1 : List UInt8) : Int))) = false], ((decide (40 < (List.length ((List.getD l i tokd).1 : List UInt8) : Int))) = false) → allP [(decide (40 < (List.length ((List.getD l i tokd).1 : List UInt8) : Int))) = false], (decide (40 < (List.length ((List.getD l i tokd).1 : List UInt8) : Int))) = false → allP [(decide (40 < (List.length ((List.getD l i tokd).1 : List UInt8) : Int))) = false], (((decide (40 < (List.length ((List.getD l i tokd).1 : List UInt8) : Int))) || (decide (40 < (List.length ((List.getD l i tokd).2.1 : List UInt8) : Int)))) = false) → allP [((decide (40 < (List.length ((List.getD l i tokd).1 : List UInt8) : Int))) || (decide (40 < (List.length ((List.getD l i tokd).2.1 : List UInt8) : Int)))) = false, ((decide (40 < (List.length ((List.getD l i tokd).1 : List UInt8) : Int))) || (decide (40 < (List.length ((List.getD l i tokd).2.1 : List UInt8) : Int)))) = false, (0 : Int) ≤ (i : Int), (i : Int) < List.length l], (((decide (40 < (List.length ((List.getD l i tokd).1 : List UInt8) : Int))) || (decide (40 < (List.length ((List.getD l i tokd).2.1 : List UInt8) : Int)))) = false) → allP [((decide (40 < (List.length ((List.getD l i tokd).1 : List UInt8) : Int))) || (decide (40 < (List.length ((List.getD l i tokd).2.1 : List UInt8) : Int)))) = false], (((decide (40 < (List.length ((List.getD l i tokd).1 : List UInt8) : Int))) || (decide (40 < (List.length ((List.getD l i tokd).2.1 : List UInt8) : Int)))) = false) → allP [((decide (40 < (List.length ((List.getD l i tokd).1 : List UInt8) : Int))) || (decide (40 < (List.length ((List.getD l i tokd).2.1 : List UInt8) : Int)))) = false], (((decide (40 < (List.length ((List.getD l i tokd).1 : List UInt8) : Int))) || (decide (40 < (List.length ((List.getD l i tokd).2.1 : List UInt8) : Int)))) = false) → allP [((decide (40 < (List.length ((List.getD l i tokd).1 : List UInt8) : Int))) || (decide (40 < (List.length ((List.getD l i tokd).2.1 : List UInt8) : Int)))) = false, Spec Tryz.prog 38 [tc (AL.Policy.slP ((List.getD l i tokd).2.2))] (ofH []) (vc (i6 (Policy.overP ((List.getD l i tokd).2.2)))) (ofH [])], (((decide (40 < (List.length ((List.getD l i tokd).1 : List UInt8) : Int))) || (decide (40 < (List.length ((List.getD l i tokd).2.1 : List UInt8) : Int)))) = false) → allP [((decide (40 < (List.length ((List.getD l i tokd).1 : List UInt8) : Int))) || (decide (40 < (List.length ((List.getD l i tokd).2.1 : List UInt8) : Int)))) = false], ((decide (40 < (List.length ((List.getD l i tokd).1 : List UInt8) : Int))) || (decide (40 < (List.length ((List.getD l i tokd).2.1 : List UInt8) : Int)))) = false → allP [((decide (40 < (List.length ((List.getD l i tokd).1 : List UInt8) : Int))) || (decide (40 < (List.length ((List.getD l i tokd).2.1 : List UInt8) : Int)))) = false]] 38 [(0, vc (slT l)), (3, vc (i6 (i : Int))), (37, vc (bo (((decide (40 < (List.length ((List.getD l i tokd).1 : List UInt8) : Int))) || (decide (40 < (List.length ((List.getD l i tokd).2.1 : List UInt8) : Int)))) || (decide (0 < Policy.overP ((List.getD l i tokd).2.2))))))] [] ⟨(by omega), (by omega), (fun hp => by have hq := hp; (try simp only [xT, xF, xA, xO, xB, xP, xN, xM, Bool.not_eq_true, Bool.not_eq_false] at hq); exact ⟨hp, hp, (by omega), (show (i : Int) < List.length l from (by omega))⟩), (fun hp => hp), (fun hp => hp), (fun hp => hp), (fun hp => hp), (fun hp2 => (by first | exact hp2 | exact ⟨hp, hp2⟩)), (fun hp => by have hq := hp; (try simp only [xT, xF, xA, xO, xB, xP, xN, xM, Bool.not_eq_true, Bool.not_eq_false] at hq); exact ⟨hp, hp, (by omega), (show (i : Int) < List.length l from (by omega))⟩), (fun hp => hp), (fun hp => hp), (fun hp => by have hq := hp; (try simp only [xT, xF, xA, xO, xB, xP, xN, xM, Bool.not_eq_true, Bool.not_eq_false] at hq); exact ⟨hp, (Policy.Over_c ((List.getD l i tokd).2.2))⟩), (fun hp => hp), (fun hp2 => (by first | exact hp2 | exact ⟨hp, hp2⟩))⟩ ?_
   refine gB ((((decide (40 < (List.length ((List.getD l i tokd).1 : List UInt8) : Int))) || (decide (40 < (List.length ((List.getD l i tokd).2.1 : List UInt8) : Int)))) || (decide (0 < Policy.overP ((List.getD l i tokd).2.2))))) (fun hc3 => ?_) fun hc3 => ?_
   ·
    try simp only [xT, xF, xO, xP] at hc3
    refine gS [] [] 38 [(2, vc (i6 1))] [] trivial ?_
    exact gT (vc (i6 1)) (by first | rw [over_1 hc1] | rw [over_2 (k := i) (by omega) hc3])
   ·
    try simp only [xT, xF, xO, xP] at hc3
    refine AMx.skip ?_
    refine AMx.blk ?_
    refine gR [] [InR .i64 ((i : Int) + 1)] 38 [(0, vc (slT l)), (3, vc (i6 ((i : Int) + 1)))] [] (show InR .i64 ((i : Int) + 1) from (inR64 (by omega) (by omega))) ?_
    refine AMx.ent_inv (s' := AS.lst 38 [(0, vc (slT l)), (3, vc (i6 ((i : Int) + 1)))] []) (ent_proj [0, 3] []) ?_
    refine AMx.inv ⟨_, ?_, i + 1, ?_, rfl, ?_⟩
    rotate_left
    · exact ⟨by omega, small_step (by omega) hN hc3⟩
    · rfl
    · omega
  ·
   refine AMx.exit ?_
   refine AMx.code_exit ?_
   refine AMx.inv_exit ?_
   refine AMx.blk_exit ?_
   refine gS [] [] 38 [(2, vc (i6 0))] [] trivial ?_
   exact gT (vc (i6 0)) (by rw [over_0 hc1 (by omega) hN])
theorem f9_body : Tryz.f9.body = some (.seq (.region 0 (rg Tryz.f9 0) false) (.seq (.region 1 (rg Tryz.f9 1) false) (.seq (.seq (.region 2 (rg Tryz.f9 2) false) (.block 0 (.loop (.seq (.seq (.region 3 (rg Tryz.f9 3) false) (.cond (.tmp 8) (.skip) (.exit 0))) (.seq (.block 1 (.region 5 (rg Tryz.f9 5) false)) (.region 4 (rg Tryz.f9 4) false)))))) (.seq (.region 6 (rg Tryz.f9 6) false) (.ret))))) := by kernel_rfl
set_option maxRecDepth 100000 in
set_option maxHeartbeats 8000000 in
theorem tokens_c (l : List OpT) (hb : l.length * 64 ≤ 140737488351232) : Pure Tryz.prog 9 [tc (slO l)] (vc (slT (tokensO l))) := by
 refine Pure.of_body Tryz.func9 f9_body (by kernel_rfl) Tryz.ntmps9 (by kernel_rfl) (by kernel_rfl) ?_
 refine gS [] [] 20 [(0, vc (slO l))] [] trivial ?_
 refine gS [] [] 20 [(0, vc (slO l)), (3, vc (SC.nilsl))] [] trivial ?_
 refine gQ ?_
 refine gS [] [] 20 [(0, vc (slO l)), (3, vc (SC.nilsl)), (4, vc (i6 0))] [] trivial ?_
 refine AMx.block ?_
 refine AMx.ent (s' := AS.lst 20 [(0, vc (slO l)), (3, vo 3), (4, vc (i6 0))] [(3, AObj.grow 34 3 TokV tokd rowT [])]) (ent_adopt (t := 3) (d := 3) 34 3 TokV tokd rowT (by kernel_rfl) (by kernel_rfl) (by kernel_rfl) (by kernel_rfl)) ?_
 refine AMx.ent (s' := AS.lst 20 [(0, vc (slO l)), (3, vo 3), (4, vc (i6 0))] [(3, AObj.grow 34 3 TokV tokd rowT [])]) (ent_proj [0, 3, 4] [3]) ?_
 refine AMx.loop (fun mm ss => ∃ (k : Nat), (k ≤ l.length) ∧ mm = l.length - k ∧ ss = AS.lst 20 [(0, vc (slO l)), (3, vo 3), (4, vc (i6 (k : Int)))] [(3, AObj.grow 34 3 TokV tokd rowT (tokensO (List.take k l)))]) ⟨0, ?_, rfl, ?_⟩ ?_
 · omega
 · rfl
 rintro mm ss ⟨k, hI, rfl, rfl⟩
 refine gQ ?_
 refine gS [] [] 20 [(0, vc (slO l)), (3, vo 3), (4, vc (i6 (k : Int))), (8, vc (bo (decide ((k : Int) < (List.length l : Int)))))] [(3, AObj.grow 34 3 TokV tokd rowT (tokensO (List.take k l)))] trivial ?_
 refine gC ((k : Int) < (List.length l : Int)) (fun hc1 => ?_) fun hc1 => ?_
 ·
  refine AMx.skip ?_
  refine gQ ?_
  refine AMx.block ?_
  refine gR [(6, CE.obj (AObj.grow 34 3 TokV tokd rowT [((List.getD l k opd).2)])), (7, CE.obj (AObj.grow 34 3 TokV tokd rowT ((tokensO (List.take k l)) ++ [((List.getD l k opd).2)])))] [(0 : Int) ≤ (k : Int), (k : Int) < List.length l, flat 3 rowT [((List.getD l k opd).2)] = [.s (st (((List.getD l k opd).2).1)), .s (st (((List.getD l k opd).2).2.1)), .s (AL.Policy.slP (((List.getD l k opd).2).2.2))], List.length ([((List.getD l k opd).2)] : List TokV) = 1, AppC (flat 3 rowT [((List.getD l k opd).2)]) (List.length ([((List.getD l k opd).2)] : List TokV)) 56 (AObj.grow 34 3 TokV tokd rowT (tokensO (List.take k l))) (AObj.grow 34 3 TokV tokd rowT ((tokensO (List.take k l)) ++ [((List.getD l k opd).2)]))] 20 [(0, vc (slO l)), (3, vo 18), (4, vc (i6 (k : Int)))] [(18, AObj.grow 34 3 TokV tokd rowT ((tokensO (List.take k l)) ++ [((List.getD l k opd).2)]))] ⟨(by first | omega | (simp only [List.length_append, List.length_cons, List.length_nil, toks_len, List.length_take]; omega)), (by first | omega | (simp only [List.length_append, List.length_cons, List.length_nil, toks_len, List.length_take]; omega)), rfl, rfl, (⟨_, rfl, rfl, rfl, by simp only [List.length_append, List.length_cons, List.length_nil, toks_len, List.length_take]; omega, by simp only [maxLen, List.length_append, List.length_cons, List.length_nil, toks_len, List.length_take]; omega⟩)⟩ ?_
  refine AMx.blk ?_
  refine gR [] [InR .i64 ((k : Int) + 1)] 20 [(0, vc (slO l)), (3, vo 18), (4, vc (i6 ((k : Int) + 1)))] [(18, AObj.grow 34 3 TokV tokd rowT ((tokensO (List.take k l)) ++ [((List.getD l k opd).2)]))] (show InR .i64 ((k : Int) + 1) from (inR64 (by first | omega | (simp only [List.length_append, List.length_cons, List.length_nil, toks_len, List.length_take]; omega)) (by first | omega | (simp only [List.length_append, List.length_cons, List.length_nil, toks_len, List.length_take]; omega)))) ?_
  refine AMx.ent_inv (s' := AS.lst 20 [(0, vc (slO l)), (3, vo 3), (4, vc (i6 ((k : Int) + 1)))] [(3, AObj.grow 34 3 TokV tokd rowT ((tokensO (List.take k l)) ++ [((List.getD l k opd).2)]))]) (ent_swap 18 3 (by kernel_rfl) (by kernel_rfl)) ?_
  refine AMx.ent_inv (s' := AS.lst 20 [(0, vc (slO l)), (3, vo 3), (4, vc (i6 ((k : Int) + 1)))] [(3, AObj.grow 34 3 TokV tokd rowT ((tokensO (List.take k l)) ++ [((List.getD l k opd).2)]))]) (ent_proj [0, 3, 4] [3]) ?_
  refine AMx.inv ⟨_, ?_, k + 1, ?_, rfl, ?_⟩
  rotate_left
  · omega
  · rw [← toks_step l k (by omega)]; rfl
  · omega
 ·
  refine AMx.exit ?_
  refine AMx.code_exit ?_
  refine AMx.inv_exit ?_
  refine AMx.blk_exit ?_
  rw [show List.take k l = l from List.take_of_length_le (by omega)]
  refine gS [] [] 20 [(2, vo 3)] [(3, AObj.grow 34 3 TokV tokd rowT (tokensO l))] trivial ?_
  refine AMx.ent (s' := AS.lst 20 [(2, vc (slT (tokensO l)))] []) (ent_freeze (id := 3) (T := 34) (by kernel_rfl)) ?_
  exact gT (vc (slT (tokensO l))) rfl
theorem f10_body : Tryz.f10.body = some (.seq (.region 0 (rg Tryz.f10 0) false) (.seq (.region 1 (rg Tryz.f10 1) false) (.seq (.region 2 (rg Tryz.f10 2) false) (.seq (.region 3 (rg Tryz.f10 3) false) (.seq (.region 4 (rg Tryz.f10 4) false) (.seq (.region 5 (rg Tryz.f10 5) false) (.seq (.region 6 (rg Tryz.f10 6) false) (.seq (.region 7 (rg Tryz.f10 7) false) (.seq (.region 8 (rg Tryz.f10 8) false) (.seq (.region 9 (rg Tryz.f10 9) false) (.seq (.region 10 (rg Tryz.f10 10) false) (.ret)))))))))))) := by kernel_rfl
set_option maxRecDepth 100000 in
set_option maxHeartbeats 8000000 in
theorem awake_c  : Pure Tryz.prog 10 [] (vc (bo true)) := by
 refine Pure.of_body Tryz.func10 f10_body (by kernel_rfl) Tryz.ntmps10 (by kernel_rfl) (by kernel_rfl) ?_
 refine gS [] [] 135 [] [] trivial ?_
 refine gS [(0, CE.call [] [] (AV.t (TV.agg [.s (slT [firstT])])) [])] [Spec Tryz.prog 11 [] (ofH []) (AV.t (TV.agg [.s (slT [firstT])])) (ofH [])] 135 [(1, vp 1 0)] [(1, AObj.row [.s (slT [firstT])])] (New_c) ?_
 refine gS [(2, CE.shr (some (AObj.grow 80 2 AL.Policy.RuleV ([], 0) AL.Policy.rowP [(([97], 1) : AL.Policy.RuleV)]))), (4, CE.call [] [] (AV.tup [TV.agg [.s (slT ((makeT [firstT] (([98, 111, 98], [114, 111, 111, 116], [(([97], 1) : AL.Policy.RuleV)]) : TokV)).1))], tc (i6 ((makeT [firstT] (([98, 111, 98], [114, 111, 111, 116], [(([97], 1) : AL.Policy.RuleV)]) : TokV)).2))]) [])] [flat 2 AL.Policy.rowP [(([97], 1) : AL.Policy.RuleV)] = [.s (st [97]), .s (u8 1)], List.length ([(([97], 1) : AL.Policy.RuleV)] : List AL.Policy.RuleV) = 1, Spec Tryz.prog 20 [TV.agg [.s (slT [firstT])], TV.agg [.s (st [98, 111, 98]), .s (st [114, 111, 111, 116]), .s (AL.Policy.slP [(([97], 1) : AL.Policy.RuleV)])]] (ofH []) (AV.tup [TV.agg [.s (slT ((makeT [firstT] (([98, 111, 98], [114, 111, 111, 116], [(([97], 1) : AL.Policy.RuleV)]) : TokV)).1))], tc (i6 ((makeT [firstT] (([98, 111, 98], [114, 111, 111, 116], [(([97], 1) : AL.Policy.RuleV)]) : TokV)).2))]) (ofH [])] 135 [(1, vp 1 0), (2, vp 2 0), (3, vc (i6 ((makeT [firstT] (([98, 111, 98], [114, 111, 111, 116], [(([97], 1) : AL.Policy.RuleV)]) : TokV)).2)))] [(1, AObj.row [.s (slT [firstT])]), (2, AObj.row [.s (slT ((makeT [firstT] (([98, 111, 98], [114, 111, 111, 116], [(([97], 1) : AL.Policy.RuleV)]) : TokV)).1))])] ⟨rfl, rfl, (Make_c [firstT] (([98, 111, 98], [114, 111, 111, 116], [(([97], 1) : AL.Policy.RuleV)]) : TokV) (by first | exact new_sort | exact aws1 | exact aws2) (by first | omega | decide +kernel | exact awl | exact wf_rules aww2 | exact wf_rules new_wf))⟩ ?_
 rw [show (makeT [firstT] (([98, 111, 98], [114, 111, 111, 116], [(([97], 1) : AL.Policy.RuleV)]) : TokV)).1 = awA from congrArg Prod.fst awm1]
 rw [show (makeT [firstT] (([98, 111, 98], [114, 111, 111, 116], [(([97], 1) : AL.Policy.RuleV)]) : TokV)).2 = 0 from congrArg Prod.snd awm1]
 refine gS [(2, CE.call [] [] (AV.tup [TV.agg [.s (slT ((makeT awA (([101, 118, 101], [98, 111, 98], []) : TokV)).1))], tc (i6 ((makeT awA (([101, 118, 101], [98, 111, 98], []) : TokV)).2))]) [])] [Spec Tryz.prog 20 [TV.agg [.s (slT awA)], TV.agg [.s (st [101, 118, 101]), .s (st [98, 111, 98]), .s (SC.nilsl)]] (ofH []) (AV.tup [TV.agg [.s (slT ((makeT awA (([101, 118, 101], [98, 111, 98], []) : TokV)).1))], tc (i6 ((makeT awA (([101, 118, 101], [98, 111, 98], []) : TokV)).2))]) (ofH [])] 135 [(1, vp 1 0), (3, vc (i6 0)), (4, vp 4 0), (5, vc (i6 ((makeT awA (([101, 118, 101], [98, 111, 98], []) : TokV)).2)))] [(1, AObj.row [.s (slT [firstT])]), (4, AObj.row [.s (slT ((makeT awA (([101, 118, 101], [98, 111, 98], []) : TokV)).1))])] (Spec.weak (args' := [TV.agg [.s (slT awA)], TV.agg [.s (st [101, 118, 101]), .s (st [98, 111, 98]), .s (AL.Policy.slP [])]]) ⟨TV.le_rfl, (TV.le_agg (l := [.s (st [101, 118, 101]), .s (st [98, 111, 98]), .s (SC.nilsl)]) (m := [.s (st ((([101, 118, 101], [98, 111, 98], []) : TokV).1)), .s (st ((([101, 118, 101], [98, 111, 98], []) : TokV).2.1)), .s (AL.Policy.slP ((([101, 118, 101], [98, 111, 98], []) : TokV).2.2))]) ⟨AC.le_rfl, AC.le_rfl, AC.le_nil, trivial⟩), trivial⟩ (Make_c awA (([101, 118, 101], [98, 111, 98], []) : TokV) (by first | exact new_sort | exact aws1 | exact aws2) (by first | omega | decide +kernel | exact awl | exact wf_rules aww2 | exact wf_rules new_wf))) ?_
 rw [show (makeT awA (([101, 118, 101], [98, 111, 98], []) : TokV)).1 = awB from congrArg Prod.fst awm2]
 rw [show (makeT awA (([101, 118, 101], [98, 111, 98], []) : TokV)).2 = 0 from congrArg Prod.snd awm2]
 refine gS [(2, CE.shr (some (AObj.grow 80 2 AL.Policy.RuleV ([], 0) AL.Policy.rowP [(([], 1) : AL.Policy.RuleV)]))), (4, CE.call [] [] (AV.tup [TV.agg [.s (slT ((makeT awB (([109, 97, 120], [98, 111, 98], [(([], 1) : AL.Policy.RuleV)]) : TokV)).1))], tc (i6 ((makeT awB (([109, 97, 120], [98, 111, 98], [(([], 1) : AL.Policy.RuleV)]) : TokV)).2))]) [])] [flat 2 AL.Policy.rowP [(([], 1) : AL.Policy.RuleV)] = [.s (st []), .s (u8 1)], List.length ([(([], 1) : AL.Policy.RuleV)] : List AL.Policy.RuleV) = 1, Spec Tryz.prog 20 [TV.agg [.s (slT awB)], TV.agg [.s (st [109, 97, 120]), .s (st [98, 111, 98]), .s (AL.Policy.slP [(([], 1) : AL.Policy.RuleV)])]] (ofH []) (AV.tup [TV.agg [.s (slT ((makeT awB (([109, 97, 120], [98, 111, 98], [(([], 1) : AL.Policy.RuleV)]) : TokV)).1))], tc (i6 ((makeT awB (([109, 97, 120], [98, 111, 98], [(([], 1) : AL.Policy.RuleV)]) : TokV)).2))]) (ofH [])] 135 [(1, vp 1 0), (3, vc (i6 0)), (4, vp 4 0), (5, vc (i6 0)), (7, vc (i6 ((makeT awB (([109, 97, 120], [98, 111, 98], [(([], 1) : AL.Policy.RuleV)]) : TokV)).2)))] [(1, AObj.row [.s (slT [firstT])]), (4, AObj.row [.s (slT awB)])] ⟨rfl, rfl, (Make_c awB (([109, 97, 120], [98, 111, 98], [(([], 1) : AL.Policy.RuleV)]) : TokV) (by first | exact new_sort | exact aws1 | exact aws2) (by first | omega | decide +kernel | exact awl | exact wf_rules aww2 | exact wf_rules new_wf))⟩ ?_
 rw [show (makeT awB (([109, 97, 120], [98, 111, 98], [(([], 1) : AL.Policy.RuleV)]) : TokV)).2 = 13 from awm3]
 refine gS [(1, CE.call [] [] (AV.tup [TV.agg [.s (slT ((revokeT awB [98, 111, 98]).1))], tc (AL.Fnv.slS ((revokeT awB [98, 111, 98]).2.1)), tc (i6 ((revokeT awB [98, 111, 98]).2.2))]) [])] [Spec Tryz.prog 16 [TV.agg [.s (slT awB)], tc (st [98, 111, 98])] (ofH []) (AV.tup [TV.agg [.s (slT ((revokeT awB [98, 111, 98]).1))], tc (AL.Fnv.slS ((revokeT awB [98, 111, 98]).2.1)), tc (i6 ((revokeT awB [98, 111, 98]).2.2))]) (ofH [])] 135 [(1, vp 1 0), (3, vc (i6 0)), (4, vp 4 0), (5, vc (i6 0)), (7, vc (i6 13)), (8, vp 8 0), (9, vc (AL.Fnv.slS ((revokeT awB [98, 111, 98]).2.1))), (10, vc (i6 ((revokeT awB [98, 111, 98]).2.2)))] [(1, AObj.row [.s (slT [firstT])]), (4, AObj.row [.s (slT awB)]), (8, AObj.row [.s (slT ((revokeT awB [98, 111, 98]).1))])] (Revoke_c awB [98, 111, 98] (by exact aww2) (by first | exact new_sort | exact aws1 | exact aws2) (by first | omega | decide +kernel | exact awl | exact wf_rules aww2 | exact wf_rules new_wf)) ?_
 rw [show (revokeT awB [98, 111, 98]).1 = [firstT] from congrArg Prod.fst awr]
 rw [show (revokeT awB [98, 111, 98]).2.1 = [[98, 111, 98], [101, 118, 101]] from congrArg (fun z => z.2.1) awr]
 rw [show (revokeT awB [98, 111, 98]).2.2 = 0 from congrArg (fun z => z.2.2) awr]
 refine gS [(1, CE.call [] [] (AV.tup [TV.agg [.s (st (((findR [firstT] [98, 111, 98]).1).1)), .s (st (((findR [firstT] [98, 111, 98]).1).2.1)), .s (AL.Policy.slP (((findR [firstT] [98, 111, 98]).1).2.2))], tc (bo ((findR [firstT] [98, 111, 98]).2))]) [])] [Spec Tryz.prog 27 [TV.agg [.s (slT [firstT])], tc (st [98, 111, 98])] (ofH []) (AV.tup [TV.agg [.s (st (((findR [firstT] [98, 111, 98]).1).1)), .s (st (((findR [firstT] [98, 111, 98]).1).2.1)), .s (AL.Policy.slP (((findR [firstT] [98, 111, 98]).1).2.2))], tc (bo ((findR [firstT] [98, 111, 98]).2))]) (ofH [])] 135 [(1, vp 1 0), (3, vc (i6 0)), (4, vp 4 0), (5, vc (i6 0)), (7, vc (i6 13)), (8, vp 8 0), (9, vc (AL.Fnv.slS [[98, 111, 98], [101, 118, 101]])), (10, vc (i6 0)), (12, vc (bo ((findR [firstT] [98, 111, 98]).2)))] [(1, AObj.row [.s (slT [firstT])]), (4, AObj.row [.s (slT awB)]), (8, AObj.row [.s (slT [firstT])])] (Find_c [firstT] [98, 111, 98] (by first | exact new_sort | exact aws1 | exact aws2) (by first | omega | decide +kernel | exact awl | exact wf_rules aww2 | exact wf_rules new_wf) (by first | exact wf_rules aww2 | exact wf_rules new_wf)) ?_
 rw [show (findR [firstT] [98, 111, 98]).2 = false from awf1]
 refine gS [(1, CE.call [] [] (AV.tup [TV.agg [.s (st (((findR awB [98, 111, 98]).1).1)), .s (st (((findR awB [98, 111, 98]).1).2.1)), .s (AL.Policy.slP (((findR awB [98, 111, 98]).1).2.2))], tc (bo ((findR awB [98, 111, 98]).2))]) [])] [Spec Tryz.prog 27 [TV.agg [.s (slT awB)], tc (st [98, 111, 98])] (ofH []) (AV.tup [TV.agg [.s (st (((findR awB [98, 111, 98]).1).1)), .s (st (((findR awB [98, 111, 98]).1).2.1)), .s (AL.Policy.slP (((findR awB [98, 111, 98]).1).2.2))], tc (bo ((findR awB [98, 111, 98]).2))]) (ofH [])] 135 [(1, vp 1 0), (3, vc (i6 0)), (4, vp 4 0), (5, vc (i6 0)), (7, vc (i6 13)), (8, vp 8 0), (9, vc (AL.Fnv.slS [[98, 111, 98], [101, 118, 101]])), (10, vc (i6 0)), (12, vc (bo false)), (13, vp 13 0), (14, vc (bo ((findR awB [98, 111, 98]).2)))] [(1, AObj.row [.s (slT [firstT])]), (4, AObj.row [.s (slT awB)]), (8, AObj.row [.s (slT [firstT])]), (13, AObj.row [.s (st (((findR awB [98, 111, 98]).1).1)), .s (st (((findR awB [98, 111, 98]).1).2.1)), .s (AL.Policy.slP (((findR awB [98, 111, 98]).1).2.2))])] (Find_c awB [98, 111, 98] (by first | exact new_sort | exact aws1 | exact aws2) (by first | omega | decide +kernel | exact awl | exact wf_rules aww2 | exact wf_rules new_wf) (by first | exact wf_rules aww2 | exact wf_rules new_wf)) ?_
 rw [show (findR awB [98, 111, 98]).1 = bobT from congrArg Prod.fst awf2]
 rw [show (findR awB [98, 111, 98]).2 = true from congrArg Prod.snd awf2]
 refine gS [(1, CE.call [] [] (AV.tup [tc (st ((textT bobT).1)), tc (i6 ((textT bobT).2))]) [])] [Spec Tryz.prog 30 [TV.agg [.s (st bobT.1), .s (st bobT.2.1), .s (AL.Policy.slP bobT.2.2)]] (ofH []) (AV.tup [tc (st ((textT bobT).1)), tc (i6 ((textT bobT).2))]) (ofH [])] 135 [(1, vp 1 0), (3, vc (i6 0)), (4, vp 4 0), (5, vc (i6 0)), (7, vc (i6 13)), (8, vp 8 0), (9, vc (AL.Fnv.slS [[98, 111, 98], [101, 118, 101]])), (10, vc (i6 0)), (12, vc (bo false)), (14, vc (bo true)), (15, vc (st ((textT bobT).1))), (16, vc (i6 ((textT bobT).2)))] [(1, AObj.row [.s (slT [firstT])]), (4, AObj.row [.s (slT awB)]), (8, AObj.row [.s (slT [firstT])])] (Text_c bobT) ?_
 rw [show (textT bobT).2 = 0 from awt]
 refine gS [(1, CE.call [] [] (AV.tup [TV.agg [.s (st (((parseT [98, 111, 98] ((textT bobT).1)).1).1)), .s (st (((parseT [98, 111, 98] ((textT bobT).1)).1).2.1)), .s (AL.Policy.slP (((parseT [98, 111, 98] ((textT bobT).1)).1).2.2))], tc (i6 ((parseT [98, 111, 98] ((textT bobT).1)).2))]) [])] [Spec Tryz.prog 32 [tc (st [98, 111, 98]), tc (st ((textT bobT).1))] (ofH []) (AV.tup [TV.agg [.s (st (((parseT [98, 111, 98] ((textT bobT).1)).1).1)), .s (st (((parseT [98, 111, 98] ((textT bobT).1)).1).2.1)), .s (AL.Policy.slP (((parseT [98, 111, 98] ((textT bobT).1)).1).2.2))], tc (i6 ((parseT [98, 111, 98] ((textT bobT).1)).2))]) (ofH [])] 135 [(1, vp 1 0), (3, vc (i6 0)), (4, vp 4 0), (5, vc (i6 0)), (7, vc (i6 13)), (8, vp 8 0), (9, vc (AL.Fnv.slS [[98, 111, 98], [101, 118, 101]])), (10, vc (i6 0)), (12, vc (bo false)), (14, vc (bo true)), (16, vc (i6 0)), (17, vp 17 0), (18, vc (i6 ((parseT [98, 111, 98] ((textT bobT).1)).2)))] [(1, AObj.row [.s (slT [firstT])]), (4, AObj.row [.s (slT awB)]), (8, AObj.row [.s (slT [firstT])]), (17, AObj.row [.s (st (((parseT [98, 111, 98] ((textT bobT).1)).1).1)), .s (st (((parseT [98, 111, 98] ((textT bobT).1)).1).2.1)), .s (AL.Policy.slP (((parseT [98, 111, 98] ((textT bobT).1)).1).2.2))])] (Parse_c [98, 111, 98] ((textT bobT).1) (by first | omega | decide +kernel | exact awl | exact wf_rules aww2 | exact wf_rules new_wf)) ?_
 rw [show (parseT [98, 111, 98] ((textT bobT).1)).1 = bobT from congrArg Prod.fst awp]
 rw [show (parseT [98, 111, 98] ((textT bobT).1)).2 = 0 from congrArg Prod.snd awp]
 refine gS [(28, CE.call [] [] (vc (bo (decide ([firstT] = [firstT])))) []), (52, CE.call [] [] (vc (u8 (capsR awB [98, 111, 98] [97, 47, 120]))) []), (57, CE.call [] [] (vc (u8 (capsR awB [109, 97, 120] [97]))) []), (64, CE.call [] [] (vc (i6 (checkT (([], [], []) : TokV)))) [])] [(true = true) → allP [true = true], true = true → allP [true = true], (true = true) → allP [true = true], true = true → allP [true = true], (true = true) → allP [true = true], true = true → allP [true = true], (true = true) → allP [true = true], (true = true) → allP [true = true], true = true → allP [true = true], (true = true) → allP [true = true, (0 : Int) ≤ 0, (0 : Int) < List.length ([[98, 111, 98], [101, 118, 101]] : List Bytes)], (true = true) → allP [true = true], (true = true) → allP [true = true], true = true → allP [true = true], (true = true) → allP [true = true, true = true, Spec Tryz.prog 19 [TV.agg [.s (slT [firstT])], TV.agg [.s (slT [firstT])]] (ofH []) (vc (bo (decide ([firstT] = [firstT])))) (ofH [])], true = true → allP [true = true], (true = true) → allP [true = true], true = true → allP [true = true], true = true → allP [true = true], (true = true) → allP [true = true], true = true → allP [true = true], (true = true) → allP [true = true], true = true → allP [true = true], (true = true) → allP [true = true], (true = true) → allP [true = true], true = true → allP [true = true], (true = true) → allP [true = true, Spec Tryz.prog 23 [TV.agg [.s (slT awB)], tc (st [98, 111, 98]), tc (st [97, 47, 120])] (ofH []) (vc (u8 (capsR awB [98, 111, 98] [97, 47, 120]))) (ofH [])], (true = true) → allP [true = true], true = true → allP [true = true], (true = true) → allP [true = true, Spec Tryz.prog 23 [TV.agg [.s (slT awB)], tc (st [109, 97, 120]), tc (st [97])] (ofH []) (vc (u8 (capsR awB [109, 97, 120] [97]))) (ofH [])], (true = true) → allP [true = true], true = true → allP [true = true], (true = true) → allP [true = true, Spec Tryz.prog 13 [TV.agg [.s (st []), .s (st []), .s (SC.nilsl)]] (ofH []) (vc (i6 (checkT (([], [], []) : TokV)))) (ofH [])], (true = true) → allP [true = true], true = true → allP [true = true]] 135 [(0, vc (bo true))] [] ⟨(fun hp => hp), (fun hp2 => (by first | exact hp2 | exact ⟨hp, hp2⟩)), (fun hp => hp), (fun hp2 => (by first | exact hp2 | exact ⟨hp, hp2⟩)), (fun hp => hp), (fun hp2 => (by first | exact hp2 | exact ⟨hp, hp2⟩)), (fun hp => hp), (fun hp => hp), (fun hp2 => (by first | exact hp2 | exact ⟨hp, hp2⟩)), (fun hp => by have hq := hp; (try simp only [xT, xF, xA, xO, xB, xP, xN, xM, Bool.not_eq_true, Bool.not_eq_false] at hq); exact ⟨hp, (by first | omega | decide +kernel | exact awl | exact wf_rules aww2 | exact wf_rules new_wf), (show (0 : Int) < List.length ([[98, 111, 98], [101, 118, 101]] : List Bytes) from (by first | omega | decide +kernel | exact awl | exact wf_rules aww2 | exact wf_rules new_wf))⟩), (fun hp => hp), (fun hp => hp), (fun hp2 => (by first | exact hp2 | exact ⟨hp, hp2⟩)), (fun hp => by have hq := hp; (try simp only [xT, xF, xA, xO, xB, xP, xN, xM, Bool.not_eq_true, Bool.not_eq_false] at hq); exact ⟨hp, hp, (Same_c [firstT] [firstT])⟩), (fun hp2 => (by first | exact hp2 | exact ⟨hp, hp2⟩)), (fun hp => hp), (fun hp2 => (by first | exact hp2 | exact ⟨hp, hp2⟩)), (fun hp2 => (by first | exact hp2 | exact ⟨hp, hp2⟩)), (fun hp => hp), (fun hp2 => (by first | exact hp2 | exact ⟨hp, hp2⟩)), (fun hp => hp), (fun hp2 => (by first | exact hp2 | exact ⟨hp, hp2⟩)), (fun hp => hp), (fun hp => hp), (fun hp2 => (by first | exact hp2 | exact ⟨hp, hp2⟩)), (fun hp => by have hq := hp; (try simp only [xT, xF, xA, xO, xB, xP, xN, xM, Bool.not_eq_true, Bool.not_eq_false] at hq); exact ⟨hp, (Caps_c awB [98, 111, 98] [97, 47, 120] (by first | exact new_sort | exact aws1 | exact aws2) (by first | omega | decide +kernel | exact awl | exact wf_rules aww2 | exact wf_rules new_wf) (by first | exact wf_rules aww2 | exact wf_rules new_wf))⟩), (fun hp => hp), (fun hp2 => (by first | exact hp2 | exact ⟨hp, hp2⟩)), (fun hp => by have hq := hp; (try simp only [xT, xF, xA, xO, xB, xP, xN, xM, Bool.not_eq_true, Bool.not_eq_false] at hq); exact ⟨hp, (Caps_c awB [109, 97, 120] [97] (by first | exact new_sort | exact aws1 | exact aws2) (by first | omega | decide +kernel | exact awl | exact wf_rules aww2 | exact wf_rules new_wf) (by first | exact wf_rules aww2 | exact wf_rules new_wf))⟩), (fun hp => hp), (fun hp2 => (by first | exact hp2 | exact ⟨hp, hp2⟩)), (fun hp => by have hq := hp; (try simp only [xT, xF, xA, xO, xB, xP, xN, xM, Bool.not_eq_true, Bool.not_eq_false] at hq); exact ⟨hp, (Spec.weak (args' := [TV.agg [.s (st []), .s (st []), .s (AL.Policy.slP [])]]) ⟨(TV.le_agg (l := [.s (st []), .s (st []), .s (SC.nilsl)]) (m := [.s (st ((([], [], []) : TokV).1)), .s (st ((([], [], []) : TokV).2.1)), .s (AL.Policy.slP ((([], [], []) : TokV).2.2))]) ⟨AC.le_rfl, AC.le_rfl, AC.le_nil, trivial⟩), trivial⟩ (Check_c (([], [], []) : TokV)))⟩), (fun hp => hp), (fun hp2 => (by first | exact hp2 | exact ⟨hp, hp2⟩))⟩ ?_
 exact gT (vc (bo true)) rfl
end AL.Token
namespace AL.Token
open Go Go.Proofs AL
open AL.Policy (RuleV rowP slP checkP coversS capsP)
set_option linter.unusedVariables false
set_option linter.unusedSimpArgs false
theorem f25_body : Tryz.f25.body = some (.seq (.region 0 (rg Tryz.f25 0) false) (.seq (.region 1 (rg Tryz.f25 1) false) (.seq (.seq (.region 2 (rg Tryz.f25 2) false) (.block 0 (.loop (.seq (.seq (.region 3 (rg Tryz.f25 3) false) (.cond (.tmp 9) (.skip) (.exit 0))) (.seq (.block 1 (.seq (.region 5 (rg Tryz.f25 5) false) (.cond (.tmp 16) (.region 6 (rg Tryz.f25 6) true) (.region 7 (rg Tryz.f25 7) true)))) (.region 4 (rg Tryz.f25 4) false)))))) (.seq (.region 8 (rg Tryz.f25 8) false) (.ret))))) := by kernel_rfl
set_option maxRecDepth 100000 in
set_option maxHeartbeats 8000000 in
theorem made_c (l : List OpT) (hov : ¬ 0 < overT (tokensO l)) : Pure Tryz.prog 25 [tc (slO l)] (AV.t (TV.agg [.s (slT (madeT l))])) := by
 refine Pure.of_body Tryz.func25 f25_body (by kernel_rfl) Tryz.ntmps25 (by kernel_rfl) (by kernel_rfl) ?_
 refine gS [] [] 41 [(0, vc (slO l)), (2, vp 2 0)] [(2, AObj.row [.s (SC.nilsl)])] trivial ?_
 refine gS [(0, CE.call [] [] (AV.t (TV.agg [.s (slT [firstT])])) [])] [Spec Tryz.prog 11 [] (ofH []) (AV.t (TV.agg [.s (slT [firstT])])) (ofH [])] 41 [(0, vc (slO l)), (2, vp 2 0), (3, vp 3 0)] [(2, AObj.row [.s (SC.nilsl)]), (3, AObj.row [.s (slT [firstT])])] (New_c) ?_
 refine gQ ?_
 refine gS [] [] 41 [(0, vc (slO l)), (2, vp 2 0), (3, vp 3 0), (4, vc (i6 0))] [(2, AObj.row [.s (SC.nilsl)]), (3, AObj.row [.s (slT [firstT])])] trivial ?_
 refine AMx.block ?_
 refine AMx.ent (s' := AS.lst 41 [(0, vc (slO l)), (2, vp 2 0), (3, vp 3 0), (4, vc (i6 0))] [(2, AObj.row [.s (SC.nilsl)]), (3, AObj.row [.s (slT [firstT])])]) (ent_proj [0, 2, 3, 4] [2, 3]) ?_
 refine AMx.loop (fun mm ss => ∃ (k : Nat), (k ≤ l.length) ∧ mm = l.length - k ∧ ss = AS.lst 41 [(0, vc (slO l)), (2, vp 2 0), (3, vp 3 0), (4, vc (i6 (k : Int)))] [(2, AObj.row [.s (SC.nilsl)]), (3, AObj.row [.s (slT (madeT (List.take k l)))])]) ⟨0, ?_, rfl, ?_⟩ ?_
 · omega
 · rfl
 rintro mm ss ⟨k, hI, rfl, rfl⟩
 have hQ := over_tok hov
 have hG := made_good l k hI
 have hF := hG.few
 have hX := fun h : k < l.length => hQ.2 _ (Lib.getD_mem opd l k h)
 refine gQ ?_
 refine gS [] [] 41 [(0, vc (slO l)), (2, vp 2 0), (3, vp 3 0), (4, vc (i6 (k : Int))), (9, vc (bo (decide ((k : Int) < (List.length l : Int)))))] [(2, AObj.row [.s (SC.nilsl)]), (3, AObj.row [.s (slT (madeT (List.take k l)))])] trivial ?_
 refine gC ((k : Int) < (List.length l : Int)) (fun hc1 => ?_) fun hc1 => ?_
 ·
  refine AMx.skip ?_
  refine gQ ?_
  refine AMx.block ?_
  refine gS [] [(0 : Int) ≤ (k : Int), (k : Int) < List.length l] 41 [(0, vc (slO l)), (2, vp 2 0), (3, vp 3 0), (4, vc (i6 (k : Int))), (16, vc (bo ((List.getD l k opd).1)))] [(2, AObj.row [.s (SC.nilsl)]), (3, AObj.row [.s (slT (madeT (List.take k l)))])] ⟨(by first | omega | (have z := hX (by omega); omega)), (show (k : Int) < List.length l from (by first | omega | (have z := hX (by omega); omega)))⟩ ?_
  refine gB ((List.getD l k opd).1) (fun hc2 => ?_) fun hc2 => ?_
  ·
   try simp only [xT, xF] at hc2
   refine gX [(7, CE.call [] [] (AV.tup [TV.agg [.s (slT ((revokeT (madeT (List.take k l)) (((List.getD l k opd).2).1)).1))], tc (AL.Fnv.slS ((revokeT (madeT (List.take k l)) (((List.getD l k opd).2).1)).2.1)), tc (i6 ((revokeT (madeT (List.take k l)) (((List.getD l k opd).2).1)).2.2))]) [])] [(0, [3]), (12, [3])] [(0 : Int) ≤ (k : Int), (k : Int) < List.length l, Spec Tryz.prog 16 [TV.agg [.s (slT (madeT (List.take k l)))], tc (st (((List.getD l k opd).2).1))] (ofH []) (AV.tup [TV.agg [.s (slT ((revokeT (madeT (List.take k l)) (((List.getD l k opd).2).1)).1))], tc (AL.Fnv.slS ((revokeT (madeT (List.take k l)) (((List.getD l k opd).2).1)).2.1)), tc (i6 ((revokeT (madeT (List.take k l)) (((List.getD l k opd).2).1)).2.2))]) (ofH [])] 41 [(0, vc (slO l)), (2, vp 2 0), (3, vp 3 0), (4, vc (i6 (k : Int)))] [(2, AObj.row [.s (SC.nilsl)]), (3, AObj.row [.s (slT ((revokeT (madeT (List.take k l)) (((List.getD l k opd).2).1)).1))])] mixed ⟨(by first | omega | (have z := hX (by omega); omega)), (by first | omega | (have z := hX (by omega); omega)), (Revoke_c (madeT (List.take k l)) (((List.getD l k opd).2).1) (by exact hG.wf) (by exact hG.rise) (by first | omega | (have z := hX (by omega); omega)))⟩ ?_
   refine AMx.blk ?_
   refine gR [] [InR .i64 ((k : Int) + 1)] 41 [(0, vc (slO l)), (2, vp 2 0), (3, vp 3 0), (4, vc (i6 ((k : Int) + 1)))] [(2, AObj.row [.s (SC.nilsl)]), (3, AObj.row [.s (slT ((revokeT (madeT (List.take k l)) (((List.getD l k opd).2).1)).1))])] (show InR .i64 ((k : Int) + 1) from (inR64 (by first | omega | (have z := hX (by omega); omega)) (by first | omega | (have z := hX (by omega); omega)))) ?_
   refine AMx.ent_inv (s' := AS.lst 41 [(0, vc (slO l)), (2, vp 2 0), (3, vp 3 0), (4, vc (i6 ((k : Int) + 1)))] [(2, AObj.row [.s (SC.nilsl)]), (3, AObj.row [.s (slT ((revokeT (madeT (List.take k l)) (((List.getD l k opd).2).1)).1))])]) (ent_proj [0, 2, 3, 4] [2, 3]) ?_
   refine AMx.inv ⟨_, ?_, k + 1, ?_, rfl, ?_⟩
   rotate_left
   · omega
   · rw [made_y (by omega) hc2]; rfl
   · omega
  ·
   try simp only [xT, xF] at hc2
   refine gX [(6, CE.call [] [] (AV.t (TV.agg [.s (st (((List.getD l k opd).2).1)), .s (st (((List.getD l k opd).2).2.1)), .s (AL.Policy.slP (((List.getD l k opd).2).2.2))])) []), (7, CE.call [] [] (AV.tup [TV.agg [.s (slT ((makeT (madeT (List.take k l)) ((List.getD l k opd).2)).1))], tc (i6 ((makeT (madeT (List.take k l)) ((List.getD l k opd).2)).2))]) [])] [(0, [3]), (11, [3])] [(0 : Int) ≤ (k : Int), (k : Int) < List.length l, Spec Tryz.prog 14 [TV.agg [.s (st (((List.getD l k opd).2).1)), .s (st (((List.getD l k opd).2).2.1)), .s (AL.Policy.slP (((List.getD l k opd).2).2.2))]] (ofH []) (AV.t (TV.agg [.s (st (((List.getD l k opd).2).1)), .s (st (((List.getD l k opd).2).2.1)), .s (AL.Policy.slP (((List.getD l k opd).2).2.2))])) (ofH []), Spec Tryz.prog 20 [TV.agg [.s (slT (madeT (List.take k l)))], TV.agg [.s (st (((List.getD l k opd).2).1)), .s (st (((List.getD l k opd).2).2.1)), .s (AL.Policy.slP (((List.getD l k opd).2).2.2))]] (ofH []) (AV.tup [TV.agg [.s (slT ((makeT (madeT (List.take k l)) ((List.getD l k opd).2)).1))], tc (i6 ((makeT (madeT (List.take k l)) ((List.getD l k opd).2)).2))]) (ofH [])] 41 [(0, vc (slO l)), (2, vp 2 0), (3, vp 3 0), (4, vc (i6 (k : Int)))] [(2, AObj.row [.s (SC.nilsl)]), (3, AObj.row [.s (slT ((makeT (madeT (List.take k l)) ((List.getD l k opd).2)).1))])] mixed ⟨(by first | omega | (have z := hX (by omega); omega)), (by first | omega | (have z := hX (by omega); omega)), (Own_c ((List.getD l k opd).2) (by first | omega | (have z := hX (by omega); omega))), (Make_c (madeT (List.take k l)) ((List.getD l k opd).2) (by exact hG.rise) (by first | omega | (have z := hX (by omega); omega)))⟩ ?_
   refine AMx.blk ?_
   refine gR [] [InR .i64 ((k : Int) + 1)] 41 [(0, vc (slO l)), (2, vp 2 0), (3, vp 3 0), (4, vc (i6 ((k : Int) + 1)))] [(2, AObj.row [.s (SC.nilsl)]), (3, AObj.row [.s (slT ((makeT (madeT (List.take k l)) ((List.getD l k opd).2)).1))])] (show InR .i64 ((k : Int) + 1) from (inR64 (by first | omega | (have z := hX (by omega); omega)) (by first | omega | (have z := hX (by omega); omega)))) ?_
   refine AMx.ent_inv (s' := AS.lst 41 [(0, vc (slO l)), (2, vp 2 0), (3, vp 3 0), (4, vc (i6 ((k : Int) + 1)))] [(2, AObj.row [.s (SC.nilsl)]), (3, AObj.row [.s (slT ((makeT (madeT (List.take k l)) ((List.getD l k opd).2)).1))])]) (ent_proj [0, 2, 3, 4] [2, 3]) ?_
   refine AMx.inv ⟨_, ?_, k + 1, ?_, rfl, ?_⟩
   rotate_left
   · omega
   · rw [made_n (by omega) hc2]; rfl
   · omega
 ·
  refine AMx.exit ?_
  refine AMx.code_exit ?_
  refine AMx.inv_exit ?_
  refine AMx.blk_exit ?_
  rw [show List.take k l = l from List.take_of_length_le (by omega)]
  refine gS [] [] 41 [(2, vp 2 0)] [(2, AObj.row [.s (slT (madeT l))])] trivial ?_
  exact gT (AV.t (TV.agg [.s (slT (madeT l))])) rfl
end AL.Token
namespace AL.Token
open Go AL
open AL.Policy (RuleV rowP slP checkP coversS capsP textP parseP hasB)
set_option linter.unusedVariables false
set_option linter.unusedSimpArgs false
theorem sort_nodup {l : List TokV} (h : SortT l) : (namesT l).Nodup := by
  unfold namesT List.Nodup
  refine List.pairwise_map.2 (h.imp fun {a b} hab e => ?_)
  rw [e] at hab
  exact List.lt_irrefl _ hab
theorem sort_eq : ∀ {a b : List TokV}, SortT a → SortT b → (∀ x, x ∈ a ↔ x ∈ b) → a = b
  | [], [], _, _, _ => rfl
  | [], y :: b, _, _, h => by have := (h y).2 (List.mem_cons_self ..); cases this
  | x :: a, [], _, _, h => by have := (h x).1 (List.mem_cons_self ..); cases this
  | x :: a, y :: b, ha, hb, h => by
    obtain ⟨a1, a2⟩ := List.pairwise_cons.1 ha
    obtain ⟨b1, b2⟩ := List.pairwise_cons.1 hb
    have e : x = y := by
      rcases List.mem_cons.1 ((h x).1 (List.mem_cons_self ..)) with e | e
      · exact e
      · rcases List.mem_cons.1 ((h y).2 (List.mem_cons_self ..)) with e2 | e2
        · exact e2.symm
        · exact absurd (List.lt_trans (a1 y e2) (b1 x e)) (List.lt_irrefl _)
    subst e
    congr 1
    refine sort_eq a2 b2 fun z => ⟨fun hz => ?_, fun hz => ?_⟩
    · rcases List.mem_cons.1 ((h z).1 (List.mem_cons_of_mem _ hz)) with e | e
      · have := a1 z hz
        rw [e] at this
        exact absurd this (List.lt_irrefl _)
      · exact e
    · rcases List.mem_cons.1 ((h z).2 (List.mem_cons_of_mem _ hz)) with e | e
      · have := b1 z hz
        rw [e] at this
        exact absurd this (List.lt_irrefl _)
      · exact e
theorem into_perm (l : List TokV) (t : TokV) : (intoT l t).Perm (t :: l) := by
  unfold intoT
  have := List.perm_middle (a := t) (l₁ := List.take (locT l t.1) l) (l₂ := List.drop (locT l t.1) l)
  rwa [List.take_append_drop] at this
theorem pass_perm : ∀ (l s : List TokV), ((passL s l).1 ++ (passL s l).2).Perm (s ++ l)
  | [], s => .refl _
  | t :: l, s => by
    unfold passL
    split
    · rename_i s' h
      refine (pass_perm l s').trans ?_
      rw [(add_cases h).1]
      exact ((into_perm s t).append_right l).trans List.perm_middle.symm
    · exact (List.perm_middle.trans ((pass_perm l s).cons t)).trans List.perm_middle.symm
theorem pass_none : ∀ (l s : List TokV), (passL s l).2.length = l.length → ∀ t ∈ l, addL s t = none
  | [], _, _, t, ht => by cases ht
  | x :: l, s, h, t, ht => by
    unfold passL at h
    split at h
    · have := pass_len l (by assumption)
      rw [List.length_cons] at h; omega
    · rename_i ha
      rw [List.length_cons, List.length_cons] at h
      rcases List.mem_cons.1 ht with rfl | ht
      · exact ha
      · exact pass_none l s (by omega) t ht
theorem pass_root : ∀ (l s : List TokV), RootIn s → RootIn (passL s l).1
  | [], _, h => h
  | t :: l, s, h => by
    unfold passL
    split
    · rename_i s' ha
      exact pass_root l s' (add_root h ha)
    · exact pass_root l s h
theorem min_ex (d : Bytes → Nat) : ∀ l : List TokV, l ≠ [] → ∃ t ∈ l, ∀ x ∈ l, d t.1 ≤ d x.1
  | [], h => absurd rfl h
  | [t], _ => ⟨t, List.mem_singleton.2 rfl, fun x hx => by rw [List.mem_singleton.1 hx]; exact Nat.le_refl _⟩
  | t :: y :: l, _ => by
    obtain ⟨m, hm, h⟩ := min_ex d (y :: l) (by simp)
    rcases Nat.le_total (d t.1) (d m.1) with q | q
    · refine ⟨t, List.mem_cons_self .., fun x hx => ?_⟩
      rcases List.mem_cons.1 hx with rfl | hx
      · exact Nat.le_refl _
      · exact Nat.le_trans q (h x hx)
    · refine ⟨m, List.mem_cons_of_mem _ hm, fun x hx => ?_⟩
      rcases List.mem_cons.1 hx with rfl | hx
      · exact q
      · exact h x hx
theorem wf_first {S : List TokV} (hw : WF S) (hn : S ≠ []) : firstT ∈ S := by
  obtain ⟨d, hd⟩ := hw.ex
  obtain ⟨t, ht, hm⟩ := min_ex d S hn
  rcases hd t ht with rfl | ⟨_, q2, p, q3, q4, _⟩
  · exact ht
  · have := hm p q3
    rw [q4] at this
    omega
theorem pass_goes {S s left : List TokV} (hw : WF S) (hS : SortT S) (hp : (s ++ left).Perm S) (hs : SortT s) (hr : RootIn s) (hn : left ≠ []) : ¬ (passL s left).2.length = left.length := by
  intro hl
  have hno := pass_none left s hl
  obtain ⟨d, hd⟩ := hw.ex
  obtain ⟨t, ht, hm⟩ := min_ex d left hn
  have htS : t ∈ S := hp.mem_iff.1 (List.mem_append_right _ ht)
  have hsS : ∀ x ∈ s, x ∈ S := fun x hx => hp.mem_iff.1 (List.mem_append_left _ hx)
  have hnd : (namesT (s ++ left)).Nodup := (hp.map (fun x : TokV => x.1)).nodup_iff.2 (sort_nodup hS)
  have hts : ∀ x ∈ s, ¬ x.1 = t.1 := fun x hx e => by
    unfold namesT at hnd
    rw [List.map_append] at hnd
    exact (List.nodup_append.1 hnd).2.2 x.1 (List.mem_map.2 ⟨x, hx, rfl⟩) t.1 (List.mem_map.2 ⟨t, ht, rfl⟩) e
  have hadd := hno t ht
  rcases hd t htS with e | ⟨q1, q2, p, q3, q4, q5⟩
  · have hne : s ≠ [] := fun z => by
      unfold addL at hadd
      rw [if_pos ⟨e, by rw [z]; rfl⟩] at hadd
      cases hadd
    rcases hr with z | z
    · exact hne z
    · have hf := find_at z
      exact hts _ hf.2 (by rw [hf.1, e]; rfl)
  · have hps : p ∈ s := by
      rcases List.mem_append.1 (hp.mem_iff.2 q3) with z | z
      · exact z
      · have := hm p z
        rw [q4] at this
        omega
    obtain ⟨f1, f2⟩ := find_yes hs hps q4
    have hroot : ¬ t.1 = rootB := fun z => by
      have h1 := wf_first hw (List.ne_nil_of_mem htS)
      have := name_eq hS htS h1 z
      rw [this] at q1
      exact q1 rfl
    have hmk : makeT s t = (intoT s t, 0) := make_0 (hw.chk t htS) q1 (by have := find_no.2 hts; omega) f1 (by rw [f2]; exact q5)
    unfold addL at hadd
    split at hadd
    · cases hadd
    · rw [if_neg] at hadd
      · cases hadd
      · rintro (z | z)
        · rw [hmk] at z; exact z rfl
        · exact hroot z
theorem load_all {S : List TokV} (hw : WF S) (hS : SortT S) : ∀ (f : Nat) (s left : List TokV), left.length < f → (s ++ left).Perm S → SortT s → RootIn s → loadL f s left = (S, 0)
  | 0, _, _, h, _, _, _ => absurd h (Nat.not_lt_zero _)
  | f + 1, s, left, hf, hp, hs, hr => by
    unfold loadL
    split
    · rename_i h
      have e : left = [] := List.eq_nil_of_length_eq_zero h
      subst e
      rw [List.append_nil] at hp
      rw [sort_eq hs hS fun x => hp.mem_iff]
    · rename_i h
      have hg := pass_goes hw hS hp hs hr (fun e => h (by rw [e]; rfl))
      rw [if_neg hg]
      have := pass_len left s
      exact load_all hw hS f _ _ (by omega) ((pass_perm left s).trans hp) (pass_sort hs) (pass_root left s hr)
theorem load_perm {S A : List TokV} (hw : WF S) (hS : SortT S) (hp : A.Perm S) : loadT A = (S, 0) := load_all hw hS _ [] A (Nat.lt_succ_self _) (by simpa using hp) List.Pairwise.nil (.inl rfl)
def ClosT (s : List TokV) : Prop := ∀ t ∈ s, t = firstT ∨ ∃ p ∈ s, p.1 = t.2.1
theorem add_clos {s s' : List TokV} {t : TokV} (h : addL s t = some s') (hc : ClosT s) : ClosT s' := by
  obtain ⟨rfl, h2⟩ := add_cases h
  intro x hx
  rcases into_mem.1 hx with rfl | hx
  · rcases h2 with ⟨e, _⟩ | ⟨e, _⟩
    · exact .inl e
    · right
      rcases make_cases s x with ⟨_, q⟩ | ⟨_, _, _, _, q, _⟩
      · rw [e] at q; exact absurd rfl q
      · have hf := find_at q
        exact ⟨_, into_mem.2 (.inr hf.2), hf.1⟩
  · rcases hc x hx with e | ⟨p, hp, e⟩
    · exact .inl e
    · exact .inr ⟨p, into_mem.2 (.inr hp), e⟩
theorem pass_clos : ∀ (l s : List TokV), ClosT s → ClosT (passL s l).1
  | [], _, h => h
  | t :: l, s, h => by
    unfold passL
    split
    · rename_i s' ha
      exact pass_clos l s' (add_clos ha h)
    · exact pass_clos l s h
theorem loadL_clos : ∀ (f : Nat) (s left : List TokV), ClosT s → (loadL f s left).2 = 0 → ClosT (loadL f s left).1 ∧ (loadL f s left).1.Perm (s ++ left)
  | 0, _, _, _, h => absurd h (show ¬ (4 : Int) = 0 by decide)
  | f + 1, s, left, hc, h => by
    unfold loadL at h ⊢
    split
    · rename_i q
      have e : left = [] := List.eq_nil_of_length_eq_zero q
      subst e
      exact ⟨hc, by simp⟩
    · rename_i q
      rw [if_neg q] at h
      split
      · rename_i q2
        rw [if_pos q2] at h
        exact absurd h (by decide)
      · rename_i q2
        rw [if_neg q2] at h
        obtain ⟨h1, h2⟩ := loadL_clos f _ _ (pass_clos left s hc) h
        exact ⟨h1, h2.trans (pass_perm left s)⟩
theorem load_needs {A : List TokV} {t : TokV} (ht : t ∈ A) (h1 : ¬ t = firstT) (h2 : ∀ p ∈ A, ¬ p.1 = t.2.1) : ¬ (loadT A).2 = 0 := by
  intro h
  obtain ⟨hc, hp⟩ := loadL_clos (A.length + 1) [] A (fun _ h => by cases h) h
  rw [List.nil_append] at hp
  rcases hc t (hp.mem_iff.2 ht) with e | ⟨p, hpm, e⟩
  · exact h1 e
  · exact h2 p (hp.mem_iff.1 hpm) e
def fewT (A : List TokV) (i : Nat) : List TokV := List.take i A ++ List.drop (i + 1) A
theorem few_perm {A : List TokV} {i : Nat} (h : i < A.length) : A.Perm (List.getD A i tokd :: fewT A i) := by
  unfold fewT
  conv => lhs; rw [Lib.take_cons tokd A i h]
  exact List.perm_middle
theorem few_len {A : List TokV} {i : Nat} (h : i < A.length) : (fewT A i).length + 1 = A.length := by
  have := (few_perm h).length_eq
  rw [List.length_cons] at this
  exact this.symm
def needsT (A : List TokV) (n : Bytes) : Bool := A.any fun t => decide (t.2.1 = n)
theorem filter_wf {S : List TokV} (hw : WF S) {n : Bytes} (hno : ∀ t ∈ S, ¬ t.1 = n → ¬ t.2.1 = n) : WF (S.filter fun t => !decide (t.1 = n)) := by
  obtain ⟨d, hd⟩ := hw.ex
  refine ⟨fun x hx => hw.chk x (List.mem_filter.1 hx).1, d, fun x hx => ?_⟩
  obtain ⟨hx, hg⟩ := List.mem_filter.1 hx
  have hxn : ¬ x.1 = n := by simpa using hg
  rcases hd x hx with e | ⟨q1, q2, p, q3, q4, q5⟩
  · exact .inl e
  · refine .inr ⟨q1, q2, p, List.mem_filter.2 ⟨q3, ?_⟩, q4, q5⟩
    rw [q4]
    simpa using hno x hx hxn
theorem few_filter {S A : List TokV} (hS : SortT S) (hp : A.Perm S) {i : Nat} (h : i < A.length) : (fewT A i).Perm (S.filter fun t => !decide (t.1 = (List.getD A i tokd).1)) := by
  have hm : List.getD A i tokd ∈ S := hp.mem_iff.1 (Lib.getD_mem tokd A i h)
  have hq := (few_perm h).symm.trans hp
  have hf := hq.filter fun t => !decide (t.1 = (List.getD A i tokd).1)
  rw [List.filter_cons_of_neg (by simp)] at hf
  have hnd : (namesT (List.getD A i tokd :: fewT A i)).Nodup := (hq.map (fun x : TokV => x.1)).nodup_iff.2 (sort_nodup hS)
  unfold namesT at hnd
  rw [List.map_cons, List.nodup_cons] at hnd
  rwa [List.filter_eq_self.2 (fun x hx => by
    have : ¬ x.1 = (List.getD A i tokd).1 := fun e => hnd.1 (List.mem_map.2 ⟨x, hx, e⟩)
    simp only [Bool.not_eq_true', decide_eq_false_iff_not]; exact this)] at hf
theorem few_load {S A : List TokV} (hw : WF S) (hS : SortT S) (hp : A.Perm S) {i : Nat} (h : i < A.length) : decide ((loadT (fewT A i)).2 = 0) = !(needsT (fewT A i) (List.getD A i tokd).1) := by
  have hfp := few_filter hS hp h
  have hnm : ∀ x ∈ fewT A i, x ∈ S ∧ ¬ x.1 = (List.getD A i tokd).1 := fun x hx => by
    obtain ⟨h1, h2⟩ := List.mem_filter.1 (hfp.mem_iff.1 hx)
    exact ⟨h1, by simpa using h2⟩
  cases hn : needsT (fewT A i) (List.getD A i tokd).1 with
  | false =>
    have hno : ∀ t ∈ S, ¬ t.1 = (List.getD A i tokd).1 → ¬ t.2.1 = (List.getD A i tokd).1 := fun t ht h1 e => by
      have hm : t ∈ fewT A i := hfp.mem_iff.2 (List.mem_filter.2 ⟨ht, by simpa using h1⟩)
      have : needsT (fewT A i) (List.getD A i tokd).1 = true := List.any_eq_true.2 ⟨t, hm, decide_eq_true e⟩
      rw [hn] at this
      cases this
    rw [load_perm (filter_wf hw hno) (List.Pairwise.filter _ hS) hfp]; rfl
  | true =>
    obtain ⟨t, ht, e⟩ := List.any_eq_true.1 hn
    have e : t.2.1 = (List.getD A i tokd).1 := of_decide_eq_true e
    have hne : (List.getD A i tokd).1 ≠ [] := check_name (hw.chk _ (hp.mem_iff.1 (Lib.getD_mem tokd A i h)))
    have := load_needs ht (fun q => by rw [q] at e; exact hne e.symm) (fun p hpm q => (hnm p hpm).2 (q.trans e))
    rw [decide_eq_false this]; rfl
def rotT (S : List TokV) (n k : Nat) : List TokV := (List.range k).map fun i => List.getD S ((i + n) % S.length) tokd
theorem rot_succ (S : List TokV) (n k : Nat) : rotT S n k ++ [List.getD S ((k + n) % S.length) tokd] = rotT S n (k + 1) := by
  unfold rotT
  rw [List.range_succ, List.map_append]; rfl
theorem rot_len (S : List TokV) (n k : Nat) : (rotT S n k).length = k := by
  unfold rotT
  rw [List.length_map, List.length_range]
theorem rot_perm (S : List TokV) (n : Nat) : (rotT S n S.length).Perm S := by
  by_cases h0 : S = []
  · subst h0; exact .refl _
  · have hl := List.length_pos_iff.2 h0
    have hq : n % S.length < S.length := Nat.mod_lt _ hl
    have e : (List.range S.length).map (fun i => List.getD S ((i + n) % S.length) tokd) = List.drop (n % S.length) S ++ List.take (n % S.length) S := by
      refine List.ext_getElem (by rw [List.length_map, List.length_range, List.length_append, List.length_drop, List.length_take]; omega) fun i h1 h2 => ?_
      rw [List.length_map, List.length_range] at h1
      rw [List.getElem_map, List.getElem_range]
      have hm : (i + n) % S.length = if i < S.length - n % S.length then n % S.length + i else i - (S.length - n % S.length) := by
        have e1 : (i + n) % S.length = (i + n % S.length) % S.length := by rw [Nat.add_mod, Nat.add_mod i (n % S.length), Nat.mod_mod]
        rw [e1]
        split
        · rw [Nat.mod_eq_of_lt (by omega)]; omega
        · rw [Nat.mod_eq_sub_mod (by omega), Nat.mod_eq_of_lt (by omega)]; omega
      have hlt : (i + n) % S.length < S.length := Nat.mod_lt _ hl
      rw [Lib.getD_lt _ _ _ hlt]
      by_cases q : i < S.length - n % S.length
      · rw [if_pos q] at hm
        rw [List.getElem_append_left (by rw [List.length_drop]; omega), List.getElem_drop]
        congr 1
      · rw [if_neg q] at hm
        rw [List.getElem_append_right (by rw [List.length_drop]; omega), List.getElem_take]
        congr 1
        rw [hm, List.length_drop]
    show ((List.range S.length).map (fun i => List.getD S ((i + n) % S.length) tokd)).Perm S
    rw [e]
    have := (List.perm_append_comm (l₁ := List.drop (n % S.length) S) (l₂ := List.take (n % S.length) S))
    rwa [List.take_append_drop] at this
theorem tmod_rot (S : List TokV) (i n : Nat) (h : 0 < S.length) : Int.tmod ((i : Int) + (n : Int)) (List.length (namesT S) : Int) = (((i + n) % S.length : Nat) : Int) ∧ (i + n) % S.length < S.length := by
  refine ⟨?_, Nat.mod_lt _ h⟩
  rw [names_len, Int.tmod_eq_emod_of_nonneg (by omega)]
  rfl
theorem make_caps {s : List TokV} {t : TokV} (hs : ∀ x ∈ s, ∀ y ∈ x.2.2, 0 ≤ y.2) (ht : ∀ y ∈ t.2.2, 0 ≤ y.2) : ∀ x ∈ (makeT s t).1, ∀ y ∈ x.2.2, 0 ≤ y.2 := by
  intro x hx
  rcases make_cases s t with ⟨h, _⟩ | ⟨h, _⟩
  · rw [h] at hx; exact hs x hx
  · rw [h] at hx
    rcases into_mem.1 hx with rfl | hx
    · exact ht
    · exact hs x hx
theorem made_caps {l : List OpT} (h : ∀ o ∈ l, ∀ y ∈ o.2.2.2, 0 ≤ y.2) : ∀ x ∈ madeT l, ∀ y ∈ x.2.2, 0 ≤ y.2 := by
  have key : ∀ (m : List OpT) (s : List TokV), (∀ o ∈ m, ∀ y ∈ o.2.2.2, 0 ≤ y.2) → (∀ x ∈ s, ∀ y ∈ x.2.2, 0 ≤ y.2) → ∀ x ∈ m.foldl doT s, ∀ y ∈ x.2.2, 0 ≤ y.2 := by
    intro m
    induction m with
    | nil => intro s _ hs; exact hs
    | cons o m ih =>
      intro s hm hs
      refine ih _ (fun o' ho' => hm o' (List.mem_cons_of_mem _ ho')) ?_
      unfold doT
      split
      · intro x hx
        unfold revokeT at hx
        split at hx
        · exact hs x hx
        · exact hs x (List.mem_filter.1 hx).1
      · exact make_caps hs (hm o (List.mem_cons_self ..))
  exact key l [firstT] h fun x hx y hy => by
    rw [List.mem_singleton.1 hx] at hy
    have : y = ([], 63) := List.mem_singleton.1 hy
    rw [this]
    decide
theorem text_parse {s : List TokV} (hw : WF s) (hc : ∀ x ∈ s, ∀ y ∈ x.2.2, 0 ≤ y.2) {t : TokV} (ht : t ∈ s) : (textT t).2 = 0 ∧ parseT t.1 (textT t).1 = (t, 0) := by
  refine ⟨?_, parse_text (hw.chk t ht) (hc t ht)⟩
  unfold textT
  rw [if_neg (by have := hw.chk t ht; omega)]
theorem text_le {t : TokV} : (textT t).1.length ≤ 2000 := by
  unfold textT
  split
  · exact Nat.zero_le _
  · rename_i h
    exact two_len (Decidable.not_not.1 h)
theorem need_step {A : List TokV} {n : Bytes} {k : Nat} (h : k < A.length) : (needsT (List.take k A) n || decide ((List.getD A k tokd).2.1 = n)) = needsT (List.take (k + 1) A) n := by
  unfold needsT
  rw [Lib.take_succ tokd A k h, List.any_append]; simp
end AL.Token
namespace AL
open Go
set_option linter.unusedVariables false
theorem MS.slslint {I : Nat → Prop} {w : World} {v : Value} {k k2 i j : Nat} {α β : Type} {d : α} {d2 : β} {row : α → Nat → SC} {row2 : β → Nat → SC} {l : List α} {g : α → List β} {ik : IntKind} {f : β → Int} (h : MS I w (.sl k α d row l) v) (hi : i < k) (hr : ∀ x, row x i = .sl k2 β d2 row2 (g x)) (hj : j < k2)
    (hr2 : ∀ y, row2 y j = .int ik (f y)) : ∀ x ∈ l, ∀ y ∈ g x, InR ik (f y) := by
  obtain ⟨ad, cap, _, _, _, h3⟩ := h
  intro x hx y hy
  rcases h3 with ⟨rfl, _⟩ | ⟨b, off, _, _, h3⟩
  · cases hx
  · obtain ⟨q, hq⟩ := List.getElem?_of_mem hx
    obtain ⟨u, _, hm⟩ := h3 q x hq i hi
    rw [hr] at hm
    obtain ⟨ad2, cap2, _, _, _, h4⟩ := hm
    rcases h4 with ⟨e, _⟩ | ⟨b2, off2, _, _, h4⟩
    · rw [e] at hy; cases hy
    · obtain ⟨q2, hq2⟩ := List.getElem?_of_mem hy
      obtain ⟨u2, _, hm2⟩ := h4 q2 y hq2 j hj
      rw [hr2] at hm2
      exact hm2.2
theorem AMx.slslint {P : Program} {R : Exit → AS → Prop} {K : List KI} {s : AS} {c : Code} (t i j : Nat) {k k2 : Nat} {α β : Type} {d : α} {d2 : β} {row : α → Nat → SC} {row2 : β → Nat → SC} {l : List α} {g : α → List β} {ik : IntKind} {f : β → Int} (ht : s.reg t = vc (.sl k α d row l)) (hi : i < k)
    (hr : ∀ x, row x i = .sl k2 β d2 row2 (g x)) (hj : j < k2) (hr2 : ∀ y, row2 y j = .int ik (f y)) (h : (∀ x ∈ l, ∀ y ∈ g x, InR ik (f y)) → AMx P R (.code c :: K) .normal s) : AMx P R (.code c :: K) .normal s :=
  AMx.learn _ (fun G Γ a w hC => by have := hC.regs t; rw [ht] at this; exact MS.slslint (d := d) (show MS Γ.I w (.sl k α d row l) _ from this) hi hr hj hr2) h
end AL
namespace AL.Token
open Go Go.Proofs AL
open AL.Policy (RuleV rowP slP checkP coversS capsP)
set_option linter.unusedVariables false
set_option linter.unusedSimpArgs false
theorem f7_body : Tryz.f7.body = some (.seq (.region 0 (rg Tryz.f7 0) false) (.seq (.seq (.region 1 (rg Tryz.f7 1) false) (.cond (.tmp 26) (.seq (.region 2 (rg Tryz.f7 2) false) (.ret)) (.skip))) (.seq (.region 3 (rg Tryz.f7 3) false) (.seq (.region 4 (rg Tryz.f7 4) false) (.seq (.region 5 (rg Tryz.f7 5) false) (.seq (.seq (.region 6 (rg Tryz.f7 6) false) (.block 0 (.loop (.seq (.seq (.region 7 (rg Tryz.f7 7) false) (.cond (.tmp 35) (.skip) (.exit 0))) (.seq (.block 1 (.seq (.region 9 (rg Tryz.f7 9) true) (.seq (.region 10 (rg Tryz.f7 10) false) (.seq (.region 11 (rg Tryz.f7 11) false) (.seq (.seq (.region 12 (rg Tryz.f7 12) false) (.cond (.tmp 70) (.seq (.region 13 (rg Tryz.f7 13) false) (.ret)) (.skip))) (.region 14 (rg Tryz.f7 14) false)))))) (.region 8 (rg Tryz.f7 8) false)))))) (.seq (.region 15 (rg Tryz.f7 15) false) (.seq (.seq (.region 16 (rg Tryz.f7 16) false) (.cond (.tmp 87) (.seq (.region 17 (rg Tryz.f7 17) false) (.ret)) (.skip))) (.seq (.seq (.region 18 (rg Tryz.f7 18) false) (.block 2 (.loop (.seq (.seq (.region 19 (rg Tryz.f7 19) false) (.cond (.tmp 91) (.skip) (.exit 2))) (.seq (.block 3 (.seq (.region 21 (rg Tryz.f7 21) true) (.seq (.region 22 (rg Tryz.f7 22) false) (.seq (.seq (.region 23 (rg Tryz.f7 23) false) (.block 4 (.loop (.seq (.seq (.region 24 (rg Tryz.f7 24) false) (.cond (.tmp 107) (.skip) (.exit 4))) (.seq (.block 5 (.region 26 (rg Tryz.f7 26) true)) (.region 25 (rg Tryz.f7 25) false)))))) (.seq (.region 27 (rg Tryz.f7 27) false) (.seq (.region 28 (rg Tryz.f7 28) false) (.cond (.tmp 132) (.seq (.region 29 (rg Tryz.f7 29) false) (.ret)) (.skip)))))))) (.region 20 (rg Tryz.f7 20) false)))))) (.seq (.region 30 (rg Tryz.f7 30) false) (.ret))))))))))) := by kernel_rfl
set_option maxRecDepth 100000 in
set_option maxHeartbeats 8000000 in
theorem TokenLoads_c (l : List OpT) (n : Int) (hbig : l.length * 64 ≤ 140737488351232) : Pure Tryz.prog 7 [tc (slO l), tc (u8 n)] (vc (bo true)) := by
 refine Pure.of_body Tryz.func7 f7_body (by kernel_rfl) Tryz.ntmps7 (by kernel_rfl) (by kernel_rfl) ?_
 refine AMx.sl 0 (l := l) rfl (fun hl => ?_)
 simp only [maxLen] at hl
 refine AMx.int 1 rfl (fun hn => ?_)
 rw [inR8_iff] at hn
 refine AMx.slslint 0 3 1 (g := fun o : OpT => o.2.2.2) (f := fun y : RuleV => y.2) rfl (by decide) (fun _ => rfl) (by decide) (fun _ => rfl) (fun hca => ?_)
 have hcap := made_caps (l := l) fun o ho y hy => (inR8_iff.1 (hca o ho y hy)).1
 obtain ⟨m, hm⟩ : ∃ m : Nat, n = (m : Int) := ⟨n.toNat, by omega⟩
 refine gS [] [] 134 [(0, vc (slO l)), (1, vc (u8 n))] [] trivial ?_
 refine gQ ?_
 refine gS [(1, CE.call [] [] (vc (slT (tokensO l))) []), (2, CE.call [] [] (vc (i6 (overT (tokensO l)))) [])] [Spec Tryz.prog 9 [tc (slO l)] (ofH []) (vc (slT (tokensO l))) (ofH []), Spec Tryz.prog 8 [tc (slT (tokensO l))] (ofH []) (vc (i6 (overT (tokensO l)))) (ofH [])] 134 [(0, vc (slO l)), (1, vc (u8 n)), (26, vc (bo (decide (0 < overT (tokensO l)))))] [] ⟨(tokens_c l (by first | omega | exact text_le | (have z1 := (made_goodA l).few; have z2 := (over_tok hc1).1; have z3 := names_len (madeT l); have z4 := rot_len (madeT l) m (madeT l).length; first | omega | (have z5 := few_len (A := (rotT (madeT l) m (madeT l).length)) (i := j) (by omega); omega) | (rw [hm, (tmod_rot (madeT l) i m (by omega)).1]; have z5 := (tmod_rot (madeT l) i m (by omega)).2; omega) | (have z5 := rot_len (madeT l) m i; (try simp only [List.length_append, List.length_cons, List.length_nil, rot_len, List.length_take, List.length_drop]); omega)))), (Over_c (tokensO l))⟩ ?_
 refine gC (0 < overT (tokensO l)) (fun hc1 => ?_) fun hc1 => ?_
 ·
  refine gS [(0, CE.call [] [] (vc (bo true)) [])] [Spec Tryz.prog 10 [] (ofH []) (vc (bo true)) (ofH [])] 134 [(4, vc (bo true))] [] (awake_c) ?_
  exact gT (vc (bo true)) rfl
 ·
  refine AMx.skip ?_
  refine gS [(1, CE.call [] [] (AV.t (TV.agg [.s (slT (madeT l))])) [])] [Spec Tryz.prog 25 [tc (slO l)] (ofH []) (AV.t (TV.agg [.s (slT (madeT l))])) (ofH [])] 134 [(1, vc (u8 n)), (5, vp 5 0)] [(5, AObj.row [.s (slT (madeT l))])] (made_c l (by first | exact hc1.1 | exact hc1)) ?_
  refine gS [(1, CE.call [] [] (vc (AL.Fnv.slS (namesT (madeT l)))) [])] [Spec Tryz.prog 26 [TV.agg [.s (slT (madeT l))]] (ofH []) (vc (AL.Fnv.slS (namesT (madeT l)))) (ofH [])] 134 [(1, vc (u8 n)), (5, vp 5 0), (6, vc (AL.Fnv.slS (namesT (madeT l))))] [(5, AObj.row [.s (slT (madeT l))])] (Names_c (madeT l) (by first | omega | exact text_le | (have z1 := (made_goodA l).few; have z2 := (over_tok hc1).1; have z3 := names_len (madeT l); have z4 := rot_len (madeT l) m (madeT l).length; first | omega | (have z5 := few_len (A := (rotT (madeT l) m (madeT l).length)) (i := j) (by omega); omega) | (rw [hm, (tmod_rot (madeT l) i m (by omega)).1]; have z5 := (tmod_rot (madeT l) i m (by omega)).2; omega) | (have z5 := rot_len (madeT l) m i; (try simp only [List.length_append, List.length_cons, List.length_nil, rot_len, List.length_take, List.length_drop]); omega)))) ?_
  refine gS [] [] 134 [(1, vc (u8 n)), (5, vp 5 0), (6, vc (AL.Fnv.slS (namesT (madeT l)))), (7, vc (SC.nilsl))] [(5, AObj.row [.s (slT (madeT l))])] trivial ?_
  refine gQ ?_
  refine gS [] [] 134 [(1, vc (u8 n)), (5, vp 5 0), (6, vc (AL.Fnv.slS (namesT (madeT l)))), (7, vc (SC.nilsl)), (8, vc (i6 0))] [(5, AObj.row [.s (slT (madeT l))])] trivial ?_
  refine AMx.block ?_
  refine AMx.ent (s' := AS.lst 134 [(1, vc (u8 n)), (5, vp 5 0), (6, vc (AL.Fnv.slS (namesT (madeT l)))), (7, vo 7), (8, vc (i6 0))] [(7, AObj.grow 41 3 TokV tokd rowT []), (5, AObj.row [.s (slT (madeT l))])]) (ent_adopt (t := 7) (d := 7) 41 3 TokV tokd rowT (by kernel_rfl) (by kernel_rfl) (by kernel_rfl) (by kernel_rfl)) ?_
  refine AMx.ent (s' := AS.lst 134 [(1, vc (u8 n)), (5, vp 5 0), (6, vc (AL.Fnv.slS (namesT (madeT l)))), (7, vo 7), (8, vc (i6 0))] [(5, AObj.row [.s (slT (madeT l))]), (7, AObj.grow 41 3 TokV tokd rowT [])]) (ent_proj [1, 5, 6, 7, 8] [5, 7]) ?_
  refine AMx.loop (fun mm ss => ∃ (i : Nat), (i ≤ (madeT l).length) ∧ mm = (madeT l).length - i ∧ ss = AS.lst 134 [(1, vc (u8 n)), (5, vp 5 0), (6, vc (AL.Fnv.slS (namesT (madeT l)))), (7, vo 7), (8, vc (i6 (i : Int)))] [(5, AObj.row [.s (slT (madeT l))]), (7, AObj.grow 41 3 TokV tokd rowT (rotT (madeT l) m i))]) ⟨0, ?_, rfl, ?_⟩ ?_
  · omega
  · rfl
  rintro mm ss ⟨i, hI, rfl, rfl⟩
  have hNL := names_len (madeT l)
  refine gQ ?_
  refine gS [] [] 134 [(1, vc (u8 n)), (5, vp 5 0), (6, vc (AL.Fnv.slS (namesT (madeT l)))), (7, vo 7), (8, vc (i6 (i : Int))), (35, vc (bo (decide ((i : Int) < (List.length (namesT (madeT l) : List Bytes) : Int)))))] [(5, AObj.row [.s (slT (madeT l))]), (7, AObj.grow 41 3 TokV tokd rowT (rotT (madeT l) m i))] trivial ?_
  refine gC ((i : Int) < (List.length (namesT (madeT l) : List Bytes) : Int)) (fun hc2 => ?_) fun hc2 => ?_
  ·
   refine AMx.skip ?_
   refine gQ ?_
   refine AMx.block ?_
   refine gY [(11, CE.call [] [] (AV.tup [TV.agg [.s (st (((findR (madeT l) (List.getD (namesT (madeT l)) (Int.tmod ((i : Int) + n) (List.length (namesT (madeT l) : List Bytes) : Int)).toNat [])).1).1)), .s (st (((findR (madeT l) (List.getD (namesT (madeT l)) (Int.tmod ((i : Int) + n) (List.length (namesT (madeT l) : List Bytes) : Int)).toNat [])).1).2.1)), .s (AL.Policy.slP (((findR (madeT l) (List.getD (namesT (madeT l)) (Int.tmod ((i : Int) + n) (List.length (namesT (madeT l) : List Bytes) : Int)).toNat [])).1).2.2))], tc (bo ((findR (madeT l) (List.getD (namesT (madeT l)) (Int.tmod ((i : Int) + n) (List.length (namesT (madeT l) : List Bytes) : Int)).toNat [])).2))]) [])] [(0, [5]), (16, [9])] [InR .i64 ((i : Int) + n), ((List.length (namesT (madeT l) : List Bytes) : Int) : Int) ≠ 0, (0 : Int) ≤ Int.tmod ((i : Int) + n) (List.length (namesT (madeT l) : List Bytes) : Int), Int.tmod ((i : Int) + n) (List.length (namesT (madeT l) : List Bytes) : Int) < List.length (namesT (madeT l) : List Bytes), Spec Tryz.prog 27 [TV.agg [.s (slT (madeT l))], tc (st (List.getD (namesT (madeT l)) (Int.tmod ((i : Int) + n) (List.length (namesT (madeT l) : List Bytes) : Int)).toNat []))] (ofH []) (AV.tup [TV.agg [.s (st (((findR (madeT l) (List.getD (namesT (madeT l)) (Int.tmod ((i : Int) + n) (List.length (namesT (madeT l) : List Bytes) : Int)).toNat [])).1).1)), .s (st (((findR (madeT l) (List.getD (namesT (madeT l)) (Int.tmod ((i : Int) + n) (List.length (namesT (madeT l) : List Bytes) : Int)).toNat [])).1).2.1)), .s (AL.Policy.slP (((findR (madeT l) (List.getD (namesT (madeT l)) (Int.tmod ((i : Int) + n) (List.length (namesT (madeT l) : List Bytes) : Int)).toNat [])).1).2.2))], tc (bo ((findR (madeT l) (List.getD (namesT (madeT l)) (Int.tmod ((i : Int) + n) (List.length (namesT (madeT l) : List Bytes) : Int)).toNat [])).2))]) (ofH [])] 134 [(1, vc (u8 n)), (5, vp 5 0), (6, vc (AL.Fnv.slS (namesT (madeT l)))), (7, vo 7), (8, vc (i6 (i : Int))), (9, vp 9 0)] [(5, AObj.row [.s (slT (madeT l))]), (7, AObj.grow 41 3 TokV tokd rowT (rotT (madeT l) m i)), (9, AObj.row [.s (st (((findR (madeT l) (List.getD (namesT (madeT l)) (Int.tmod ((i : Int) + n) (List.length (namesT (madeT l) : List Bytes) : Int)).toNat [])).1).1)), .s (st (((findR (madeT l) (List.getD (namesT (madeT l)) (Int.tmod ((i : Int) + n) (List.length (namesT (madeT l) : List Bytes) : Int)).toNat [])).1).2.1)), .s (AL.Policy.slP (((findR (madeT l) (List.getD (namesT (madeT l)) (Int.tmod ((i : Int) + n) (List.length (namesT (madeT l) : List Bytes) : Int)).toNat [])).1).2.2))])] mixed ⟨(inR64 (by first | omega | exact text_le | (have z1 := (made_goodA l).few; have z2 := (over_tok hc1).1; have z3 := names_len (madeT l); have z4 := rot_len (madeT l) m (madeT l).length; first | omega | (have z5 := few_len (A := (rotT (madeT l) m (madeT l).length)) (i := j) (by omega); omega) | (rw [hm, (tmod_rot (madeT l) i m (by omega)).1]; have z5 := (tmod_rot (madeT l) i m (by omega)).2; omega) | (have z5 := rot_len (madeT l) m i; (try simp only [List.length_append, List.length_cons, List.length_nil, rot_len, List.length_take, List.length_drop]); omega))) (by first | omega | exact text_le | (have z1 := (made_goodA l).few; have z2 := (over_tok hc1).1; have z3 := names_len (madeT l); have z4 := rot_len (madeT l) m (madeT l).length; first | omega | (have z5 := few_len (A := (rotT (madeT l) m (madeT l).length)) (i := j) (by omega); omega) | (rw [hm, (tmod_rot (madeT l) i m (by omega)).1]; have z5 := (tmod_rot (madeT l) i m (by omega)).2; omega) | (have z5 := rot_len (madeT l) m i; (try simp only [List.length_append, List.length_cons, List.length_nil, rot_len, List.length_take, List.length_drop]); omega)))), (by first | omega | exact text_le | (have z1 := (made_goodA l).few; have z2 := (over_tok hc1).1; have z3 := names_len (madeT l); have z4 := rot_len (madeT l) m (madeT l).length; first | omega | (have z5 := few_len (A := (rotT (madeT l) m (madeT l).length)) (i := j) (by omega); omega) | (rw [hm, (tmod_rot (madeT l) i m (by omega)).1]; have z5 := (tmod_rot (madeT l) i m (by omega)).2; omega) | (have z5 := rot_len (madeT l) m i; (try simp only [List.length_append, List.length_cons, List.length_nil, rot_len, List.length_take, List.length_drop]); omega))), (by first | omega | exact text_le | (have z1 := (made_goodA l).few; have z2 := (over_tok hc1).1; have z3 := names_len (madeT l); have z4 := rot_len (madeT l) m (madeT l).length; first | omega | (have z5 := few_len (A := (rotT (madeT l) m (madeT l).length)) (i := j) (by omega); omega) | (rw [hm, (tmod_rot (madeT l) i m (by omega)).1]; have z5 := (tmod_rot (madeT l) i m (by omega)).2; omega) | (have z5 := rot_len (madeT l) m i; (try simp only [List.length_append, List.length_cons, List.length_nil, rot_len, List.length_take, List.length_drop]); omega))), (by first | omega | exact text_le | (have z1 := (made_goodA l).few; have z2 := (over_tok hc1).1; have z3 := names_len (madeT l); have z4 := rot_len (madeT l) m (madeT l).length; first | omega | (have z5 := few_len (A := (rotT (madeT l) m (madeT l).length)) (i := j) (by omega); omega) | (rw [hm, (tmod_rot (madeT l) i m (by omega)).1]; have z5 := (tmod_rot (madeT l) i m (by omega)).2; omega) | (have z5 := rot_len (madeT l) m i; (try simp only [List.length_append, List.length_cons, List.length_nil, rot_len, List.length_take, List.length_drop]); omega))), (Find_c (madeT l) (List.getD (namesT (madeT l)) (Int.tmod ((i : Int) + n) (List.length (namesT (madeT l) : List Bytes) : Int)).toNat []) (by exact (made_goodA l).rise) (by first | omega | exact text_le | (have z1 := (made_goodA l).few; have z2 := (over_tok hc1).1; have z3 := names_len (madeT l); have z4 := rot_len (madeT l) m (madeT l).length; first | omega | (have z5 := few_len (A := (rotT (madeT l) m (madeT l).length)) (i := j) (by omega); omega) | (rw [hm, (tmod_rot (madeT l) i m (by omega)).1]; have z5 := (tmod_rot (madeT l) i m (by omega)).2; omega) | (have z5 := rot_len (madeT l) m i; (try simp only [List.length_append, List.length_cons, List.length_nil, rot_len, List.length_take, List.length_drop]); omega))) (by exact wf_rules (made_goodA l).wf))⟩ ?_
   rw [show (findR (madeT l) (List.getD (namesT (madeT l)) (Int.tmod ((i : Int) + n) (List.length (namesT (madeT l) : List Bytes) : Int)).toNat [])).1 = (List.getD (madeT l) ((i + m) % (madeT l).length) tokd) from by rw [hm, (tmod_rot (madeT l) i m (by omega)).1, Int.toNat_natCast, names_at (tmod_rot (madeT l) i m (by omega)).2, findR_at (made_goodA l).rise (tmod_rot (madeT l) i m (by omega)).2]]
   refine gS [(1, CE.call [] [] (AV.tup [tc (st ((textT (List.getD (madeT l) ((i + m) % (madeT l).length) tokd)).1)), tc (i6 ((textT (List.getD (madeT l) ((i + m) % (madeT l).length) tokd)).2))]) [])] [Spec Tryz.prog 30 [TV.agg [.s (st ((List.getD (madeT l) ((i + m) % (madeT l).length) tokd).1)), .s (st ((List.getD (madeT l) ((i + m) % (madeT l).length) tokd).2.1)), .s (AL.Policy.slP ((List.getD (madeT l) ((i + m) % (madeT l).length) tokd).2.2))]] (ofH []) (AV.tup [tc (st ((textT (List.getD (madeT l) ((i + m) % (madeT l).length) tokd)).1)), tc (i6 ((textT (List.getD (madeT l) ((i + m) % (madeT l).length) tokd)).2))]) (ofH [])] 134 [(1, vc (u8 n)), (5, vp 5 0), (6, vc (AL.Fnv.slS (namesT (madeT l)))), (7, vo 7), (8, vc (i6 (i : Int))), (9, vp 9 0), (11, vc (st ((textT (List.getD (madeT l) ((i + m) % (madeT l).length) tokd)).1))), (12, vc (i6 ((textT (List.getD (madeT l) ((i + m) % (madeT l).length) tokd)).2)))] [(5, AObj.row [.s (slT (madeT l))]), (7, AObj.grow 41 3 TokV tokd rowT (rotT (madeT l) m i)), (9, AObj.row [.s (st ((List.getD (madeT l) ((i + m) % (madeT l).length) tokd).1)), .s (st ((List.getD (madeT l) ((i + m) % (madeT l).length) tokd).2.1)), .s (AL.Policy.slP ((List.getD (madeT l) ((i + m) % (madeT l).length) tokd).2.2))])] (Text_c (List.getD (madeT l) ((i + m) % (madeT l).length) tokd)) ?_
   rw [show (textT (List.getD (madeT l) ((i + m) % (madeT l).length) tokd)).2 = 0 from (text_parse (made_goodA l).wf hcap (Lib.getD_mem tokd _ _ (tmod_rot (madeT l) i m (by omega)).2)).1]
   refine gS [(3, CE.call [] [] (AV.tup [TV.agg [.s (st (((parseT ((List.getD (madeT l) ((i + m) % (madeT l).length) tokd).1) ((textT (List.getD (madeT l) ((i + m) % (madeT l).length) tokd)).1)).1).1)), .s (st (((parseT ((List.getD (madeT l) ((i + m) % (madeT l).length) tokd).1) ((textT (List.getD (madeT l) ((i + m) % (madeT l).length) tokd)).1)).1).2.1)), .s (AL.Policy.slP (((parseT ((List.getD (madeT l) ((i + m) % (madeT l).length) tokd).1) ((textT (List.getD (madeT l) ((i + m) % (madeT l).length) tokd)).1)).1).2.2))], tc (i6 ((parseT ((List.getD (madeT l) ((i + m) % (madeT l).length) tokd).1) ((textT (List.getD (madeT l) ((i + m) % (madeT l).length) tokd)).1)).2))]) [])] [Spec Tryz.prog 32 [tc (st ((List.getD (madeT l) ((i + m) % (madeT l).length) tokd).1)), tc (st ((textT (List.getD (madeT l) ((i + m) % (madeT l).length) tokd)).1))] (ofH []) (AV.tup [TV.agg [.s (st (((parseT ((List.getD (madeT l) ((i + m) % (madeT l).length) tokd).1) ((textT (List.getD (madeT l) ((i + m) % (madeT l).length) tokd)).1)).1).1)), .s (st (((parseT ((List.getD (madeT l) ((i + m) % (madeT l).length) tokd).1) ((textT (List.getD (madeT l) ((i + m) % (madeT l).length) tokd)).1)).1).2.1)), .s (AL.Policy.slP (((parseT ((List.getD (madeT l) ((i + m) % (madeT l).length) tokd).1) ((textT (List.getD (madeT l) ((i + m) % (madeT l).length) tokd)).1)).1).2.2))], tc (i6 ((parseT ((List.getD (madeT l) ((i + m) % (madeT l).length) tokd).1) ((textT (List.getD (madeT l) ((i + m) % (madeT l).length) tokd)).1)).2))]) (ofH [])] 134 [(1, vc (u8 n)), (5, vp 5 0), (6, vc (AL.Fnv.slS (namesT (madeT l)))), (7, vo 7), (8, vc (i6 (i : Int))), (12, vc (i6 0)), (13, vp 13 0), (14, vc (i6 ((parseT ((List.getD (madeT l) ((i + m) % (madeT l).length) tokd).1) ((textT (List.getD (madeT l) ((i + m) % (madeT l).length) tokd)).1)).2)))] [(5, AObj.row [.s (slT (madeT l))]), (7, AObj.grow 41 3 TokV tokd rowT (rotT (madeT l) m i)), (13, AObj.row [.s (st (((parseT ((List.getD (madeT l) ((i + m) % (madeT l).length) tokd).1) ((textT (List.getD (madeT l) ((i + m) % (madeT l).length) tokd)).1)).1).1)), .s (st (((parseT ((List.getD (madeT l) ((i + m) % (madeT l).length) tokd).1) ((textT (List.getD (madeT l) ((i + m) % (madeT l).length) tokd)).1)).1).2.1)), .s (AL.Policy.slP (((parseT ((List.getD (madeT l) ((i + m) % (madeT l).length) tokd).1) ((textT (List.getD (madeT l) ((i + m) % (madeT l).length) tokd)).1)).1).2.2))])] (Parse_c ((List.getD (madeT l) ((i + m) % (madeT l).length) tokd).1) ((textT (List.getD (madeT l) ((i + m) % (madeT l).length) tokd)).1) (by first | omega | exact text_le | (have z1 := (made_goodA l).few; have z2 := (over_tok hc1).1; have z3 := names_len (madeT l); have z4 := rot_len (madeT l) m (madeT l).length; first | omega | (have z5 := few_len (A := (rotT (madeT l) m (madeT l).length)) (i := j) (by omega); omega) | (rw [hm, (tmod_rot (madeT l) i m (by omega)).1]; have z5 := (tmod_rot (madeT l) i m (by omega)).2; omega) | (have z5 := rot_len (madeT l) m i; (try simp only [List.length_append, List.length_cons, List.length_nil, rot_len, List.length_take, List.length_drop]); omega)))) ?_
   rw [show (parseT ((List.getD (madeT l) ((i + m) % (madeT l).length) tokd).1) ((textT (List.getD (madeT l) ((i + m) % (madeT l).length) tokd)).1)).1 = (List.getD (madeT l) ((i + m) % (madeT l).length) tokd) from by rw [(text_parse (made_goodA l).wf hcap (Lib.getD_mem tokd _ _ (tmod_rot (madeT l) i m (by omega)).2)).2]]
   rw [show (parseT ((List.getD (madeT l) ((i + m) % (madeT l).length) tokd).1) ((textT (List.getD (madeT l) ((i + m) % (madeT l).length) tokd)).1)).2 = 0 from by rw [(text_parse (made_goodA l).wf hcap (Lib.getD_mem tokd _ _ (tmod_rot (madeT l) i m (by omega)).2)).2]]
   refine gQ ?_
   refine gS [] [(false = false) → allP [false = false], false = false → allP [false = false]] 134 [(1, vc (u8 n)), (5, vp 5 0), (6, vc (AL.Fnv.slS (namesT (madeT l)))), (7, vo 7), (8, vc (i6 (i : Int))), (13, vp 13 0), (70, vc (bo false))] [(5, AObj.row [.s (slT (madeT l))]), (7, AObj.grow 41 3 TokV tokd rowT (rotT (madeT l) m i)), (13, AObj.row [.s (st ((List.getD (madeT l) ((i + m) % (madeT l).length) tokd).1)), .s (st ((List.getD (madeT l) ((i + m) % (madeT l).length) tokd).2.1)), .s (AL.Policy.slP ((List.getD (madeT l) ((i + m) % (madeT l).length) tokd).2.2))])] ⟨(fun hp => hp), (fun hp2 => (by first | exact hp2 | exact ⟨hp, hp2⟩))⟩ ?_
   refine gBf ?_
   refine AMx.skip ?_
   refine gR [(2, CE.obj (AObj.grow 41 3 TokV tokd rowT [(List.getD (madeT l) ((i + m) % (madeT l).length) tokd)])), (3, CE.obj (AObj.grow 41 3 TokV tokd rowT ((rotT (madeT l) m i) ++ [(List.getD (madeT l) ((i + m) % (madeT l).length) tokd)])))] [flat 3 rowT [(List.getD (madeT l) ((i + m) % (madeT l).length) tokd)] = [.s (st ((List.getD (madeT l) ((i + m) % (madeT l).length) tokd).1)), .s (st ((List.getD (madeT l) ((i + m) % (madeT l).length) tokd).2.1)), .s (AL.Policy.slP ((List.getD (madeT l) ((i + m) % (madeT l).length) tokd).2.2))], List.length ([(List.getD (madeT l) ((i + m) % (madeT l).length) tokd)] : List TokV) = 1, AppC (flat 3 rowT [(List.getD (madeT l) ((i + m) % (madeT l).length) tokd)]) (List.length ([(List.getD (madeT l) ((i + m) % (madeT l).length) tokd)] : List TokV)) 56 (AObj.grow 41 3 TokV tokd rowT (rotT (madeT l) m i)) (AObj.grow 41 3 TokV tokd rowT ((rotT (madeT l) m i) ++ [(List.getD (madeT l) ((i + m) % (madeT l).length) tokd)]))] 134 [(1, vc (u8 n)), (5, vp 5 0), (6, vc (AL.Fnv.slS (namesT (madeT l)))), (7, vo 74), (8, vc (i6 (i : Int)))] [(5, AObj.row [.s (slT (madeT l))]), (74, AObj.grow 41 3 TokV tokd rowT ((rotT (madeT l) m i) ++ [(List.getD (madeT l) ((i + m) % (madeT l).length) tokd)]))] ⟨rfl, rfl, (⟨_, rfl, rfl, rfl, by have z1 := (made_goodA l).few; have z2 := (over_tok hc1).1; have z3 := names_len (madeT l); have z4 := rot_len (madeT l) m (madeT l).length; simp only [List.length_append, List.length_cons, List.length_nil, rot_len, List.length_take, List.length_drop]; omega, by have z1 := (made_goodA l).few; have z2 := (over_tok hc1).1; have z3 := names_len (madeT l); have z4 := rot_len (madeT l) m (madeT l).length; simp only [maxLen, List.length_append, List.length_cons, List.length_nil, rot_len, List.length_take, List.length_drop]; omega⟩)⟩ ?_
   refine AMx.blk ?_
   refine gR [] [InR .i64 ((i : Int) + 1)] 134 [(1, vc (u8 n)), (5, vp 5 0), (6, vc (AL.Fnv.slS (namesT (madeT l)))), (7, vo 74), (8, vc (i6 ((i : Int) + 1)))] [(5, AObj.row [.s (slT (madeT l))]), (74, AObj.grow 41 3 TokV tokd rowT ((rotT (madeT l) m i) ++ [(List.getD (madeT l) ((i + m) % (madeT l).length) tokd)]))] (show InR .i64 ((i : Int) + 1) from (inR64 (by first | omega | exact text_le | (have z1 := (made_goodA l).few; have z2 := (over_tok hc1).1; have z3 := names_len (madeT l); have z4 := rot_len (madeT l) m (madeT l).length; first | omega | (have z5 := few_len (A := (rotT (madeT l) m (madeT l).length)) (i := j) (by omega); omega) | (rw [hm, (tmod_rot (madeT l) i m (by omega)).1]; have z5 := (tmod_rot (madeT l) i m (by omega)).2; omega) | (have z5 := rot_len (madeT l) m i; (try simp only [List.length_append, List.length_cons, List.length_nil, rot_len, List.length_take, List.length_drop]); omega))) (by first | omega | exact text_le | (have z1 := (made_goodA l).few; have z2 := (over_tok hc1).1; have z3 := names_len (madeT l); have z4 := rot_len (madeT l) m (madeT l).length; first | omega | (have z5 := few_len (A := (rotT (madeT l) m (madeT l).length)) (i := j) (by omega); omega) | (rw [hm, (tmod_rot (madeT l) i m (by omega)).1]; have z5 := (tmod_rot (madeT l) i m (by omega)).2; omega) | (have z5 := rot_len (madeT l) m i; (try simp only [List.length_append, List.length_cons, List.length_nil, rot_len, List.length_take, List.length_drop]); omega))))) ?_
   refine AMx.ent_inv (s' := AS.lst 134 [(1, vc (u8 n)), (5, vp 5 0), (6, vc (AL.Fnv.slS (namesT (madeT l)))), (7, vo 7), (8, vc (i6 ((i : Int) + 1)))] [(5, AObj.row [.s (slT (madeT l))]), (7, AObj.grow 41 3 TokV tokd rowT ((rotT (madeT l) m i) ++ [(List.getD (madeT l) ((i + m) % (madeT l).length) tokd)]))]) (ent_swap 74 7 (by kernel_rfl) (by kernel_rfl)) ?_
   refine AMx.ent_inv (s' := AS.lst 134 [(1, vc (u8 n)), (5, vp 5 0), (6, vc (AL.Fnv.slS (namesT (madeT l)))), (7, vo 7), (8, vc (i6 ((i : Int) + 1)))] [(5, AObj.row [.s (slT (madeT l))]), (7, AObj.grow 41 3 TokV tokd rowT ((rotT (madeT l) m i) ++ [(List.getD (madeT l) ((i + m) % (madeT l).length) tokd)]))]) (ent_proj [1, 5, 6, 7, 8] [5, 7]) ?_
   refine AMx.inv ⟨_, ?_, i + 1, ?_, rfl, ?_⟩
   rotate_left
   · omega
   · rw [rot_succ]; rfl
   · omega
  ·
   refine AMx.exit ?_
   refine AMx.code_exit ?_
   refine AMx.inv_exit ?_
   refine AMx.blk_exit ?_
   rw [show rotT (madeT l) m i = rotT (madeT l) m (madeT l).length from by rw [show i = (madeT l).length by omega]]
   refine gQ ?_
   refine AMx.ent (s' := AS.lst 134 [(1, vc (u8 n)), (5, vp 5 0), (6, vc (AL.Fnv.slS (namesT (madeT l)))), (7, vc (slT (rotT (madeT l) m (madeT l).length))), (8, vc (i6 (i : Int))), (35, vc (bo (decide ((i : Int) < (List.length (namesT (madeT l) : List Bytes) : Int)))))] [(5, AObj.row [.s (slT (madeT l))])]) (ent_freeze (id := 7) (T := 41) (by kernel_rfl)) ?_
   refine gR [(1, CE.call [] [] (AV.tup [TV.agg [.s (slT ((loadT (rotT (madeT l) m (madeT l).length)).1))], tc (i6 ((loadT (rotT (madeT l) m (madeT l).length)).2))]) [])] [Spec Tryz.prog 34 [tc (slT (rotT (madeT l) m (madeT l).length))] (ofH []) (AV.tup [TV.agg [.s (slT ((loadT (rotT (madeT l) m (madeT l).length)).1))], tc (i6 ((loadT (rotT (madeT l) m (madeT l).length)).2))]) (ofH [])] 134 [(5, vp 5 0), (7, vc (slT (rotT (madeT l) m (madeT l).length))), (15, vp 15 0), (16, vc (i6 ((loadT (rotT (madeT l) m (madeT l).length)).2)))] [(5, AObj.row [.s (slT (madeT l))]), (15, AObj.row [.s (slT ((loadT (rotT (madeT l) m (madeT l).length)).1))])] (Load_c (rotT (madeT l) m (madeT l).length) (by first | omega | exact text_le | (have z1 := (made_goodA l).few; have z2 := (over_tok hc1).1; have z3 := names_len (madeT l); have z4 := rot_len (madeT l) m (madeT l).length; first | omega | (have z5 := few_len (A := (rotT (madeT l) m (madeT l).length)) (i := j) (by omega); omega) | (rw [hm, (tmod_rot (madeT l) i m (by omega)).1]; have z5 := (tmod_rot (madeT l) i m (by omega)).2; omega) | (have z5 := rot_len (madeT l) m i; (try simp only [List.length_append, List.length_cons, List.length_nil, rot_len, List.length_take, List.length_drop]); omega)))) ?_
   rw [show (loadT (rotT (madeT l) m (madeT l).length)).1 = madeT l from by rw [load_perm (made_goodA l).wf (made_goodA l).rise (rot_perm _ _)]]
   rw [show (loadT (rotT (madeT l) m (madeT l).length)).2 = 0 from by rw [load_perm (made_goodA l).wf (made_goodA l).rise (rot_perm _ _)]]
   refine gQ ?_
   refine gS [(5, CE.call [] [] (vc (bo (decide ((madeT l) = (madeT l))))) [])] [(false = false) → allP [false = false, false = false, Spec Tryz.prog 19 [TV.agg [.s (slT (madeT l))], TV.agg [.s (slT (madeT l))]] (ofH []) (vc (bo (decide ((madeT l) = (madeT l))))) (ofH [])], (false = false) → allP [false = false], false = false → allP [false = false]] 134 [(7, vc (slT (rotT (madeT l) m (madeT l).length))), (87, vc (bo (!(decide ((madeT l) = (madeT l))))))] [] ⟨(fun hp => by have hq := hp; (try simp only [xT, xF, xA, xO, xB, xP, xN, xM, Bool.not_eq_true, Bool.not_eq_false] at hq); exact ⟨hp, hp, (Same_c (madeT l) (madeT l))⟩), (fun hp => hp), (fun hp2 => (by first | exact hp2 | exact ⟨hp, hp2⟩))⟩ ?_
   refine gB (!(decide ((madeT l) = (madeT l)))) (fun hc4 => ?_) fun hc4 => ?_
   ·
    try simp only [xT, xF, xN, xM] at hc4
    refine gS [] [] 134 [(4, vc (bo false))] [] trivial ?_
    exact gT (vc (bo false)) (by exfalso; have hz := hc4; first | (simp at hz; done) | (have z1 := (made_goodA l).few; have z2 := (over_tok hc1).1; have z3 := names_len (madeT l); have z4 := rot_len (madeT l) m (madeT l).length; rw [few_load (made_goodA l).wf (made_goodA l).rise (rot_perm _ _) (by omega)] at hz; revert hz; generalize needsT (fewT (rotT (madeT l) m (madeT l).length) j) (List.getD (rotT (madeT l) m (madeT l).length) j tokd).1 = b; cases b <;> simp))
   ·
    try simp only [xT, xF, xN, xM] at hc4
    refine AMx.skip ?_
    refine gQ ?_
    refine gS [] [] 134 [(7, vc (slT (rotT (madeT l) m (madeT l).length))), (17, vc (i6 0))] [] trivial ?_
    refine AMx.block ?_
    refine AMx.ent (s' := AS.lst 134 [(7, vc (slT (rotT (madeT l) m (madeT l).length))), (17, vc (i6 0))] []) (ent_proj [7, 17] []) ?_
    refine AMx.loop (fun mm ss => ∃ (j : Nat), (j ≤ (madeT l).length) ∧ mm = (madeT l).length - j ∧ ss = AS.lst 134 [(7, vc (slT (rotT (madeT l) m (madeT l).length))), (17, vc (i6 (j : Int)))] []) ⟨0, ?_, rfl, ?_⟩ ?_
    · omega
    · rfl
    rintro mm ss ⟨j, hI, rfl, rfl⟩
    have hRL := rot_len (madeT l) m (madeT l).length
    refine gQ ?_
    refine gS [] [] 134 [(7, vc (slT (rotT (madeT l) m (madeT l).length))), (17, vc (i6 (j : Int))), (91, vc (bo (decide ((j : Int) < (List.length (rotT (madeT l) m (madeT l).length : List TokV) : Int)))))] [] trivial ?_
    refine gC ((j : Int) < (List.length (rotT (madeT l) m (madeT l).length : List TokV) : Int)) (fun hc5 => ?_) fun hc5 => ?_
    ·
     refine AMx.skip ?_
     refine gQ ?_
     refine AMx.block ?_
     refine gY [(0, CE.obj (AObj.grow 41 3 TokV tokd rowT [])), (4, CE.obj (AObj.grow 41 3 TokV tokd rowT ([] ++ (List.take j (rotT (madeT l) m (madeT l).length))))), (9, CE.obj (AObj.grow 41 3 TokV tokd rowT (([] ++ (List.take j (rotT (madeT l) m (madeT l).length))) ++ (List.drop (j + 1) (rotT (madeT l) m (madeT l).length)))))] [(4, [94]), (9, [98])] [flat 3 rowT [] = [], List.length ([] : List TokV) = 0, 0 ≤ (j : Int), (j : Int) ≤ List.length (rotT (madeT l) m (madeT l).length : List TokV), AppC (flat 3 rowT (List.take j (rotT (madeT l) m (madeT l).length))) (List.length (List.take j (rotT (madeT l) m (madeT l).length) : List TokV)) 56 (AObj.grow 41 3 TokV tokd rowT []) (AObj.grow 41 3 TokV tokd rowT ([] ++ (List.take j (rotT (madeT l) m (madeT l).length)))), InR .i64 ((j : Int) + 1), 0 ≤ (j : Int) + 1, (j : Int) + 1 ≤ List.length (rotT (madeT l) m (madeT l).length : List TokV), AppC (flat 3 rowT (List.drop (j + 1) (rotT (madeT l) m (madeT l).length))) (List.length (List.drop (j + 1) (rotT (madeT l) m (madeT l).length) : List TokV)) 56 (AObj.grow 41 3 TokV tokd rowT ([] ++ (List.take j (rotT (madeT l) m (madeT l).length)))) (AObj.grow 41 3 TokV tokd rowT (([] ++ (List.take j (rotT (madeT l) m (madeT l).length))) ++ (List.drop (j + 1) (rotT (madeT l) m (madeT l).length))))] 134 [(7, vc (slT (rotT (madeT l) m (madeT l).length))), (17, vc (i6 (j : Int))), (18, vo 103)] [(103, AObj.grow 41 3 TokV tokd rowT (([] ++ (List.take j (rotT (madeT l) m (madeT l).length))) ++ (List.drop (j + 1) (rotT (madeT l) m (madeT l).length))))] mixed ⟨rfl, rfl, (by first | omega | exact text_le | (have z1 := (made_goodA l).few; have z2 := (over_tok hc1).1; have z3 := names_len (madeT l); have z4 := rot_len (madeT l) m (madeT l).length; first | omega | (have z5 := few_len (A := (rotT (madeT l) m (madeT l).length)) (i := j) (by omega); omega) | (rw [hm, (tmod_rot (madeT l) i m (by omega)).1]; have z5 := (tmod_rot (madeT l) i m (by omega)).2; omega) | (have z5 := rot_len (madeT l) m i; (try simp only [List.length_append, List.length_cons, List.length_nil, rot_len, List.length_take, List.length_drop]); omega))), (by first | omega | exact text_le | (have z1 := (made_goodA l).few; have z2 := (over_tok hc1).1; have z3 := names_len (madeT l); have z4 := rot_len (madeT l) m (madeT l).length; first | omega | (have z5 := few_len (A := (rotT (madeT l) m (madeT l).length)) (i := j) (by omega); omega) | (rw [hm, (tmod_rot (madeT l) i m (by omega)).1]; have z5 := (tmod_rot (madeT l) i m (by omega)).2; omega) | (have z5 := rot_len (madeT l) m i; (try simp only [List.length_append, List.length_cons, List.length_nil, rot_len, List.length_take, List.length_drop]); omega))), (⟨_, rfl, rfl, rfl, by have z1 := (made_goodA l).few; have z2 := (over_tok hc1).1; have z3 := names_len (madeT l); have z4 := rot_len (madeT l) m (madeT l).length; simp only [List.length_append, List.length_cons, List.length_nil, rot_len, List.length_take, List.length_drop]; omega, by have z1 := (made_goodA l).few; have z2 := (over_tok hc1).1; have z3 := names_len (madeT l); have z4 := rot_len (madeT l) m (madeT l).length; simp only [maxLen, List.length_append, List.length_cons, List.length_nil, rot_len, List.length_take, List.length_drop]; omega⟩), (inR64 (by first | omega | exact text_le | (have z1 := (made_goodA l).few; have z2 := (over_tok hc1).1; have z3 := names_len (madeT l); have z4 := rot_len (madeT l) m (madeT l).length; first | omega | (have z5 := few_len (A := (rotT (madeT l) m (madeT l).length)) (i := j) (by omega); omega) | (rw [hm, (tmod_rot (madeT l) i m (by omega)).1]; have z5 := (tmod_rot (madeT l) i m (by omega)).2; omega) | (have z5 := rot_len (madeT l) m i; (try simp only [List.length_append, List.length_cons, List.length_nil, rot_len, List.length_take, List.length_drop]); omega))) (by first | omega | exact text_le | (have z1 := (made_goodA l).few; have z2 := (over_tok hc1).1; have z3 := names_len (madeT l); have z4 := rot_len (madeT l) m (madeT l).length; first | omega | (have z5 := few_len (A := (rotT (madeT l) m (madeT l).length)) (i := j) (by omega); omega) | (rw [hm, (tmod_rot (madeT l) i m (by omega)).1]; have z5 := (tmod_rot (madeT l) i m (by omega)).2; omega) | (have z5 := rot_len (madeT l) m i; (try simp only [List.length_append, List.length_cons, List.length_nil, rot_len, List.length_take, List.length_drop]); omega)))), (by first | omega | exact text_le | (have z1 := (made_goodA l).few; have z2 := (over_tok hc1).1; have z3 := names_len (madeT l); have z4 := rot_len (madeT l) m (madeT l).length; first | omega | (have z5 := few_len (A := (rotT (madeT l) m (madeT l).length)) (i := j) (by omega); omega) | (rw [hm, (tmod_rot (madeT l) i m (by omega)).1]; have z5 := (tmod_rot (madeT l) i m (by omega)).2; omega) | (have z5 := rot_len (madeT l) m i; (try simp only [List.length_append, List.length_cons, List.length_nil, rot_len, List.length_take, List.length_drop]); omega))), (by first | omega | exact text_le | (have z1 := (made_goodA l).few; have z2 := (over_tok hc1).1; have z3 := names_len (madeT l); have z4 := rot_len (madeT l) m (madeT l).length; first | omega | (have z5 := few_len (A := (rotT (madeT l) m (madeT l).length)) (i := j) (by omega); omega) | (rw [hm, (tmod_rot (madeT l) i m (by omega)).1]; have z5 := (tmod_rot (madeT l) i m (by omega)).2; omega) | (have z5 := rot_len (madeT l) m i; (try simp only [List.length_append, List.length_cons, List.length_nil, rot_len, List.length_take, List.length_drop]); omega))), (⟨_, rfl, rfl, rfl, by have z1 := (made_goodA l).few; have z2 := (over_tok hc1).1; have z3 := names_len (madeT l); have z4 := rot_len (madeT l) m (madeT l).length; simp only [List.length_append, List.length_cons, List.length_nil, rot_len, List.length_take, List.length_drop]; omega, by have z1 := (made_goodA l).few; have z2 := (over_tok hc1).1; have z3 := names_len (madeT l); have z4 := rot_len (madeT l) m (madeT l).length; simp only [maxLen, List.length_append, List.length_cons, List.length_nil, rot_len, List.length_take, List.length_drop]; omega⟩)⟩ ?_
     rw [show ([] ++ (List.take j (rotT (madeT l) m (madeT l).length))) ++ (List.drop (j + 1) (rotT (madeT l) m (madeT l).length)) = fewT (rotT (madeT l) m (madeT l).length) j from by unfold fewT; rw [List.nil_append]]
     refine gS [] [] 134 [(7, vc (slT (rotT (madeT l) m (madeT l).length))), (17, vc (i6 (j : Int))), (18, vo 103), (19, vc (bo false))] [(103, AObj.grow 41 3 TokV tokd rowT (fewT (rotT (madeT l) m (madeT l).length) j))] trivial ?_
     refine gQ ?_
     refine gS [] [] 134 [(7, vc (slT (rotT (madeT l) m (madeT l).length))), (17, vc (i6 (j : Int))), (18, vo 103), (19, vc (bo false)), (20, vc (i6 0))] [(103, AObj.grow 41 3 TokV tokd rowT (fewT (rotT (madeT l) m (madeT l).length) j))] trivial ?_
     refine AMx.block ?_
     refine AMx.ent (s' := AS.lst 134 [(7, vc (slT (rotT (madeT l) m (madeT l).length))), (17, vc (i6 (j : Int))), (18, vc (slT (fewT (rotT (madeT l) m (madeT l).length) j))), (19, vc (bo false)), (20, vc (i6 0))] []) (ent_freeze (id := 103) (T := 41) (by kernel_rfl)) ?_
     refine AMx.ent (s' := AS.lst 134 [(7, vc (slT (rotT (madeT l) m (madeT l).length))), (17, vc (i6 (j : Int))), (18, vc (slT (fewT (rotT (madeT l) m (madeT l).length) j))), (19, vc (bo false)), (20, vc (i6 0))] []) (ent_proj [7, 17, 18, 19, 20] []) ?_
     refine AMx.loop (fun mm ss => ∃ (k : Nat), (k ≤ (List.length (fewT (rotT (madeT l) m (madeT l).length) j))) ∧ mm = (List.length (fewT (rotT (madeT l) m (madeT l).length) j)) - k ∧ ss = AS.lst 134 [(7, vc (slT (rotT (madeT l) m (madeT l).length))), (17, vc (i6 (j : Int))), (18, vc (slT (fewT (rotT (madeT l) m (madeT l).length) j))), (19, vc (bo (needsT (List.take k (fewT (rotT (madeT l) m (madeT l).length) j)) (List.getD (rotT (madeT l) m (madeT l).length) j tokd).1))), (20, vc (i6 (k : Int)))] []) ⟨0, ?_, rfl, ?_⟩ ?_
     · omega
     · rfl
     rintro mm ss ⟨k, hI, rfl, rfl⟩
     refine gQ ?_
     refine gS [] [] 134 [(7, vc (slT (rotT (madeT l) m (madeT l).length))), (17, vc (i6 (j : Int))), (18, vc (slT (fewT (rotT (madeT l) m (madeT l).length) j))), (19, vc (bo (needsT (List.take k (fewT (rotT (madeT l) m (madeT l).length) j)) (List.getD (rotT (madeT l) m (madeT l).length) j tokd).1))), (20, vc (i6 (k : Int))), (107, vc (bo (decide ((k : Int) < (List.length (fewT (rotT (madeT l) m (madeT l).length) j : List TokV) : Int)))))] [] trivial ?_
     refine gC ((k : Int) < (List.length (fewT (rotT (madeT l) m (madeT l).length) j : List TokV) : Int)) (fun hc6 => ?_) fun hc6 => ?_
     ·
      refine AMx.skip ?_
      refine gQ ?_
      refine AMx.block ?_
      refine gX [] [] [((needsT (List.take k (fewT (rotT (madeT l) m (madeT l).length) j)) (List.getD (rotT (madeT l) m (madeT l).length) j tokd).1) = false) → allP [(needsT (List.take k (fewT (rotT (madeT l) m (madeT l).length) j)) (List.getD (rotT (madeT l) m (madeT l).length) j tokd).1) = false, (needsT (List.take k (fewT (rotT (madeT l) m (madeT l).length) j)) (List.getD (rotT (madeT l) m (madeT l).length) j tokd).1) = false, (0 : Int) ≤ (k : Int), (k : Int) < List.length (fewT (rotT (madeT l) m (madeT l).length) j : List TokV)], ((needsT (List.take k (fewT (rotT (madeT l) m (madeT l).length) j)) (List.getD (rotT (madeT l) m (madeT l).length) j tokd).1) = false) → allP [(needsT (List.take k (fewT (rotT (madeT l) m (madeT l).length) j)) (List.getD (rotT (madeT l) m (madeT l).length) j tokd).1) = false], ((needsT (List.take k (fewT (rotT (madeT l) m (madeT l).length) j)) (List.getD (rotT (madeT l) m (madeT l).length) j tokd).1) = false) → allP [(needsT (List.take k (fewT (rotT (madeT l) m (madeT l).length) j)) (List.getD (rotT (madeT l) m (madeT l).length) j tokd).1) = false], ((needsT (List.take k (fewT (rotT (madeT l) m (madeT l).length) j)) (List.getD (rotT (madeT l) m (madeT l).length) j tokd).1) = false) → allP [(needsT (List.take k (fewT (rotT (madeT l) m (madeT l).length) j)) (List.getD (rotT (madeT l) m (madeT l).length) j tokd).1) = false, (needsT (List.take k (fewT (rotT (madeT l) m (madeT l).length) j)) (List.getD (rotT (madeT l) m (madeT l).length) j tokd).1) = false, (0 : Int) ≤ (j : Int), (j : Int) < List.length (rotT (madeT l) m (madeT l).length : List TokV)], ((needsT (List.take k (fewT (rotT (madeT l) m (madeT l).length) j)) (List.getD (rotT (madeT l) m (madeT l).length) j tokd).1) = false) → allP [(needsT (List.take k (fewT (rotT (madeT l) m (madeT l).length) j)) (List.getD (rotT (madeT l) m (madeT l).length) j tokd).1) = false], ((needsT (List.take k (fewT (rotT (madeT l) m (madeT l).length) j)) (List.getD (rotT (madeT l) m (madeT l).length) j tokd).1) = false) → allP [(needsT (List.take k (fewT (rotT (madeT l) m (madeT l).length) j)) (List.getD (rotT (madeT l) m (madeT l).length) j tokd).1) = false], ((needsT (List.take k (fewT (rotT (madeT l) m (madeT l).length) j)) (List.getD (rotT (madeT l) m (madeT l).length) j tokd).1) = false) → allP [(needsT (List.take k (fewT (rotT (madeT l) m (madeT l).length) j)) (List.getD (rotT (madeT l) m (madeT l).length) j tokd).1) = false, (needsT (List.take k (fewT (rotT (madeT l) m (madeT l).length) j)) (List.getD (rotT (madeT l) m (madeT l).length) j tokd).1) = false], (needsT (List.take k (fewT (rotT (madeT l) m (madeT l).length) j)) (List.getD (rotT (madeT l) m (madeT l).length) j tokd).1) = false → allP [(needsT (List.take k (fewT (rotT (madeT l) m (madeT l).length) j)) (List.getD (rotT (madeT l) m (madeT l).length) j tokd).1) = false]] 134 [(7, vc (slT (rotT (madeT l) m (madeT l).length))), (17, vc (i6 (j : Int))), (18, vc (slT (fewT (rotT (madeT l) m (madeT l).length) j))), (19, vc (bo ((needsT (List.take k (fewT (rotT (madeT l) m (madeT l).length) j)) (List.getD (rotT (madeT l) m (madeT l).length) j tokd).1) || (decide ((List.getD (fewT (rotT (madeT l) m (madeT l).length) j) k tokd).2.1 = (List.getD (rotT (madeT l) m (madeT l).length) j tokd).1))))), (20, vc (i6 (k : Int)))] [] mixed ⟨(fun hp => by have hq := hp; (try simp only [xT, xF, xA, xO, xB, xP, xN, xM, Bool.not_eq_true, Bool.not_eq_false] at hq); exact ⟨hp, hp, (by first | omega | exact text_le | (have z1 := (made_goodA l).few; have z2 := (over_tok hc1).1; have z3 := names_len (madeT l); have z4 := rot_len (madeT l) m (madeT l).length; first | omega | (have z5 := few_len (A := (rotT (madeT l) m (madeT l).length)) (i := j) (by omega); omega) | (rw [hm, (tmod_rot (madeT l) i m (by omega)).1]; have z5 := (tmod_rot (madeT l) i m (by omega)).2; omega) | (have z5 := rot_len (madeT l) m i; (try simp only [List.length_append, List.length_cons, List.length_nil, rot_len, List.length_take, List.length_drop]); omega))), (show (k : Int) < List.length (fewT (rotT (madeT l) m (madeT l).length) j : List TokV) from (by first | omega | exact text_le | (have z1 := (made_goodA l).few; have z2 := (over_tok hc1).1; have z3 := names_len (madeT l); have z4 := rot_len (madeT l) m (madeT l).length; first | omega | (have z5 := few_len (A := (rotT (madeT l) m (madeT l).length)) (i := j) (by omega); omega) | (rw [hm, (tmod_rot (madeT l) i m (by omega)).1]; have z5 := (tmod_rot (madeT l) i m (by omega)).2; omega) | (have z5 := rot_len (madeT l) m i; (try simp only [List.length_append, List.length_cons, List.length_nil, rot_len, List.length_take, List.length_drop]); omega))))⟩), (fun hp => hp), (fun hp => hp), (fun hp => by have hq := hp; (try simp only [xT, xF, xA, xO, xB, xP, xN, xM, Bool.not_eq_true, Bool.not_eq_false] at hq); exact ⟨hp, hp, (by first | omega | exact text_le | (have z1 := (made_goodA l).few; have z2 := (over_tok hc1).1; have z3 := names_len (madeT l); have z4 := rot_len (madeT l) m (madeT l).length; first | omega | (have z5 := few_len (A := (rotT (madeT l) m (madeT l).length)) (i := j) (by omega); omega) | (rw [hm, (tmod_rot (madeT l) i m (by omega)).1]; have z5 := (tmod_rot (madeT l) i m (by omega)).2; omega) | (have z5 := rot_len (madeT l) m i; (try simp only [List.length_append, List.length_cons, List.length_nil, rot_len, List.length_take, List.length_drop]); omega))), (show (j : Int) < List.length (rotT (madeT l) m (madeT l).length : List TokV) from (by first | omega | exact text_le | (have z1 := (made_goodA l).few; have z2 := (over_tok hc1).1; have z3 := names_len (madeT l); have z4 := rot_len (madeT l) m (madeT l).length; first | omega | (have z5 := few_len (A := (rotT (madeT l) m (madeT l).length)) (i := j) (by omega); omega) | (rw [hm, (tmod_rot (madeT l) i m (by omega)).1]; have z5 := (tmod_rot (madeT l) i m (by omega)).2; omega) | (have z5 := rot_len (madeT l) m i; (try simp only [List.length_append, List.length_cons, List.length_nil, rot_len, List.length_take, List.length_drop]); omega))))⟩), (fun hp => hp), (fun hp => hp), (fun hp => ⟨hp, hp⟩), (fun hp2 => (by first | exact hp2 | exact ⟨hp, hp2⟩))⟩ ?_
      refine AMx.blk ?_
      refine gR [] [InR .i64 ((k : Int) + 1)] 134 [(7, vc (slT (rotT (madeT l) m (madeT l).length))), (17, vc (i6 (j : Int))), (18, vc (slT (fewT (rotT (madeT l) m (madeT l).length) j))), (19, vc (bo ((needsT (List.take k (fewT (rotT (madeT l) m (madeT l).length) j)) (List.getD (rotT (madeT l) m (madeT l).length) j tokd).1) || (decide ((List.getD (fewT (rotT (madeT l) m (madeT l).length) j) k tokd).2.1 = (List.getD (rotT (madeT l) m (madeT l).length) j tokd).1))))), (20, vc (i6 ((k : Int) + 1)))] [] (show InR .i64 ((k : Int) + 1) from (inR64 (by first | omega | exact text_le | (have z1 := (made_goodA l).few; have z2 := (over_tok hc1).1; have z3 := names_len (madeT l); have z4 := rot_len (madeT l) m (madeT l).length; first | omega | (have z5 := few_len (A := (rotT (madeT l) m (madeT l).length)) (i := j) (by omega); omega) | (rw [hm, (tmod_rot (madeT l) i m (by omega)).1]; have z5 := (tmod_rot (madeT l) i m (by omega)).2; omega) | (have z5 := rot_len (madeT l) m i; (try simp only [List.length_append, List.length_cons, List.length_nil, rot_len, List.length_take, List.length_drop]); omega))) (by first | omega | exact text_le | (have z1 := (made_goodA l).few; have z2 := (over_tok hc1).1; have z3 := names_len (madeT l); have z4 := rot_len (madeT l) m (madeT l).length; first | omega | (have z5 := few_len (A := (rotT (madeT l) m (madeT l).length)) (i := j) (by omega); omega) | (rw [hm, (tmod_rot (madeT l) i m (by omega)).1]; have z5 := (tmod_rot (madeT l) i m (by omega)).2; omega) | (have z5 := rot_len (madeT l) m i; (try simp only [List.length_append, List.length_cons, List.length_nil, rot_len, List.length_take, List.length_drop]); omega))))) ?_
      refine AMx.ent_inv (s' := AS.lst 134 [(7, vc (slT (rotT (madeT l) m (madeT l).length))), (17, vc (i6 (j : Int))), (18, vc (slT (fewT (rotT (madeT l) m (madeT l).length) j))), (19, vc (bo ((needsT (List.take k (fewT (rotT (madeT l) m (madeT l).length) j)) (List.getD (rotT (madeT l) m (madeT l).length) j tokd).1) || (decide ((List.getD (fewT (rotT (madeT l) m (madeT l).length) j) k tokd).2.1 = (List.getD (rotT (madeT l) m (madeT l).length) j tokd).1))))), (20, vc (i6 ((k : Int) + 1)))] []) (ent_proj [7, 17, 18, 19, 20] []) ?_
      refine AMx.inv ⟨_, ?_, k + 1, ?_, rfl, ?_⟩
      rotate_left
      · omega
      · rw [need_step (by omega)]; rfl
      · omega
     ·
      refine AMx.exit ?_
      refine AMx.code_exit ?_
      refine AMx.inv_exit ?_
      refine AMx.blk_exit ?_
      rw [show List.take k (fewT (rotT (madeT l) m (madeT l).length) j) = (fewT (rotT (madeT l) m (madeT l).length) j) from List.take_of_length_le (by omega)]
      refine gS [(1, CE.call [] [] (AV.tup [TV.agg [.s (slT ((loadT (fewT (rotT (madeT l) m (madeT l).length) j)).1))], tc (i6 ((loadT (fewT (rotT (madeT l) m (madeT l).length) j)).2))]) [])] [Spec Tryz.prog 34 [tc (slT (fewT (rotT (madeT l) m (madeT l).length) j))] (ofH []) (AV.tup [TV.agg [.s (slT ((loadT (fewT (rotT (madeT l) m (madeT l).length) j)).1))], tc (i6 ((loadT (fewT (rotT (madeT l) m (madeT l).length) j)).2))]) (ofH [])] 134 [(7, vc (slT (rotT (madeT l) m (madeT l).length))), (17, vc (i6 (j : Int))), (19, vc (bo (needsT (fewT (rotT (madeT l) m (madeT l).length) j) (List.getD (rotT (madeT l) m (madeT l).length) j tokd).1))), (22, vc (i6 ((loadT (fewT (rotT (madeT l) m (madeT l).length) j)).2)))] [] (Load_c (fewT (rotT (madeT l) m (madeT l).length) j) (by first | omega | exact text_le | (have z1 := (made_goodA l).few; have z2 := (over_tok hc1).1; have z3 := names_len (madeT l); have z4 := rot_len (madeT l) m (madeT l).length; first | omega | (have z5 := few_len (A := (rotT (madeT l) m (madeT l).length)) (i := j) (by omega); omega) | (rw [hm, (tmod_rot (madeT l) i m (by omega)).1]; have z5 := (tmod_rot (madeT l) i m (by omega)).2; omega) | (have z5 := rot_len (madeT l) m i; (try simp only [List.length_append, List.length_cons, List.length_nil, rot_len, List.length_take, List.length_drop]); omega)))) ?_
      refine gS [] [] 134 [(7, vc (slT (rotT (madeT l) m (madeT l).length))), (17, vc (i6 (j : Int))), (132, vc (bo ((decide ((loadT (fewT (rotT (madeT l) m (madeT l).length) j)).2 = 0)) == (needsT (fewT (rotT (madeT l) m (madeT l).length) j) (List.getD (rotT (madeT l) m (madeT l).length) j tokd).1))))] [] trivial ?_
      refine gB (((decide ((loadT (fewT (rotT (madeT l) m (madeT l).length) j)).2 = 0)) == (needsT (fewT (rotT (madeT l) m (madeT l).length) j) (List.getD (rotT (madeT l) m (madeT l).length) j tokd).1))) (fun hc7 => ?_) fun hc7 => ?_
      ·
       try simp only [xT, xF] at hc7
       refine gS [] [] 134 [(4, vc (bo false))] [] trivial ?_
       exact gT (vc (bo false)) (by exfalso; have hz := hc7; first | (simp at hz; done) | (have z1 := (made_goodA l).few; have z2 := (over_tok hc1).1; have z3 := names_len (madeT l); have z4 := rot_len (madeT l) m (madeT l).length; rw [few_load (made_goodA l).wf (made_goodA l).rise (rot_perm _ _) (by omega)] at hz; revert hz; generalize needsT (fewT (rotT (madeT l) m (madeT l).length) j) (List.getD (rotT (madeT l) m (madeT l).length) j tokd).1 = b; cases b <;> simp))
      ·
       try simp only [xT, xF] at hc7
       refine AMx.skip ?_
       refine AMx.blk ?_
       refine gR [] [InR .i64 ((j : Int) + 1)] 134 [(7, vc (slT (rotT (madeT l) m (madeT l).length))), (17, vc (i6 ((j : Int) + 1)))] [] (show InR .i64 ((j : Int) + 1) from (inR64 (by first | omega | exact text_le | (have z1 := (made_goodA l).few; have z2 := (over_tok hc1).1; have z3 := names_len (madeT l); have z4 := rot_len (madeT l) m (madeT l).length; first | omega | (have z5 := few_len (A := (rotT (madeT l) m (madeT l).length)) (i := j) (by omega); omega) | (rw [hm, (tmod_rot (madeT l) i m (by omega)).1]; have z5 := (tmod_rot (madeT l) i m (by omega)).2; omega) | (have z5 := rot_len (madeT l) m i; (try simp only [List.length_append, List.length_cons, List.length_nil, rot_len, List.length_take, List.length_drop]); omega))) (by first | omega | exact text_le | (have z1 := (made_goodA l).few; have z2 := (over_tok hc1).1; have z3 := names_len (madeT l); have z4 := rot_len (madeT l) m (madeT l).length; first | omega | (have z5 := few_len (A := (rotT (madeT l) m (madeT l).length)) (i := j) (by omega); omega) | (rw [hm, (tmod_rot (madeT l) i m (by omega)).1]; have z5 := (tmod_rot (madeT l) i m (by omega)).2; omega) | (have z5 := rot_len (madeT l) m i; (try simp only [List.length_append, List.length_cons, List.length_nil, rot_len, List.length_take, List.length_drop]); omega))))) ?_
       refine AMx.ent_inv (s' := AS.lst 134 [(7, vc (slT (rotT (madeT l) m (madeT l).length))), (17, vc (i6 ((j : Int) + 1)))] []) (ent_proj [7, 17] []) ?_
       refine AMx.inv ⟨_, ?_, j + 1, ?_, rfl, ?_⟩
       rotate_left
       · omega
       · rfl
       · omega
    ·
     refine AMx.exit ?_
     refine AMx.code_exit ?_
     refine AMx.inv_exit ?_
     refine AMx.blk_exit ?_
     refine gS [(0, CE.call [] [] (vc (bo true)) [])] [Spec Tryz.prog 10 [] (ofH []) (vc (bo true)) (ofH [])] 134 [(4, vc (bo true))] [] (awake_c) ?_
     exact gT (vc (bo true)) rfl
end AL.Token
namespace AL
open Go
set_option linter.unusedVariables false
theorem len_sized {P : Program} {H : Type} {enc : TypeId × Value → H} {w : World} {spare : Nat → Bool} {held : Bool} {t e : TypeId} {ts : List TypeId} {ds : List (DataW H)} {d : DataW H} {ps : List MemPlace} {a : Option Addr} {n cap : Nat}
    (hz : (DataW.weightsEach P ts ds).all (· ≤ reachBytes) = true) (j : Nat) (ht : ts[j]? = some t) (hd : ds[j]? = some d) (hu : P.underlying t = some (.slice e)) (h : DataW.Trod enc P w 0 spare held t (.slice a n cap) d ps) :
    n * P.bytesOf e ≤ 140737488351232 := by
  obtain ⟨fuel, hf⟩ := h
  have hc : (Value.slice a n cap).cells.toList = [Value.slice a n cap] := rfl
  rw [hc] at hf
  rcases DataW.trod_slice hu hf with ⟨h1, _⟩ | ⟨a', len, cap', elems, rest, m, _, h1, h2, _, _, _, hl, _⟩
  · cases h1
    omega
  · cases h1
    have hd' : d = .slice (elems.map (·.1)) (rest.map (·.1)) := (Prod.mk.inj h2).1
    subst hd'
    have := sized_slice hz ht hd hu
    rw [List.length_map, List.length_map, hl, Nat.add_mul] at this
    have hr : reachBytes = 140737488351232 := by decide
    omega
theorem sl_len {I : Nat → Prop} {w : World} {k : Nat} {α : Type} {d : α} {row : α → Nat → SC} {l : List α} {a : Option Addr} {n cap : Nat} (h : MS I w (.sl k α d row l) (.slice a n cap)) : n = l.length := by
  obtain ⟨a', cap', h1, _⟩ := h
  cases h1; rfl
end AL
