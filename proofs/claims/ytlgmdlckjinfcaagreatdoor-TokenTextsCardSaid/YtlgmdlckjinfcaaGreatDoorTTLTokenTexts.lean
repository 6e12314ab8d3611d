/- The law TokenTexts: her contract, joined to her statement. No condition. -/
import Derived.Test.YtlgmdlckjinfcaaGreatDoorTTe
import Derived.Test.YtlgmdlckjinfcaaGreatDoorCards
import Derived.Test.YtlgmdlckjinfcaaGreatDoorTie
namespace Go.Proofs.YtlgmdlckjinfcaaGreatDoor.tokenTexts
open Go Go.Proofs Go.ChangeShapes Go.WideShapes Go.ChangeAt Go.RowKit AL AL.Token AL.Fnv
set_option linter.unusedVariables false
set_option linter.unusedSimpArgs false

set_option maxRecDepth 100000 in
theorem lifted (os : Os) (started : os.Started) (H : Type) (enc : TypeId × Value → H) :
    ReturnsInHanded {} Tryz.checked os 6 .any (fun w args => (Rows.tokenTextsSpec.pre enc Tryz.prog Tryz.f6 Rows.tokenTextsRow.domain false w args ∧ laidMetH Tryz.prog Rows.tokenTextsRow.laid w) ∧ sizedMet enc Tryz.prog Tryz.f6 (OpenSpec.ofChange Rows.tokenTextsSpec) false w args) (Rows.tokenTextsSpec.post enc Tryz.prog Tryz.f6 false true false false) := by
  refine returnsInHanded_of_change_and (C := Tryz.checked) (X := fun w _ => laidMetH Tryz.prog Rows.tokenTextsRow.laid w) (fun _ _ _ hh h => h.of_heap hh) AL.own started (by kernel_rfl) Tryz.func6
    (ChangeSpec.witness_shaped (enc := enc) (C := Tryz.checked) (os := os) (X := fun w _ => laidMetH Tryz.prog Rows.tokenTextsRow.laid w) false (World.laidAll Tryz.prog os Rows.tokenTextsRow.laid) #[.slice none 0 0, .string ByteArray.empty, .string ByteArray.empty] 8 (World.laidAll_os _ _ _)
      (World.shaped_of_ZipB (by kernel_rfl) (by kernel_rfl)) (by kernel_rfl) (by kernel_rfl) (by kernel_rfl)
      (by rw [MakeChecks.laidMetH_plain _ _ _ (by kernel_rfl)]; exact laidMet_laidAll _ (by kernel_rfl) (by kernel_rfl))) ?_
  intro W base args ds gs before hval0 hW hcnd _ hL _
  rw [MakeChecks.laidMetH_plain _ _ _ (by kernel_rfl)] at hL
  have hT : Go.Lib.Utf8Tabs (Tryz.lays260_ren.g 3) (Tryz.lays260_ren.g 4) W := utf8Tabs_of_reads Tryz.lays260 AL.x8 (by rw [← AL.first_eq]; exact Go.Lib.laidMet.reads hL (List.mem_cons_of_mem _ (List.mem_cons_self ..))) (by rw [← AL.acc_eq]; exact Go.Lib.laidMet.reads hL (List.mem_cons_self ..))
  have hval : ∀ (j : Nat) t v, Tryz.f6.params[j]? = some t → args[j]? = some v → Value.okWide Tryz.prog W .any base t v := hval0
  have hW' := hW
  obtain ⟨p, q, hA0, hV, rfl, hfz, hnd⟩ := hW
  have hA : DataW.TrodAll enc Tryz.prog W 0 (fun _ => true) true Tryz.f6.params.toList args.toList ds p := hA0
  rw [Tryz.params6] at hA hval
  obtain ⟨v0, vs0, d0, ds0, p0, q0, hargs, rfl, rfl, h0, r0⟩ := trodAll_cons hA
  obtain ⟨v1, vs1, d1, ds1, p1, q1, rfl, rfl, rfl, h1, r1⟩ := trodAll_cons r0
  obtain ⟨v2, vs2, d2, ds2, p2, q2, rfl, rfl, rfl, h2, r2⟩ := trodAll_cons r1
  obtain ⟨rfl, rfl, rfl⟩ := trodAll_nil r2
  obtain rfl : args = #[v0, v1, v2] := by cases args; simp_all
  obtain ⟨rfl, rfl⟩ := trodVars_none hV
  have k0 := h0
  have lt0 : ∀ x ∈ p0, x.block < W.heap.size := by obtain ⟨m, hm⟩ := k0; exact DataW.trod_lt m _ _ _ hm
  obtain ⟨m0, m0l, m0c, rfl⟩ := okWide_slice Tryz.underlying24 (hval 0 24 v0 rfl rfl)
  obtain ⟨x0, hx0⟩ := Reads.arg (Reads.slice (k := 3) (row := AL.Token.rowT) (AL.Token.tokd : AL.Token.TokV) (Reads.struct (n := 3) (row0 := AL.Token.rowT) Tryz.underlying34 (by kernel_rfl) (ReadsF.cons (k := 1) (Reads.str Tryz.underlying9 (by kernel_rfl)) (by kernel_rfl) (by kernel_rfl) (ReadsF.cons (k := 1) (Reads.str Tryz.underlying9 (by kernel_rfl)) (by kernel_rfl) (by kernel_rfl) (ReadsF.cons (k := 1) (Reads.slice (k := 2) (row := AL.Policy.rowP) (([], 0) : AL.Policy.RuleV) (Reads.struct (n := 2) (row0 := AL.Policy.rowP) Tryz.underlying82 (by kernel_rfl) (ReadsF.cons (k := 1) (Reads.str Tryz.underlying9 (by kernel_rfl)) (by kernel_rfl) (by kernel_rfl) (ReadsF.cons (k := 1) (Reads.int Tryz.underlying5 (by kernel_rfl)) (by kernel_rfl) (by kernel_rfl) ReadsF.nil)) (fun x => (⟨x.1, x.2.1⟩ : AL.Policy.RuleV)) (fun a i hi => match i, hi with | 0, _ => rfl | 1, _ => rfl | _ + 2, h => absurd h (by omega))) Tryz.underlying32 (by kernel_rfl) (by kernel_rfl) (by decide)) (by kernel_rfl) (by kernel_rfl) ReadsF.nil))) (fun x => (⟨x.1, x.2.1, x.2.2.1⟩ : AL.Token.TokV)) (fun a i hi => match i, hi with | 0, _ => rfl | 1, _ => rfl | 2, _ => rfl | _ + 3, h => absurd h (by omega))) Tryz.underlying24 (by kernel_rfl) (by kernel_rfl) (by decide)) k0 rfl
  have k1 := h1
  have lt1 : ∀ x ∈ p1, x.block < W.heap.size := by obtain ⟨m, hm⟩ := k1; exact DataW.trod_lt m _ _ _ hm
  obtain ⟨m1, rfl⟩ := okWide_string Tryz.underlying9 (hval 1 9 v1 rfl rfl)
  obtain ⟨x1, hx1⟩ := Reads.arg (Reads.str Tryz.underlying9 (by kernel_rfl)) k1 rfl
  have k2 := h2
  have lt2 : ∀ x ∈ p2, x.block < W.heap.size := by obtain ⟨m, hm⟩ := k2; exact DataW.trod_lt m _ _ _ hm
  obtain ⟨m2, rfl⟩ := okWide_string Tryz.underlying9 (hval 2 9 v2 rfl rfl)
  obtain ⟨x2, hx2⟩ := Reads.arg (Reads.str Tryz.underlying9 (by kernel_rfl)) k2 rfl
  refine (law_walk (w := W) (cargs := #[_, _, _]) (AL.Token.TokenTexts_c x0 x1 x2) (AL.glob_of hT) ⟨hx0, hx1, hx2, trivial⟩).mono fun e W' ⟨he, bel⟩ => ?_
  subst he
  exact ⟨_, rfl, _, _, _, [], _, [], hW', trodAll_mk1 (shut_bool Tryz.underlying4 _), (trodAll_cons_mk (Below.trod AL.laidOut (by kernel_rfl) (of_decide_eq_true (by kernel_rfl)) k0 bel lt0) (trodAll_cons_mk (Below.trod AL.laidOut (by kernel_rfl) (of_decide_eq_true (by kernel_rfl)) k1 bel lt1) (trodAll_cons_mk (Below.trod AL.laidOut (by kernel_rfl) (of_decide_eq_true (by kernel_rfl)) k2 bel lt2) trodAll_mk0))), rfl, bel.frame _, fun h => by cases h⟩

theorem facts1 : closureFacts Tryz.prog 6 Rows.tokenTextsRow = true := by kernel_rfl
theorem facts2 : rowFacts Tryz.prog Tryz.f6 Rows.tokenTextsSpec Rows.tokenTextsRow = true := by kernel_rfl
theorem over : Rows.tokenTextsRow.holds Tryz.pinned (OpenSpec.ofChange Rows.tokenTextsSpec) :=
  OpenClaim.holds_of_wide 6 Tryz.f6 rfl rfl rfl rfl rfl rfl rfl ⟨rfl, rfl, rfl, rfl, rfl⟩ rfl rfl rfl rfl rfl (by kernel_rfl) Tryz.func6 (joined facts1 facts2 rfl rfl)
    (of_decide_eq_true (by kernel_rfl)) (by unfold Func.isWrapper; first | (rw [if_pos (by decide +kernel)]; kernel_rfl) | (rw [if_neg (by decide +kernel)]; exact ⟨rfl, rfl⟩))
    (fun os started H enc _ => lifted os started H enc)

theorem proved : Rows.TokenTextsCardSaid :=
  Claim7.holds_tied_plain_at .later [] [.data, .pinned] true (true, "04768387b21e2525acafbaaeae3534ab3438b5d542c0a5b77d43531e1eb32e5b") false over (fun _ h => by cases h) (by kernel_rfl) (fun _ h => by cases h) tokenTexts_row_tie rfl ⟨rfl, rfl⟩ (by kernel_rfl) rfl
    (fun f fn hf hfn => by
      obtain rfl : f = 6 := Option.some.inj ((show Tryz.prog.funcNamed Rows.tokenTextsRow.func = some 6 by kernel_rfl).symm.trans hf) |>.symm
      obtain rfl : fn = Tryz.f6 := (Option.some.inj (Tryz.func6.symm.trans hfn)).symm
      exact ⟨by kernel_rfl, fun j t ht => by
        rw [Tryz.params6] at ht
        have hm : t ∈ [24, 9, 9] := by simpa using Array.mem_of_getElem? ht
        have hall : ([24, 9, 9].all fun u => !Tryz.prog.wantsStandIn u) = true := by kernel_rfl
        exact (show Tryz.prog.wantsStandIn t = false by simpa using List.all_eq_true.1 hall t hm)⟩)
    (by kernel_rfl)
end Go.Proofs.YtlgmdlckjinfcaaGreatDoor.tokenTexts
