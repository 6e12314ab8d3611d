/- The law AskSpoils: her contract, joined to her statement. No condition. -/
import Derived.Test.YtiiiecdfganahaaDoorAskLs
import Derived.Test.YtiiiecdfganahaaDoorAL37
import Derived.Test.YtiiiecdfganahaaDoorCards
import Derived.Test.YtiiiecdfganahaaDoorTie
import Derived.Test.YtiiiecdfganahaaDoorAL35
namespace Go.Proofs.YtiiiecdfganahaaDoor.askSpoils
open Go Go.Proofs Go.ChangeShapes Go.WideShapes Go.ChangeAt Go.RowKit AL AL.Ask AL.Fnv
set_option linter.unusedVariables false
set_option linter.unusedSimpArgs false

set_option maxRecDepth 100000 in
theorem lifted (os : Os) (started : os.Started) (H : Type) (enc : TypeId × Value → H) :
    ReturnsInHanded {} Tryd.checked os 5 .any (fun w args => (Rows.askSpoilsSpec.pre enc Tryd.prog Tryd.f5 Rows.askSpoilsRow.domain false w args ∧ laidMetH Tryd.prog Rows.askSpoilsRow.laid w) ∧ sizedMet enc Tryd.prog Tryd.f5 (OpenSpec.ofChange Rows.askSpoilsSpec) false w args) (Rows.askSpoilsSpec.post enc Tryd.prog Tryd.f5 false true false false) := by
  refine returnsInHanded_of_change_and (C := Tryd.checked) (X := fun w _ => laidMetH Tryd.prog Rows.askSpoilsRow.laid w) (fun _ _ _ hh h => h.of_heap hh) AL.own started (by kernel_rfl) Tryd.func5
    (ChangeSpec.witness_shaped (enc := enc) (C := Tryd.checked) (os := os) (X := fun w _ => laidMetH Tryd.prog Rows.askSpoilsRow.laid w) false (World.laidAll Tryd.prog os Rows.askSpoilsRow.laid) #[.agg #[.int .u8 0, .string ByteArray.empty, .string ByteArray.empty, .string ByteArray.empty, .int .i64 0, .int .i64 0, .bool false, .slice none 0 0, .string ByteArray.empty, .slice none 0 0, .string ByteArray.empty], .int .u16 0] 8 (World.laidAll_os _ _ _)
      (World.shaped_of_ZipB (by kernel_rfl) (by kernel_rfl)) (by kernel_rfl) (by kernel_rfl) (by kernel_rfl)
      (by rw [MakeChecks.laidMetH_plain _ _ _ (by kernel_rfl)]; exact laidMet_laidAll _ (by kernel_rfl) (by kernel_rfl))) ?_
  intro W base args ds gs before hval0 hW hcnd _ hL _
  rw [MakeChecks.laidMetH_plain _ _ _ (by kernel_rfl)] at hL
  have hT : Go.Lib.Utf8Tabs (Tryd.lays260_ren.g 3) (Tryd.lays260_ren.g 4) W := utf8Tabs_of_reads Tryd.lays260 AL.x8 (by rw [← AL.first_eq]; exact Go.Lib.laidMet.reads hL (List.mem_cons_of_mem _ (List.mem_cons_self ..))) (by rw [← AL.acc_eq]; exact Go.Lib.laidMet.reads hL (List.mem_cons_self ..))
  have hval : ∀ (j : Nat) t v, Tryd.f5.params[j]? = some t → args[j]? = some v → Value.okWide Tryd.prog W .any base t v := hval0
  have hW' := hW
  obtain ⟨p, q, hA0, hV, rfl, hfz, hnd⟩ := hW
  have hA : DataW.TrodAll enc Tryd.prog W 0 (fun _ => true) true Tryd.f5.params.toList args.toList ds p := hA0
  rw [Tryd.params5] at hA hval
  obtain ⟨v0, vs0, d0, ds0, p0, q0, hargs, rfl, rfl, h0, r0⟩ := trodAll_cons hA
  obtain ⟨v1, vs1, d1, ds1, p1, q1, rfl, rfl, rfl, h1, r1⟩ := trodAll_cons r0
  obtain ⟨rfl, rfl, rfl⟩ := trodAll_nil r1
  obtain rfl : args = #[v0, v1] := by cases args; simp_all
  obtain ⟨rfl, rfl⟩ := trodVars_none hV
  have k0 := h0
  have lt0 : ∀ x ∈ p0, x.block < W.heap.size := by obtain ⟨m, hm⟩ := k0; exact DataW.trod_lt m _ _ _ hm
  obtain ⟨m0, rfl⟩ := okWide_st Tryd.underlying30 (hval 0 30 v0 rfl rfl)
  obtain ⟨x0, hx0⟩ := Reads.agg (k := 11) (Reads.struct (n := 11) (row0 := rowA) Tryd.underlying30 (by kernel_rfl) (ReadsF.cons (k := 1) (Reads.int Tryd.underlying5 (by kernel_rfl)) (by kernel_rfl) (by kernel_rfl) (ReadsF.cons (k := 1) (Reads.str Tryd.underlying9 (by kernel_rfl)) (by kernel_rfl) (by kernel_rfl) (ReadsF.cons (k := 1) (Reads.str Tryd.underlying9 (by kernel_rfl)) (by kernel_rfl) (by kernel_rfl) (ReadsF.cons (k := 1) (Reads.str Tryd.underlying9 (by kernel_rfl)) (by kernel_rfl) (by kernel_rfl) (ReadsF.cons (k := 1) (Reads.int Tryd.underlying3 (by kernel_rfl)) (by kernel_rfl) (by kernel_rfl) (ReadsF.cons (k := 1) (Reads.int Tryd.underlying3 (by kernel_rfl)) (by kernel_rfl) (by kernel_rfl) (ReadsF.cons (k := 1) (Reads.bool Tryd.underlying4 (by kernel_rfl)) (by kernel_rfl) (by kernel_rfl) (ReadsF.cons (k := 1) (Reads.slice (k := 1) (row := AL.Fnv.rowI) (0 : Int) (Reads.int Tryd.underlying3 (by kernel_rfl)) Tryd.underlying27 (by kernel_rfl) (by kernel_rfl) (by decide)) (by kernel_rfl) (by kernel_rfl) (ReadsF.cons (k := 1) (Reads.str Tryd.underlying9 (by kernel_rfl)) (by kernel_rfl) (by kernel_rfl) (ReadsF.cons (k := 1) (Reads.slice (k := 2) (row := Policy.rowP) (([], 0) : Policy.RuleV) (Reads.struct (n := 2) (row0 := Policy.rowP) Tryd.underlying64 (by kernel_rfl) (ReadsF.cons (k := 1) (Reads.str Tryd.underlying9 (by kernel_rfl)) (by kernel_rfl) (by kernel_rfl) (ReadsF.cons (k := 1) (Reads.int Tryd.underlying5 (by kernel_rfl)) (by kernel_rfl) (by kernel_rfl) ReadsF.nil)) (fun x => (⟨x.1, x.2.1⟩ : Policy.RuleV)) (fun a i hi => match i, hi with | 0, _ => rfl | 1, _ => rfl | _ + 2, h => absurd h (by omega))) Tryd.underlying28 (by kernel_rfl) (by kernel_rfl) (by decide)) (by kernel_rfl) (by kernel_rfl) (ReadsF.cons (k := 1) (Reads.str Tryd.underlying9 (by kernel_rfl)) (by kernel_rfl) (by kernel_rfl) ReadsF.nil))))))))))) (fun x => (⟨x.1, x.2.1, x.2.2.1, x.2.2.2.1, x.2.2.2.2.1, x.2.2.2.2.2.1, x.2.2.2.2.2.2.1, x.2.2.2.2.2.2.2.1, x.2.2.2.2.2.2.2.2.1, x.2.2.2.2.2.2.2.2.2.1, x.2.2.2.2.2.2.2.2.2.2.1⟩ : AskV)) (fun a i hi => match i, hi with | 0, _ => rfl | 1, _ => rfl | 2, _ => rfl | 3, _ => rfl | 4, _ => rfl | 5, _ => rfl | 6, _ => rfl | 7, _ => rfl | 8, _ => rfl | 9, _ => rfl | 10, _ => rfl | _ + 11, h => absurd h (by omega))) (by kernel_rfl) k0
  have k1 := h1
  have lt1 : ∀ x ∈ p1, x.block < W.heap.size := by obtain ⟨m, hm⟩ := k1; exact DataW.trod_lt m _ _ _ hm
  obtain ⟨m1, rfl⟩ := okWide_int Tryd.underlying44 (hval 1 44 v1 rfl rfl)
  obtain ⟨x1, hx1⟩ := Reads.arg (Reads.int Tryd.underlying44 (by kernel_rfl)) k1 rfl
  refine (law_walk (w := W) (cargs := #[_, _]) (AL.Ask.AskSpoils_c x0 x1) (AL.glob_of hT) ⟨hx0, hx1, trivial⟩).mono fun e W' ⟨he, bel⟩ => ?_
  subst he
  exact ⟨_, rfl, _, _, _, [], _, [], hW', trodAll_mk1 (shut_bool Tryd.underlying4 _), (trodAll_cons_mk (Below.trod AL.laidOut (by kernel_rfl) (of_decide_eq_true (by kernel_rfl)) k0 bel lt0) (trodAll_cons_mk (Below.trod AL.laidOut (by kernel_rfl) (of_decide_eq_true (by kernel_rfl)) k1 bel lt1) trodAll_mk0)), rfl, bel.frame _, fun h => by cases h⟩

theorem facts1 : closureFacts Tryd.prog 5 Rows.askSpoilsRow = true := by kernel_rfl
theorem facts2 : rowFacts Tryd.prog Tryd.f5 Rows.askSpoilsSpec Rows.askSpoilsRow = true := by kernel_rfl
theorem over : Rows.askSpoilsRow.holds Tryd.pinned (OpenSpec.ofChange Rows.askSpoilsSpec) :=
  OpenClaim.holds_of_wide 5 Tryd.f5 rfl rfl rfl rfl rfl rfl rfl ⟨rfl, rfl, rfl, rfl, rfl⟩ rfl rfl rfl rfl rfl (by kernel_rfl) Tryd.func5 (joined facts1 facts2 rfl rfl)
    (of_decide_eq_true (by kernel_rfl)) (by unfold Func.isWrapper; first | (rw [if_pos (by decide +kernel)]; kernel_rfl) | (rw [if_neg (by decide +kernel)]; exact ⟨rfl, rfl⟩))
    (fun os started H enc _ => lifted os started H enc)

theorem proved : Rows.AskSpoilsCardSaid :=
  Claim7.holds_tied_plain_at .later [] [.data, .pinned] true (true, "17a7fc0544877f1af70b1a15a634031b272a647aaf35f13e59fc57491c80adc7") false over (fun _ h => by cases h) (by kernel_rfl) (fun _ h => by cases h) askSpoils_row_tie rfl ⟨rfl, rfl⟩ (by kernel_rfl) rfl
    (fun f fn hf hfn => by
      obtain rfl : f = 5 := Option.some.inj ((show Tryd.prog.funcNamed Rows.askSpoilsRow.func = some 5 by kernel_rfl).symm.trans hf) |>.symm
      obtain rfl : fn = Tryd.f5 := (Option.some.inj (Tryd.func5.symm.trans hfn)).symm
      exact ⟨by kernel_rfl, fun j t ht => by
        rw [Tryd.params5] at ht
        have hm : t ∈ [30, 44] := by simpa using Array.mem_of_getElem? ht
        have hall : ([30, 44].all fun u => !Tryd.prog.wantsStandIn u) = true := by kernel_rfl
        exact (show Tryd.prog.wantsStandIn t = false by simpa using List.all_eq_true.1 hall t hm)⟩)
    (by kernel_rfl)
end Go.Proofs.YtiiiecdfganahaaDoor.askSpoils
