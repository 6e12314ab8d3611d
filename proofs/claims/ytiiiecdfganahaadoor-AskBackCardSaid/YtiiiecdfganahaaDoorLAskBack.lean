/- The law AskBack: her contract, joined to her statement. No condition. -/
import Derived.Test.YtiiiecdfganahaaDoorAskLb
import Derived.Test.YtiiiecdfganahaaDoorAL37
import Derived.Test.YtiiiecdfganahaaDoorCards
import Derived.Test.YtiiiecdfganahaaDoorTie
import Derived.Test.YtiiiecdfganahaaDoorAL35
namespace Go.Proofs.YtiiiecdfganahaaDoor.askBack
open Go Go.Proofs Go.ChangeShapes Go.WideShapes Go.ChangeAt Go.RowKit AL AL.Ask AL.Fnv
set_option linter.unusedVariables false
set_option linter.unusedSimpArgs false

set_option maxRecDepth 100000 in
theorem lifted (os : Os) (started : os.Started) (H : Type) (enc : TypeId × Value → H) :
    ReturnsInHanded {} Tryd.checked os 4 .any (fun w args => (Rows.askBackSpec.pre enc Tryd.prog Tryd.f4 Rows.askBackRow.domain false w args ∧ laidMetH Tryd.prog Rows.askBackRow.laid w) ∧ sizedMet enc Tryd.prog Tryd.f4 (OpenSpec.ofChange Rows.askBackSpec) false w args) (Rows.askBackSpec.post enc Tryd.prog Tryd.f4 false true false false) := by
  refine returnsInHanded_of_change_and (C := Tryd.checked) (X := fun w _ => laidMetH Tryd.prog Rows.askBackRow.laid w) (fun _ _ _ hh h => h.of_heap hh) AL.own started (by kernel_rfl) Tryd.func4
    (ChangeSpec.witness_shaped (enc := enc) (C := Tryd.checked) (os := os) (X := fun w _ => laidMetH Tryd.prog Rows.askBackRow.laid w) false (World.laidAll Tryd.prog os Rows.askBackRow.laid) #[.agg #[.int .u8 0, .string ByteArray.empty, .string ByteArray.empty, .string ByteArray.empty, .int .i64 0, .int .i64 0, .bool false, .slice none 0 0, .string ByteArray.empty, .slice none 0 0, .string ByteArray.empty], .agg #[.int .u8 0, .string ByteArray.empty, .string ByteArray.empty, .string ByteArray.empty, .int .i64 0, .int .i64 0, .bool false, .slice none 0 0, .string ByteArray.empty, .slice none 0 0, .string ByteArray.empty], .string ByteArray.empty] 8 (World.laidAll_os _ _ _)
      (World.shaped_of_ZipB (by kernel_rfl) (by kernel_rfl)) (by kernel_rfl) (by kernel_rfl) (by kernel_rfl)
      (by rw [MakeChecks.laidMetH_plain _ _ _ (by kernel_rfl)]; exact laidMet_laidAll _ (by kernel_rfl) (by kernel_rfl))) ?_
  intro W base args ds gs before hval0 hW hcnd _ hL _
  rw [MakeChecks.laidMetH_plain _ _ _ (by kernel_rfl)] at hL
  have hT : Go.Lib.Utf8Tabs (Tryd.lays260_ren.g 3) (Tryd.lays260_ren.g 4) W := utf8Tabs_of_reads Tryd.lays260 AL.x8 (by rw [← AL.first_eq]; exact Go.Lib.laidMet.reads hL (List.mem_cons_of_mem _ (List.mem_cons_self ..))) (by rw [← AL.acc_eq]; exact Go.Lib.laidMet.reads hL (List.mem_cons_self ..))
  have hval : ∀ (j : Nat) t v, Tryd.f4.params[j]? = some t → args[j]? = some v → Value.okWide Tryd.prog W .any base t v := hval0
  have hW' := hW
  obtain ⟨p, q, hA0, hV, rfl, hfz, hnd⟩ := hW
  have hA : DataW.TrodAll enc Tryd.prog W 0 (fun _ => true) true Tryd.f4.params.toList args.toList ds p := hA0
  rw [Tryd.params4] at hA hval
  obtain ⟨v0, vs0, d0, ds0, p0, q0, hargs, rfl, rfl, h0, r0⟩ := trodAll_cons hA
  obtain ⟨v1, vs1, d1, ds1, p1, q1, rfl, rfl, rfl, h1, r1⟩ := trodAll_cons r0
  obtain ⟨v2, vs2, d2, ds2, p2, q2, rfl, rfl, rfl, h2, r2⟩ := trodAll_cons r1
  obtain ⟨rfl, rfl, rfl⟩ := trodAll_nil r2
  obtain rfl : args = #[v0, v1, v2] := by cases args; simp_all
  obtain ⟨rfl, rfl⟩ := trodVars_none hV
  have k0 := h0
  have lt0 : ∀ x ∈ p0, x.block < W.heap.size := by obtain ⟨m, hm⟩ := k0; exact DataW.trod_lt m _ _ _ hm
  obtain ⟨m0, rfl⟩ := okWide_st Tryd.underlying30 (hval 0 30 v0 rfl rfl)
  obtain ⟨x0, hx0⟩ := Reads.agg (k := 11) (Reads.struct (n := 11) (row0 := rowA) Tryd.underlying30 (by kernel_rfl) (ReadsF.cons (k := 1) (Reads.int Tryd.underlying5 (by kernel_rfl)) (by kernel_rfl) (by kernel_rfl) (ReadsF.cons (k := 1) (Reads.str Tryd.underlying9 (by kernel_rfl)) (by kernel_rfl) (by kernel_rfl) (ReadsF.cons (k := 1) (Reads.str Tryd.underlying9 (by kernel_rfl)) (by kernel_rfl) (by kernel_rfl) (ReadsF.cons (k := 1) (Reads.str Tryd.underlying9 (by kernel_rfl)) (by kernel_rfl) (by kernel_rfl) (ReadsF.cons (k := 1) (Reads.int Tryd.underlying3 (by kernel_rfl)) (by kernel_rfl) (by kernel_rfl) (ReadsF.cons (k := 1) (Reads.int Tryd.underlying3 (by kernel_rfl)) (by kernel_rfl) (by kernel_rfl) (ReadsF.cons (k := 1) (Reads.bool Tryd.underlying4 (by kernel_rfl)) (by kernel_rfl) (by kernel_rfl) (ReadsF.cons (k := 1) (Reads.slice (k := 1) (row := AL.Fnv.rowI) (0 : Int) (Reads.int Tryd.underlying3 (by kernel_rfl)) Tryd.underlying27 (by kernel_rfl) (by kernel_rfl) (by decide)) (by kernel_rfl) (by kernel_rfl) (ReadsF.cons (k := 1) (Reads.str Tryd.underlying9 (by kernel_rfl)) (by kernel_rfl) (by kernel_rfl) (ReadsF.cons (k := 1) (Reads.slice (k := 2) (row := Policy.rowP) (([], 0) : Policy.RuleV) (Reads.struct (n := 2) (row0 := Policy.rowP) Tryd.underlying64 (by kernel_rfl) (ReadsF.cons (k := 1) (Reads.str Tryd.underlying9 (by kernel_rfl)) (by kernel_rfl) (by kernel_rfl) (ReadsF.cons (k := 1) (Reads.int Tryd.underlying5 (by kernel_rfl)) (by kernel_rfl) (by kernel_rfl) ReadsF.nil)) (fun x => (⟨x.1, x.2.1⟩ : Policy.RuleV)) (fun a i hi => match i, hi with | 0, _ => rfl | 1, _ => rfl | _ + 2, h => absurd h (by omega))) Tryd.underlying28 (by kernel_rfl) (by kernel_rfl) (by decide)) (by kernel_rfl) (by kernel_rfl) (ReadsF.cons (k := 1) (Reads.str Tryd.underlying9 (by kernel_rfl)) (by kernel_rfl) (by kernel_rfl) ReadsF.nil))))))))))) (fun x => (⟨x.1, x.2.1, x.2.2.1, x.2.2.2.1, x.2.2.2.2.1, x.2.2.2.2.2.1, x.2.2.2.2.2.2.1, x.2.2.2.2.2.2.2.1, x.2.2.2.2.2.2.2.2.1, x.2.2.2.2.2.2.2.2.2.1, x.2.2.2.2.2.2.2.2.2.2.1⟩ : AskV)) (fun a i hi => match i, hi with | 0, _ => rfl | 1, _ => rfl | 2, _ => rfl | 3, _ => rfl | 4, _ => rfl | 5, _ => rfl | 6, _ => rfl | 7, _ => rfl | 8, _ => rfl | 9, _ => rfl | 10, _ => rfl | _ + 11, h => absurd h (by omega))) (by kernel_rfl) k0
  have k1 := h1
  have lt1 : ∀ x ∈ p1, x.block < W.heap.size := by obtain ⟨m, hm⟩ := k1; exact DataW.trod_lt m _ _ _ hm
  obtain ⟨m1, rfl⟩ := okWide_st Tryd.underlying30 (hval 1 30 v1 rfl rfl)
  obtain ⟨x1, hx1⟩ := Reads.agg (k := 11) (Reads.struct (n := 11) (row0 := rowA) Tryd.underlying30 (by kernel_rfl) (ReadsF.cons (k := 1) (Reads.int Tryd.underlying5 (by kernel_rfl)) (by kernel_rfl) (by kernel_rfl) (ReadsF.cons (k := 1) (Reads.str Tryd.underlying9 (by kernel_rfl)) (by kernel_rfl) (by kernel_rfl) (ReadsF.cons (k := 1) (Reads.str Tryd.underlying9 (by kernel_rfl)) (by kernel_rfl) (by kernel_rfl) (ReadsF.cons (k := 1) (Reads.str Tryd.underlying9 (by kernel_rfl)) (by kernel_rfl) (by kernel_rfl) (ReadsF.cons (k := 1) (Reads.int Tryd.underlying3 (by kernel_rfl)) (by kernel_rfl) (by kernel_rfl) (ReadsF.cons (k := 1) (Reads.int Tryd.underlying3 (by kernel_rfl)) (by kernel_rfl) (by kernel_rfl) (ReadsF.cons (k := 1) (Reads.bool Tryd.underlying4 (by kernel_rfl)) (by kernel_rfl) (by kernel_rfl) (ReadsF.cons (k := 1) (Reads.slice (k := 1) (row := AL.Fnv.rowI) (0 : Int) (Reads.int Tryd.underlying3 (by kernel_rfl)) Tryd.underlying27 (by kernel_rfl) (by kernel_rfl) (by decide)) (by kernel_rfl) (by kernel_rfl) (ReadsF.cons (k := 1) (Reads.str Tryd.underlying9 (by kernel_rfl)) (by kernel_rfl) (by kernel_rfl) (ReadsF.cons (k := 1) (Reads.slice (k := 2) (row := Policy.rowP) (([], 0) : Policy.RuleV) (Reads.struct (n := 2) (row0 := Policy.rowP) Tryd.underlying64 (by kernel_rfl) (ReadsF.cons (k := 1) (Reads.str Tryd.underlying9 (by kernel_rfl)) (by kernel_rfl) (by kernel_rfl) (ReadsF.cons (k := 1) (Reads.int Tryd.underlying5 (by kernel_rfl)) (by kernel_rfl) (by kernel_rfl) ReadsF.nil)) (fun x => (⟨x.1, x.2.1⟩ : Policy.RuleV)) (fun a i hi => match i, hi with | 0, _ => rfl | 1, _ => rfl | _ + 2, h => absurd h (by omega))) Tryd.underlying28 (by kernel_rfl) (by kernel_rfl) (by decide)) (by kernel_rfl) (by kernel_rfl) (ReadsF.cons (k := 1) (Reads.str Tryd.underlying9 (by kernel_rfl)) (by kernel_rfl) (by kernel_rfl) ReadsF.nil))))))))))) (fun x => (⟨x.1, x.2.1, x.2.2.1, x.2.2.2.1, x.2.2.2.2.1, x.2.2.2.2.2.1, x.2.2.2.2.2.2.1, x.2.2.2.2.2.2.2.1, x.2.2.2.2.2.2.2.2.1, x.2.2.2.2.2.2.2.2.2.1, x.2.2.2.2.2.2.2.2.2.2.1⟩ : AskV)) (fun a i hi => match i, hi with | 0, _ => rfl | 1, _ => rfl | 2, _ => rfl | 3, _ => rfl | 4, _ => rfl | 5, _ => rfl | 6, _ => rfl | 7, _ => rfl | 8, _ => rfl | 9, _ => rfl | 10, _ => rfl | _ + 11, h => absurd h (by omega))) (by kernel_rfl) k1
  have k2 := h2
  have lt2 : ∀ x ∈ p2, x.block < W.heap.size := by obtain ⟨m, hm⟩ := k2; exact DataW.trod_lt m _ _ _ hm
  obtain ⟨m2, rfl⟩ := okWide_string Tryd.underlying9 (hval 2 9 v2 rfl rfl)
  obtain ⟨x2, hx2⟩ := Reads.arg (Reads.str Tryd.underlying9 (by kernel_rfl)) k2 rfl
  refine (law_walk (w := W) (cargs := #[_, _, _]) (AL.Ask.AskBack_c x0 x1 x2) (AL.glob_of hT) ⟨hx0, hx1, hx2, trivial⟩).mono fun e W' ⟨he, bel⟩ => ?_
  subst he
  exact ⟨_, rfl, _, _, _, [], _, [], hW', trodAll_mk1 (shut_bool Tryd.underlying4 _), (trodAll_cons_mk (Below.trod AL.laidOut (by kernel_rfl) (of_decide_eq_true (by kernel_rfl)) k0 bel lt0) (trodAll_cons_mk (Below.trod AL.laidOut (by kernel_rfl) (of_decide_eq_true (by kernel_rfl)) k1 bel lt1) (trodAll_cons_mk (Below.trod AL.laidOut (by kernel_rfl) (of_decide_eq_true (by kernel_rfl)) k2 bel lt2) trodAll_mk0))), rfl, bel.frame _, fun h => by cases h⟩

theorem facts1 : closureFacts Tryd.prog 4 Rows.askBackRow = true := by kernel_rfl
theorem facts2 : rowFacts Tryd.prog Tryd.f4 Rows.askBackSpec Rows.askBackRow = true := by kernel_rfl
theorem over : Rows.askBackRow.holds Tryd.pinned (OpenSpec.ofChange Rows.askBackSpec) :=
  OpenClaim.holds_of_wide 4 Tryd.f4 rfl rfl rfl rfl rfl rfl rfl ⟨rfl, rfl, rfl, rfl, rfl⟩ rfl rfl rfl rfl rfl (by kernel_rfl) Tryd.func4 (joined facts1 facts2 rfl rfl)
    (of_decide_eq_true (by kernel_rfl)) (by unfold Func.isWrapper; first | (rw [if_pos (by decide +kernel)]; kernel_rfl) | (rw [if_neg (by decide +kernel)]; exact ⟨rfl, rfl⟩))
    (fun os started H enc _ => lifted os started H enc)

theorem proved : Rows.AskBackCardSaid :=
  Claim7.holds_tied_plain_at .later [] [.data, .pinned] true (true, "17a7fc0544877f1af70b1a15a634031b272a647aaf35f13e59fc57491c80adc7") false over (fun _ h => by cases h) (by kernel_rfl) (fun _ h => by cases h) askBack_row_tie rfl ⟨rfl, rfl⟩ (by kernel_rfl) rfl
    (fun f fn hf hfn => by
      obtain rfl : f = 4 := Option.some.inj ((show Tryd.prog.funcNamed Rows.askBackRow.func = some 4 by kernel_rfl).symm.trans hf) |>.symm
      obtain rfl : fn = Tryd.f4 := (Option.some.inj (Tryd.func4.symm.trans hfn)).symm
      exact ⟨by kernel_rfl, fun j t ht => by
        rw [Tryd.params4] at ht
        have hm : t ∈ [30, 30, 9] := by simpa using Array.mem_of_getElem? ht
        have hall : ([30, 30, 9].all fun u => !Tryd.prog.wantsStandIn u) = true := by kernel_rfl
        exact (show Tryd.prog.wantsStandIn t = false by simpa using List.all_eq_true.1 hall t hm)⟩)
    (by kernel_rfl)
end Go.Proofs.YtiiiecdfganahaaDoor.askBack
