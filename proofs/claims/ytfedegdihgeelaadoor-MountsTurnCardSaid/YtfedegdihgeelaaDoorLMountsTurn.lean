/- The law MountsTurn: her contract, joined to her statement. No condition. -/
import Derived.Test.YtfedegdihgeelaaDoorMountLa
import Derived.Test.YtfedegdihgeelaaDoorAL37
import Derived.Test.YtfedegdihgeelaaDoorCards
import Derived.Test.YtfedegdihgeelaaDoorTie
import Derived.Test.YtfedegdihgeelaaDoorAL35
namespace Go.Proofs.YtfedegdihgeelaaDoor.mountsTurn
open Go Go.Proofs Go.ChangeShapes Go.WideShapes Go.ChangeAt Go.RowKit AL AL.Mount AL.Fnv
set_option linter.unusedVariables false
set_option linter.unusedSimpArgs false

set_option maxRecDepth 100000 in
theorem lifted (os : Os) (started : os.Started) (H : Type) (enc : TypeId × Value → H) :
    ReturnsInHanded {} Tryd.checked os 4 .any (fun w args => (Rows.mountsTurnSpec.pre enc Tryd.prog Tryd.f4 Rows.mountsTurnRow.domain false w args ∧ laidMetH Tryd.prog Rows.mountsTurnRow.laid w) ∧ sizedMet enc Tryd.prog Tryd.f4 (OpenSpec.ofChange Rows.mountsTurnSpec) false w args) (Rows.mountsTurnSpec.post enc Tryd.prog Tryd.f4 false true false false) := by
  refine returnsInHanded_of_change_and (C := Tryd.checked) (X := fun w _ => laidMetH Tryd.prog Rows.mountsTurnRow.laid w) (fun _ _ _ hh h => h.of_heap hh) AL.own started (by kernel_rfl) Tryd.func4
    (ChangeSpec.witness_shaped (enc := enc) (C := Tryd.checked) (os := os) (X := fun w _ => laidMetH Tryd.prog Rows.mountsTurnRow.laid w) false (World.laidAll Tryd.prog os Rows.mountsTurnRow.laid) #[.slice none 0 0, .agg #[.bool false, .string ByteArray.empty, .int .i64 0, .bool false]] 8 (World.laidAll_os _ _ _)
      (World.shaped_of_ZipB (by kernel_rfl) (by kernel_rfl)) (by kernel_rfl) (by kernel_rfl) (by kernel_rfl)
      (by rw [MakeChecks.laidMetH_plain _ _ _ (by kernel_rfl)]; exact laidMet_laidAll _ (by kernel_rfl) (by kernel_rfl))) ?_
  intro W base args ds gs before hval0 hW hcnd _ hL _
  rw [MakeChecks.laidMetH_plain _ _ _ (by kernel_rfl)] at hL
  have hT : Go.Lib.Utf8Tabs (Tryd.lays260_ren.g 3) (Tryd.lays260_ren.g 4) W := utf8Tabs_of_reads Tryd.lays260 AL.x8 (by rw [← AL.first_eq]; exact Go.Lib.laidMet.reads hL (List.mem_cons_of_mem _ (List.mem_cons_self ..))) (by rw [← AL.acc_eq]; exact Go.Lib.laidMet.reads hL (List.mem_cons_self ..))
  have hval : ∀ (j : Nat) t v, Tryd.f4.params[j]? = some t → args[j]? = some v → Value.okWide Tryd.prog W .any base t v := hval0
  have hW' := hW
  obtain ⟨p, q, hA0, hV, rfl, hfz, hnd⟩ := hW
  have hA : DataW.TrodAll enc Tryd.prog W 0 (fun _ => true) true Tryd.f4.params.toList args.toList ds p := hA0
  rw [Tryd.params4] at hA hval
  obtain ⟨v0, vs0, d0, ds0, p0, q0, hargs, rfl, rfl, h0, r0⟩ := trodAll_cons hA
  obtain ⟨v1, vs1, d1, ds1, p1, q1, rfl, rfl, rfl, h1, r1⟩ := trodAll_cons r0
  obtain ⟨rfl, rfl, rfl⟩ := trodAll_nil r1
  obtain rfl : args = #[v0, v1] := by cases args; simp_all
  obtain ⟨rfl, rfl⟩ := trodVars_none hV
  have k0 := h0
  have lt0 : ∀ x ∈ p0, x.block < W.heap.size := by obtain ⟨m, hm⟩ := k0; exact DataW.trod_lt m _ _ _ hm
  obtain ⟨m0, m0l, m0c, rfl⟩ := okWide_slice Tryd.underlying22 (hval 0 22 v0 rfl rfl)
  obtain ⟨x0, hx0⟩ := Reads.arg (Reads.slice (k := 4) (row := AL.Mount.rowO) (AL.Mount.opd : AL.Mount.OpM) (Reads.struct (n := 4) (row0 := AL.Mount.rowO) Tryd.underlying33 (by kernel_rfl) (ReadsF.cons (k := 1) (Reads.bool Tryd.underlying4 (by kernel_rfl)) (by kernel_rfl) (by kernel_rfl) (ReadsF.cons (k := 3) (Reads.struct (n := 3) (row0 := AL.Mount.rowM) Tryd.underlying31 (by kernel_rfl) (ReadsF.cons (k := 1) (Reads.str Tryd.underlying9 (by kernel_rfl)) (by kernel_rfl) (by kernel_rfl) (ReadsF.cons (k := 2) (Reads.struct (n := 2) (row0 := AL.Secret.rowRul) Tryd.underlying29 (by kernel_rfl) (ReadsF.cons (k := 1) (Reads.int Tryd.underlying3 (by kernel_rfl)) (by kernel_rfl) (by kernel_rfl) (ReadsF.cons (k := 1) (Reads.bool Tryd.underlying4 (by kernel_rfl)) (by kernel_rfl) (by kernel_rfl) ReadsF.nil)) (fun x => (⟨x.1, x.2.1⟩ : AL.Secret.Rul)) (fun a i hi => match i, hi with | 0, _ => rfl | 1, _ => rfl | _ + 2, h => absurd h (by omega))) (by kernel_rfl) (by kernel_rfl) ReadsF.nil)) (fun x => (⟨x.1, x.2.1⟩ : AL.Mount.MountV)) (fun a i hi => match i, hi with | 0, _ => rfl | 1, _ => rfl | 2, _ => rfl | _ + 3, h => absurd h (by omega))) (by kernel_rfl) (by kernel_rfl) ReadsF.nil)) (fun x => (⟨x.1, x.2.1⟩ : AL.Mount.OpM)) (fun a i hi => match i, hi with | 0, _ => rfl | 1, _ => rfl | 2, _ => rfl | 3, _ => rfl | _ + 4, h => absurd h (by omega))) Tryd.underlying22 (by kernel_rfl) (by kernel_rfl) (by decide)) k0 rfl
  have k1 := h1
  have lt1 : ∀ x ∈ p1, x.block < W.heap.size := by obtain ⟨m, hm⟩ := k1; exact DataW.trod_lt m _ _ _ hm
  obtain ⟨m1, rfl⟩ := okWide_st Tryd.underlying33 (hval 1 33 v1 rfl rfl)
  obtain ⟨x1, hx1⟩ := Reads.agg (k := 4) (Reads.struct (n := 4) (row0 := AL.Mount.rowO) Tryd.underlying33 (by kernel_rfl) (ReadsF.cons (k := 1) (Reads.bool Tryd.underlying4 (by kernel_rfl)) (by kernel_rfl) (by kernel_rfl) (ReadsF.cons (k := 3) (Reads.struct (n := 3) (row0 := AL.Mount.rowM) Tryd.underlying31 (by kernel_rfl) (ReadsF.cons (k := 1) (Reads.str Tryd.underlying9 (by kernel_rfl)) (by kernel_rfl) (by kernel_rfl) (ReadsF.cons (k := 2) (Reads.struct (n := 2) (row0 := AL.Secret.rowRul) Tryd.underlying29 (by kernel_rfl) (ReadsF.cons (k := 1) (Reads.int Tryd.underlying3 (by kernel_rfl)) (by kernel_rfl) (by kernel_rfl) (ReadsF.cons (k := 1) (Reads.bool Tryd.underlying4 (by kernel_rfl)) (by kernel_rfl) (by kernel_rfl) ReadsF.nil)) (fun x => (⟨x.1, x.2.1⟩ : AL.Secret.Rul)) (fun a i hi => match i, hi with | 0, _ => rfl | 1, _ => rfl | _ + 2, h => absurd h (by omega))) (by kernel_rfl) (by kernel_rfl) ReadsF.nil)) (fun x => (⟨x.1, x.2.1⟩ : AL.Mount.MountV)) (fun a i hi => match i, hi with | 0, _ => rfl | 1, _ => rfl | 2, _ => rfl | _ + 3, h => absurd h (by omega))) (by kernel_rfl) (by kernel_rfl) ReadsF.nil)) (fun x => (⟨x.1, x.2.1⟩ : AL.Mount.OpM)) (fun a i hi => match i, hi with | 0, _ => rfl | 1, _ => rfl | 2, _ => rfl | 3, _ => rfl | _ + 4, h => absurd h (by omega))) (by kernel_rfl) k1
  refine (law_walk (w := W) (cargs := #[_, _]) (AL.Mount.MountsTurn_c x0 x1) (AL.glob_of hT) ⟨hx0, hx1, trivial⟩).mono fun e W' ⟨he, bel⟩ => ?_
  subst he
  exact ⟨_, rfl, _, _, _, [], _, [], hW', trodAll_mk1 (shut_bool Tryd.underlying4 _), (trodAll_cons_mk (Below.trod AL.laidOut (by kernel_rfl) (of_decide_eq_true (by kernel_rfl)) k0 bel lt0) (trodAll_cons_mk (Below.trod AL.laidOut (by kernel_rfl) (of_decide_eq_true (by kernel_rfl)) k1 bel lt1) trodAll_mk0)), rfl, bel.frame _, fun h => by cases h⟩

theorem facts1 : closureFacts Tryd.prog 4 Rows.mountsTurnRow = true := by kernel_rfl
theorem facts2 : rowFacts Tryd.prog Tryd.f4 Rows.mountsTurnSpec Rows.mountsTurnRow = true := by kernel_rfl
theorem over : Rows.mountsTurnRow.holds Tryd.pinned (OpenSpec.ofChange Rows.mountsTurnSpec) :=
  OpenClaim.holds_of_wide 4 Tryd.f4 rfl rfl rfl rfl rfl rfl rfl ⟨rfl, rfl, rfl, rfl, rfl⟩ rfl rfl rfl rfl rfl (by kernel_rfl) Tryd.func4 (joined facts1 facts2 rfl rfl)
    (of_decide_eq_true (by kernel_rfl)) (by unfold Func.isWrapper; first | (rw [if_pos (by decide +kernel)]; kernel_rfl) | (rw [if_neg (by decide +kernel)]; exact ⟨rfl, rfl⟩))
    (fun os started H enc _ => lifted os started H enc)

theorem proved : Rows.MountsTurnCardSaid :=
  Claim7.holds_tied_plain_at .later [] [.data, .pinned] true (true, "5803f33b305ddaa75a9f86ff0e3a3da44ae4dc7f6bb26b9dbefe6bae59fcc382") false over (fun _ h => by cases h) (by kernel_rfl) (fun _ h => by cases h) mountsTurn_row_tie rfl ⟨rfl, rfl⟩ (by kernel_rfl) rfl
    (fun f fn hf hfn => by
      obtain rfl : f = 4 := Option.some.inj ((show Tryd.prog.funcNamed Rows.mountsTurnRow.func = some 4 by kernel_rfl).symm.trans hf) |>.symm
      obtain rfl : fn = Tryd.f4 := (Option.some.inj (Tryd.func4.symm.trans hfn)).symm
      exact ⟨by kernel_rfl, fun j t ht => by
        rw [Tryd.params4] at ht
        have hm : t ∈ [22, 33] := by simpa using Array.mem_of_getElem? ht
        have hall : ([22, 33].all fun u => !Tryd.prog.wantsStandIn u) = true := by kernel_rfl
        exact (show Tryd.prog.wantsStandIn t = false by simpa using List.all_eq_true.1 hall t hm)⟩)
    (by kernel_rfl)
end Go.Proofs.YtfedegdihgeelaaDoor.mountsTurn
