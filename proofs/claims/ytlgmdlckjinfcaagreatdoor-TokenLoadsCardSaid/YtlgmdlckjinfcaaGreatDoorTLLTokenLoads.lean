/- The law TokenLoads: her contract, joined to her statement. No condition. -/
import Derived.Test.YtlgmdlckjinfcaaGreatDoorTLd
import Derived.Test.YtlgmdlckjinfcaaGreatDoorCards
import Derived.Test.YtlgmdlckjinfcaaGreatDoorTie
namespace Go.Proofs.YtlgmdlckjinfcaaGreatDoor.tokenLoads
open Go Go.Proofs Go.ChangeShapes Go.WideShapes Go.ChangeAt Go.RowKit AL AL.Token AL.Fnv
set_option linter.unusedVariables false
set_option linter.unusedSimpArgs false

set_option maxRecDepth 100000 in
theorem lifted (os : Os) (started : os.Started) (H : Type) (enc : TypeId × Value → H) :
    ReturnsInHanded {} Tryz.checked os 7 .any (fun w args => (Rows.tokenLoadsSpec.pre enc Tryz.prog Tryz.f7 Rows.tokenLoadsRow.domain false w args ∧ laidMetH Tryz.prog Rows.tokenLoadsRow.laid w) ∧ sizedMet enc Tryz.prog Tryz.f7 (OpenSpec.ofChange Rows.tokenLoadsSpec) false w args) (Rows.tokenLoadsSpec.post enc Tryz.prog Tryz.f7 false true false false) := by
  refine returnsInHanded_of_change_and (C := Tryz.checked) (X := fun w _ => laidMetH Tryz.prog Rows.tokenLoadsRow.laid w) (fun _ _ _ hh h => h.of_heap hh) AL.own started (by kernel_rfl) Tryz.func7
    (ChangeSpec.witness_shaped (enc := enc) (C := Tryz.checked) (os := os) (X := fun w _ => laidMetH Tryz.prog Rows.tokenLoadsRow.laid w) false (World.laidAll Tryz.prog os Rows.tokenLoadsRow.laid) #[.slice none 0 0, .int .u8 0] 8 (World.laidAll_os _ _ _)
      (World.shaped_of_ZipB (by kernel_rfl) (by kernel_rfl)) (by kernel_rfl) (by kernel_rfl) (by kernel_rfl)
      (by rw [MakeChecks.laidMetH_plain _ _ _ (by kernel_rfl)]; exact laidMet_laidAll _ (by kernel_rfl) (by kernel_rfl))) ?_
  intro W base args ds gs before hval0 hW hcnd hsz hL _
  rw [MakeChecks.laidMetH_plain _ _ _ (by kernel_rfl)] at hL
  have hT : Go.Lib.Utf8Tabs (Tryz.lays260_ren.g 3) (Tryz.lays260_ren.g 4) W := utf8Tabs_of_reads Tryz.lays260 AL.x8 (by rw [← AL.first_eq]; exact Go.Lib.laidMet.reads hL (List.mem_cons_of_mem _ (List.mem_cons_self ..))) (by rw [← AL.acc_eq]; exact Go.Lib.laidMet.reads hL (List.mem_cons_self ..))
  have hval : ∀ (j : Nat) t v, Tryz.f7.params[j]? = some t → args[j]? = some v → Value.okWide Tryz.prog W .any base t v := hval0
  have hW' := hW
  obtain ⟨p, q, hA0, hV, rfl, hfz, hnd⟩ := hW
  have hA : DataW.TrodAll enc Tryz.prog W 0 (fun _ => true) true Tryz.f7.params.toList args.toList ds p := hA0
  rw [Tryz.params7] at hA hval
  obtain ⟨v0, vs0, d0, ds0, p0, q0, hargs, rfl, rfl, h0, r0⟩ := trodAll_cons hA
  obtain ⟨v1, vs1, d1, ds1, p1, q1, rfl, rfl, rfl, h1, r1⟩ := trodAll_cons r0
  obtain ⟨rfl, rfl, rfl⟩ := trodAll_nil r1
  obtain rfl : args = #[v0, v1] := by cases args; simp_all
  obtain ⟨rfl, rfl⟩ := trodVars_none hV
  have k0 := h0
  have lt0 : ∀ x ∈ p0, x.block < W.heap.size := by obtain ⟨m, hm⟩ := k0; exact DataW.trod_lt m _ _ _ hm
  obtain ⟨m0, m0l, m0c, rfl⟩ := okWide_slice Tryz.underlying22 (hval 0 22 v0 rfl rfl)
  obtain ⟨x0, hx0⟩ := Reads.arg (Reads.slice (k := 4) (row := AL.Token.rowO) (AL.Token.opd : AL.Token.OpT) (Reads.struct (n := 4) (row0 := AL.Token.rowO) Tryz.underlying36 (by kernel_rfl) (ReadsF.cons (k := 1) (Reads.bool Tryz.underlying4 (by kernel_rfl)) (by kernel_rfl) (by kernel_rfl) (ReadsF.cons (k := 3) (Reads.struct (n := 3) (row0 := AL.Token.rowT) Tryz.underlying34 (by kernel_rfl) (ReadsF.cons (k := 1) (Reads.str Tryz.underlying9 (by kernel_rfl)) (by kernel_rfl) (by kernel_rfl) (ReadsF.cons (k := 1) (Reads.str Tryz.underlying9 (by kernel_rfl)) (by kernel_rfl) (by kernel_rfl) (ReadsF.cons (k := 1) (Reads.slice (k := 2) (row := AL.Policy.rowP) (([], 0) : AL.Policy.RuleV) (Reads.struct (n := 2) (row0 := AL.Policy.rowP) Tryz.underlying82 (by kernel_rfl) (ReadsF.cons (k := 1) (Reads.str Tryz.underlying9 (by kernel_rfl)) (by kernel_rfl) (by kernel_rfl) (ReadsF.cons (k := 1) (Reads.int Tryz.underlying5 (by kernel_rfl)) (by kernel_rfl) (by kernel_rfl) ReadsF.nil)) (fun x => (⟨x.1, x.2.1⟩ : AL.Policy.RuleV)) (fun a i hi => match i, hi with | 0, _ => rfl | 1, _ => rfl | _ + 2, h => absurd h (by omega))) Tryz.underlying32 (by kernel_rfl) (by kernel_rfl) (by decide)) (by kernel_rfl) (by kernel_rfl) ReadsF.nil))) (fun x => (⟨x.1, x.2.1, x.2.2.1⟩ : AL.Token.TokV)) (fun a i hi => match i, hi with | 0, _ => rfl | 1, _ => rfl | 2, _ => rfl | _ + 3, h => absurd h (by omega))) (by kernel_rfl) (by kernel_rfl) ReadsF.nil)) (fun x => (⟨x.1, x.2.1⟩ : AL.Token.OpT)) (fun a i hi => match i, hi with | 0, _ => rfl | 1, _ => rfl | 2, _ => rfl | 3, _ => rfl | _ + 4, h => absurd h (by omega))) Tryz.underlying22 (by kernel_rfl) (by kernel_rfl) (by decide)) k0 rfl
  have k1 := h1
  have lt1 : ∀ x ∈ p1, x.block < W.heap.size := by obtain ⟨m, hm⟩ := k1; exact DataW.trod_lt m _ _ _ hm
  obtain ⟨m1, rfl⟩ := okWide_int Tryz.underlying5 (hval 1 5 v1 rfl rfl)
  obtain ⟨x1, hx1⟩ := Reads.arg (Reads.int Tryz.underlying5 (by kernel_rfl)) k1 rfl
  have hb0 := AL.len_sized (P := Tryz.prog) (e := 36) hsz 0 (by rw [Tryz.params7]; rfl) rfl Tryz.underlying22 k0
  rw [show Tryz.prog.bytesOf 36 = 64 by kernel_rfl, AL.sl_len hx0] at hb0
  refine (law_walk (w := W) (cargs := #[_, _]) (AL.Token.TokenLoads_c x0 x1 hb0) (AL.glob_of hT) ⟨hx0, hx1, trivial⟩).mono fun e W' ⟨he, bel⟩ => ?_
  subst he
  exact ⟨_, rfl, _, _, _, [], _, [], hW', trodAll_mk1 (shut_bool Tryz.underlying4 _), (trodAll_cons_mk (Below.trod AL.laidOut (by kernel_rfl) (of_decide_eq_true (by kernel_rfl)) k0 bel lt0) (trodAll_cons_mk (Below.trod AL.laidOut (by kernel_rfl) (of_decide_eq_true (by kernel_rfl)) k1 bel lt1) trodAll_mk0)), rfl, bel.frame _, fun h => by cases h⟩

theorem facts1 : closureFacts Tryz.prog 7 Rows.tokenLoadsRow = true := by kernel_rfl
theorem facts2 : rowFacts Tryz.prog Tryz.f7 Rows.tokenLoadsSpec Rows.tokenLoadsRow = true := by kernel_rfl
theorem over : Rows.tokenLoadsRow.holds Tryz.pinned (OpenSpec.ofChange Rows.tokenLoadsSpec) :=
  OpenClaim.holds_of_wide 7 Tryz.f7 rfl rfl rfl rfl rfl rfl rfl ⟨rfl, rfl, rfl, rfl, rfl⟩ rfl rfl rfl rfl rfl (by kernel_rfl) Tryz.func7 (joined facts1 facts2 rfl rfl)
    (of_decide_eq_true (by kernel_rfl)) (by unfold Func.isWrapper; first | (rw [if_pos (by decide +kernel)]; kernel_rfl) | (rw [if_neg (by decide +kernel)]; exact ⟨rfl, rfl⟩))
    (fun os started H enc _ => lifted os started H enc)

theorem proved : Rows.TokenLoadsCardSaid :=
  Claim7.holds_tied_plain_at .later [] [.data, .pinned] true (true, "04768387b21e2525acafbaaeae3534ab3438b5d542c0a5b77d43531e1eb32e5b") false over (fun _ h => by cases h) (by kernel_rfl) (fun _ h => by cases h) tokenLoads_row_tie rfl ⟨rfl, rfl⟩ (by kernel_rfl) rfl
    (fun f fn hf hfn => by
      obtain rfl : f = 7 := Option.some.inj ((show Tryz.prog.funcNamed Rows.tokenLoadsRow.func = some 7 by kernel_rfl).symm.trans hf) |>.symm
      obtain rfl : fn = Tryz.f7 := (Option.some.inj (Tryz.func7.symm.trans hfn)).symm
      exact ⟨by kernel_rfl, fun j t ht => by
        rw [Tryz.params7] at ht
        have hm : t ∈ [22, 5] := by simpa using Array.mem_of_getElem? ht
        have hall : ([22, 5].all fun u => !Tryz.prog.wantsStandIn u) = true := by kernel_rfl
        exact (show Tryz.prog.wantsStandIn t = false by simpa using List.all_eq_true.1 hall t hm)⟩)
    (by kernel_rfl)
end Go.Proofs.YtlgmdlckjinfcaaGreatDoor.tokenLoads
