/- The law LocksOrder: her contract, joined to her statement. No condition. -/
import Derived.Test.YtphkoklgdkimmaaLocksK
import Derived.Test.YtphkoklgdkimmaaAL35
namespace Go.Proofs.Ytphkoklgdkimmaa.locksOrder
open Go.ChangeShapes Go.WideShapes Go.ChangeAt Go.RowKit AL AL.Locks AL.Gate AL.Fnv
set_option linter.unusedVariables false
set_option linter.unusedSimpArgs false

set_option maxRecDepth 100000 in
theorem lifted (os : Os) (started : os.Started) (H : Type) (enc : TypeId × Value → H) :
    ReturnsInHanded {} Try.checked os 14 .any (Rows.locksOrderSpec.pre6 enc Try.prog Try.f14 Rows.locksOrderRow.domain false) (Rows.locksOrderSpec.post enc Try.prog Try.f14 false true false false) := by
  refine returnsInHanded_of_change (C := Try.checked) AL.own started (by kernel_rfl) Try.func14
    (ChangeSpec.witness6 (enc := enc) (C := Try.checked) false ⟨#[], #[.int .u8 0, .slice none 0 0], []⟩ 8 (by kernel_rfl) (by kernel_rfl) (by kernel_rfl) (by kernel_rfl)) ?_
  intro W base args ds gs before hval0 hW hcnd _
  have hval : ∀ (j : Nat) t v, Try.f14.params[j]? = some t → args[j]? = some v → Value.okWide Try.prog W .any base t v := hval0
  have hW' := hW
  obtain ⟨p, q, hA0, hV, rfl, hfz, hnd⟩ := hW
  have hA : DataW.TrodAll enc Try.prog W 0 (fun _ => true) true Try.f14.params.toList args.toList ds p := hA0
  rw [Try.params14] at hA hval
  obtain ⟨v0, vs0, d0, ds0, p0, q0, hargs, rfl, rfl, h0, r0⟩ := trodAll_cons hA
  obtain ⟨v1, vs1, d1, ds1, p1, q1, rfl, rfl, rfl, h1, r1⟩ := trodAll_cons r0
  obtain ⟨rfl, rfl, rfl⟩ := trodAll_nil r1
  obtain rfl : args = #[v0, v1] := by cases args; simp_all
  obtain ⟨rfl, rfl⟩ := trodVars_none hV
  have k0 := h0
  have lt0 : ∀ x ∈ p0, x.block < W.heap.size := by obtain ⟨m, hm⟩ := k0; exact DataW.trod_lt m _ _ _ hm
  obtain ⟨m0, rfl⟩ := okWide_int Try.underlying5 (hval 0 5 v0 rfl rfl)
  obtain ⟨x0, hx0⟩ := Reads.arg (Reads.int Try.underlying5 (by kernel_rfl)) k0 rfl
  have k1 := h1
  have lt1 : ∀ x ∈ p1, x.block < W.heap.size := by obtain ⟨m, hm⟩ := k1; exact DataW.trod_lt m _ _ _ hm
  obtain ⟨m1, m1l, m1c, rfl⟩ := okWide_slice Try.underlying70 (hval 1 70 v1 rfl rfl)
  obtain ⟨x1, hx1⟩ := Reads.arg (Reads.slice (k := 4) (row := rowK) (lopd : Lop) (Reads.struct (n := 4) (row0 := rowK) Try.underlying83 (by kernel_rfl) (ReadsF.cons (k := 1) (Reads.int Try.underlying5 (by kernel_rfl)) (by kernel_rfl) (by kernel_rfl) (ReadsF.cons (k := 1) (Reads.int Try.underlying3 (by kernel_rfl)) (by kernel_rfl) (by kernel_rfl) (ReadsF.cons (k := 1) (Reads.int Try.underlying3 (by kernel_rfl)) (by kernel_rfl) (by kernel_rfl) (ReadsF.cons (k := 1) (Reads.int Try.underlying5 (by kernel_rfl)) (by kernel_rfl) (by kernel_rfl) ReadsF.nil)))) (fun x => (⟨x.1, x.2.1, x.2.2.1, x.2.2.2.1⟩ : Lop)) (fun a i hi => match i, hi with | 0, _ => rfl | 1, _ => rfl | 2, _ => rfl | 3, _ => rfl | _ + 4, h => absurd h (by omega))) Try.underlying70 (by kernel_rfl) (by kernel_rfl) (by decide)) k1 rfl
  refine (law_walk (w := W) (cargs := #[_, _]) (AL.Locks.LocksOrder_c x0 x1) ⟨hx0, hx1, trivial⟩).mono fun e W' ⟨he, bel⟩ => ?_
  subst he
  exact ⟨_, rfl, _, _, _, [], _, [], hW', trodAll_mk1 (shut_bool Try.underlying4 _), (trodAll_cons_mk (Below.trod AL.laidOut (by kernel_rfl) (of_decide_eq_true (by kernel_rfl)) k0 bel lt0) (trodAll_cons_mk (Below.trod AL.laidOut (by kernel_rfl) (of_decide_eq_true (by kernel_rfl)) k1 bel lt1) trodAll_mk0)), rfl, bel.frame _, fun h => by cases h⟩

theorem facts1 : closureFacts Try.prog 14 Rows.locksOrderRow = true := by kernel_rfl
theorem facts2 : rowFacts Try.prog Try.f14 Rows.locksOrderSpec Rows.locksOrderRow = true := by kernel_rfl
theorem over : Rows.locksOrderRow.holds Try.pinned (OpenSpec.ofChange Rows.locksOrderSpec) :=
  OpenClaim.holds_of_wide 14 Try.f14 rfl rfl rfl rfl rfl rfl rfl ⟨rfl, rfl, rfl, rfl, rfl⟩ rfl rfl rfl rfl rfl (by kernel_rfl) Try.func14 (joined facts1 facts2 rfl rfl)
    (of_decide_eq_true (by kernel_rfl)) (by unfold Func.isWrapper; first | (rw [if_pos (by decide +kernel)]; kernel_rfl) | (rw [if_neg (by decide +kernel)]; exact ⟨rfl, rfl⟩))
    (fun os started H enc _ => lifted os started H enc)

theorem proved : Rows.LocksOrderSaid := over
end Go.Proofs.Ytphkoklgdkimmaa.locksOrder
