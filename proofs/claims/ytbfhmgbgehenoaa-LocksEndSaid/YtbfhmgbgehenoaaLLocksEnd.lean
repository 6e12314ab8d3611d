/- The law LocksEnd: her contract, joined to her statement. No condition. -/
import Derived.Test.YtbfhmgbgehenoaaLocksL
import Derived.Test.YtbfhmgbgehenoaaAL47
import Derived.Test.YtbfhmgbgehenoaaAL35
namespace Go.Proofs.Ytbfhmgbgehenoaa.locksEnd
open Go.ChangeShapes Go.WideShapes Go.ChangeAt Go.RowKit AL AL.Locks AL.Gate AL.Fnv
set_option linter.unusedVariables false
set_option linter.unusedSimpArgs false

set_option maxRecDepth 100000 in
theorem lifted (os : Os) (started : os.Started) (H : Type) (enc : TypeId × Value → H) :
    ReturnsInHanded {} Try.checked os 5 .any (Rows.locksEndSpec.pre6 enc Try.prog Try.f5 Rows.locksEndRow.domain false) (Rows.locksEndSpec.post enc Try.prog Try.f5 false true false false) := by
  refine returnsInHanded_of_change (C := Try.checked) AL.own started (by kernel_rfl) Try.func5
    (ChangeSpec.witness6 (enc := enc) (C := Try.checked) false ⟨#[], #[.int .u8 0, .slice none 0 0, .slice none 0 0], []⟩ 8 (by kernel_rfl) (by kernel_rfl) (by kernel_rfl) (by kernel_rfl)) ?_
  intro W base args ds gs before hval0 hW hcnd _
  have hval : ∀ (j : Nat) t v, Try.f5.params[j]? = some t → args[j]? = some v → Value.okWide Try.prog W .any base t v := hval0
  have hW' := hW
  obtain ⟨p, q, hA0, hV, rfl, hfz, hnd⟩ := hW
  have hA : DataW.TrodAll enc Try.prog W 0 (fun _ => true) true Try.f5.params.toList args.toList ds p := hA0
  rw [Try.params5] at hA hval
  obtain ⟨v0, vs0, d0, ds0, p0, q0, hargs, rfl, rfl, h0, r0⟩ := trodAll_cons hA
  obtain ⟨v1, vs1, d1, ds1, p1, q1, rfl, rfl, rfl, h1, r1⟩ := trodAll_cons r0
  obtain ⟨v2, vs2, d2, ds2, p2, q2, rfl, rfl, rfl, h2, r2⟩ := trodAll_cons r1
  obtain ⟨rfl, rfl, rfl⟩ := trodAll_nil r2
  obtain rfl : args = #[v0, v1, v2] := by cases args; simp_all
  obtain ⟨rfl, rfl⟩ := trodVars_none hV
  have k0 := h0
  have lt0 : ∀ x ∈ p0, x.block < W.heap.size := by obtain ⟨m, hm⟩ := k0; exact DataW.trod_lt m _ _ _ hm
  obtain ⟨m0, rfl⟩ := okWide_int Try.underlying5 (hval 0 5 v0 rfl rfl)
  obtain ⟨x0, hx0⟩ := Reads.arg (Reads.int Try.underlying5 (by kernel_rfl)) k0 rfl
  have k1 := h1
  have lt1 : ∀ x ∈ p1, x.block < W.heap.size := by obtain ⟨m, hm⟩ := k1; exact DataW.trod_lt m _ _ _ hm
  obtain ⟨m1, m1l, m1c, rfl⟩ := okWide_slice Try.underlying56 (hval 1 56 v1 rfl rfl)
  obtain ⟨x1, hx1⟩ := Reads.arg (Reads.slice (k := 1) (row := rowQ) (0 : Int) (Reads.int Try.underlying59 (by kernel_rfl)) Try.underlying56 (by kernel_rfl) (by kernel_rfl) (by decide)) k1 rfl
  have k2 := h2
  have lt2 : ∀ x ∈ p2, x.block < W.heap.size := by obtain ⟨m, hm⟩ := k2; exact DataW.trod_lt m _ _ _ hm
  obtain ⟨m2, m2l, m2c, rfl⟩ := okWide_slice Try.underlying57 (hval 2 57 v2 rfl rfl)
  obtain ⟨x2, hx2⟩ := Reads.arg (Reads.slice (k := 1) (row := rowU8) (0 : UInt8) (Reads.u8 Try.underlying5 (by kernel_rfl)) Try.underlying57 (by kernel_rfl) (by kernel_rfl) (by decide)) k2 rfl
  refine (law_walk (w := W) (cargs := #[_, _, _]) (AL.Locks.LocksEnd_c x0 x1 x2) trivial ⟨hx0, hx1, hx2, trivial⟩).mono fun e W' ⟨he, bel⟩ => ?_
  subst he
  exact ⟨_, rfl, _, _, _, [], _, [], hW', trodAll_mk1 (shut_bool Try.underlying4 _), (trodAll_cons_mk (Below.trod AL.laidOut (by kernel_rfl) (of_decide_eq_true (by kernel_rfl)) k0 bel lt0) (trodAll_cons_mk (Below.trod AL.laidOut (by kernel_rfl) (of_decide_eq_true (by kernel_rfl)) k1 bel lt1) (trodAll_cons_mk (Below.trod AL.laidOut (by kernel_rfl) (of_decide_eq_true (by kernel_rfl)) k2 bel lt2) trodAll_mk0))), rfl, bel.frame _, fun h => by cases h⟩

theorem facts1 : closureFacts Try.prog 5 Rows.locksEndRow = true := by kernel_rfl
theorem facts2 : rowFacts Try.prog Try.f5 Rows.locksEndSpec Rows.locksEndRow = true := by kernel_rfl
theorem over : Rows.locksEndRow.holds Try.pinned (OpenSpec.ofChange Rows.locksEndSpec) :=
  OpenClaim.holds_of_wide 5 Try.f5 rfl rfl rfl rfl rfl rfl rfl ⟨rfl, rfl, rfl, rfl, rfl⟩ rfl rfl rfl rfl rfl (by kernel_rfl) Try.func5 (joined facts1 facts2 rfl rfl)
    (of_decide_eq_true (by kernel_rfl)) (by unfold Func.isWrapper; first | (rw [if_pos (by decide +kernel)]; kernel_rfl) | (rw [if_neg (by decide +kernel)]; exact ⟨rfl, rfl⟩))
    (fun os started H enc _ => lifted os started H enc)

theorem proved : Rows.LocksEndSaid := over
end Go.Proofs.Ytbfhmgbgehenoaa.locksEnd
