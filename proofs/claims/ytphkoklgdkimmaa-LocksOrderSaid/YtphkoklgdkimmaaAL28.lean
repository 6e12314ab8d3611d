/- An abstract logic, 28: a nil slice is an empty one. No condition. -/
import Derived.Test.YtphkoklgdkimmaaAL27
namespace AL
open Go
set_option linter.unusedVariables false

theorem ent_nil {s : AS} (t : Nat) (k : Nat) (α : Type) (d : α) (row : α → Nat → SC) (ht : s.reg t = vc .nilsl) : s.ent (s.set (some t) (vc (.sl k α d row []))) := by
  intro G Γ a w hC
  refine ⟨Γ, hC.size, hC.defers, fun t' => ?_, hC.heap, hC.g, hC.ids⟩
  simp only [AS.set]
  by_cases h : t' = t
  · subst h
    rw [Nat.beq_refl]
    have := hC.regs t'
    rw [ht] at this
    have h0 : a.tmps.getD t' undef = .slice none 0 0 := this
    rw [h0]
    exact ⟨none, 0, rfl, Nat.le_refl _, Nat.zero_le _, .inl ⟨rfl, fun _ => rfl⟩⟩
  · rw [beq_false h]; exact hC.regs t'
end AL
