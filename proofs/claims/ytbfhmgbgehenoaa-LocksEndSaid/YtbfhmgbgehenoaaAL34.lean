/- An abstract logic, 34: the closed facts of the seat's program, told once. No condition. -/
import Derived.Test.YtbfhmgbgehenoaaALe
namespace AL
open Go Go.Proofs
set_option linter.unusedVariables false

theorem pMaps : mapsRowed Try.prog = true := by kernel_rfl
theorem pStops : (Try.prog.stops == []) = true := by kernel_rfl
theorem pKnobs : (Try.prog.stopKnobs == []) = true := by kernel_rfl
theorem pHeard : Try.prog.stopsHeard = true := by kernel_rfl
theorem pEnter : Try.prog.mayEnter = true := by kernel_rfl
theorem pLifts : (false == Try.prog.liftsFinal) = true := by kernel_rfl
theorem pMake : (Try.prog.make == some .cut) = true := by kernel_rfl
end AL
