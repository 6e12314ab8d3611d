/- An abstract logic, 34: the closed facts of the seat's program, told once. No condition. -/
import Derived.Test.YtfedegdihgeelaaGreatDoorALe
namespace AL
open Go Go.Proofs
set_option linter.unusedVariables false

theorem pMaps : mapsRowed Tryz.prog = true := by kernel_rfl
theorem pStops : (Tryz.prog.stops == []) = true := by kernel_rfl
theorem pKnobs : (Tryz.prog.stopKnobs == []) = true := by kernel_rfl
theorem pHeard : Tryz.prog.stopsHeard = true := by kernel_rfl
theorem pEnter : Tryz.prog.mayEnter = true := by kernel_rfl
theorem pLifts : (false == Tryz.prog.liftsFinal) = true := by kernel_rfl
theorem pMake : (Tryz.prog.make == some .cut) = true := by kernel_rfl
end AL
