/- An abstract logic, 34: the closed facts of the seat's program, told once. No condition. -/
import Derived.Test.YtfedegdihgeelaaDoorALe
namespace AL
open Go Go.Proofs
set_option linter.unusedVariables false

theorem pMaps : mapsRowed Tryd.prog = true := by kernel_rfl
theorem pStops : (Tryd.prog.stops == []) = true := by kernel_rfl
theorem pKnobs : (Tryd.prog.stopKnobs == []) = true := by kernel_rfl
theorem pHeard : Tryd.prog.stopsHeard = true := by kernel_rfl
theorem pEnter : Tryd.prog.mayEnter = true := by kernel_rfl
theorem pLifts : (false == Tryd.prog.liftsFinal) = true := by kernel_rfl
theorem pMake : (Tryd.prog.make == some .cut) = true := by kernel_rfl
end AL
