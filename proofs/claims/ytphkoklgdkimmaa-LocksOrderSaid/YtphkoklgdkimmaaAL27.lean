/- An abstract logic, 27: the facts of the seat's program that the rules ask for. No condition. -/
import Derived.Test.YtphkoklgdkimmaaAL26
import Derived.Test.YtphkoklgdkimmaaRows
namespace AL
open Go Go.Proofs
set_option linter.unusedVariables false

theorem mixed : Try.prog.follows .mixedOrders = true := Try.checked.mixed
theorem own : ownKnob Try.prog.godebug = none := by kernel_rfl
theorem laidOut : laidOutB Try.prog = true := by kernel_rfl
end AL
