/- under: CutPrefix, by the kit's contract. No condition. -/
import Derived.Test.YtfedegdihgeelaaDoorUnderD
import Derived.Test.YtfedegdihgeelaaDoorALe
import Derived.Test.YtfedegdihgeelaaDoorShelf
namespace AL.Under
open Go Go.Proofs AL
set_option linter.unusedVariables false
set_option linter.unusedSimpArgs false

theorem trim_eq (s p : Bytes) : Go.Lib.trimPrefix s p = trimP s p := rfl
theorem has_eq (s p : Bytes) : Go.Lib.hasPrefix s p = hasP s p := rfl
theorem trim_len (s p : Bytes) : (trimP s p).length ≤ s.length := by unfold trimP; split <;> simp
theorem CutPrefix_c (s p : Bytes) : Pure Tryd.prog 47 [tc (st s), tc (st p)] (AV.tup [tc (st (trimP s p)), tc (bo (hasP s p))]) := by
  refine Pure.of_calls ⟨_, Tryd.func47, by kernel_rfl, by kernel_rfl⟩ fun Γ w cargs hm => ?_
  obtain ⟨u, v, rfl, ⟨rfl, hu⟩, ⟨rfl, hv⟩⟩ := args2 hm
  refine (Tryd.strings_CutPrefix (ba s) (ba p) w).mono ?_
  rintro e w' ⟨rfl, rfl⟩
  exact ⟨_, rfl, rfl, #[.string (ba (trimP s p)), .bool (hasP s p)], rfl, ⟨rfl, Nat.le_trans (trim_len s p) hu⟩, rfl, trivial⟩
end AL.Under
