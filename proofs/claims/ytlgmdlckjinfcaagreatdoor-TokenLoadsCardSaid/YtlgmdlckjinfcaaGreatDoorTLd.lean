/- The proof library and the contracts that the law reaches: joined by a program. No condition. -/
import Derived.Test.YtlgmdlckjinfcaaGreatDoorTLc
namespace AL
open Go Go.Proofs Go.RowKit
set_option linter.unusedVariables false
theorem x8 : U8Extra Tryz.prog Tryz.lays260_ren := ⟨by kernel_rfl, by kernel_rfl, by kernel_rfl, by kernel_rfl, by kernel_rfl, by kernel_rfl, by kernel_rfl⟩
theorem acc_eq : (Go.Proofs.YtlgmdlckjinfcaaGreatDoor.Rows.laid_unicode_utf8_acceptRanges : DataW Unit) = Go.Lib.acceptData := by kernel_rfl
theorem first_eq : (Go.Proofs.YtlgmdlckjinfcaaGreatDoor.Rows.laid_unicode_utf8_first : DataW Unit) = Go.Lib.firstData := by kernel_rfl
theorem glob_of {W : World} (hT : Go.Lib.Utf8Tabs (Tryz.lays260_ren.g 3) (Tryz.lays260_ren.g 4) W) : GlobOk (Iw W) W :=
  ⟨cell_lt (hT.1 0 (by decide)), cell_lt (hT.2 0 (by decide)).1, hT⟩
end AL
