/- An abstract logic, 37: what is known of the library's two tables, where a row lists them. No condition. -/
import Derived.Test.YtfedegdihgeelaaDoorAL35
import Derived.Test.YtfedegdihgeelaaDoorALe
import Derived.Test.YtfedegdihgeelaaDoorShelf
import Derived.Lib.LaidU8
import Derived.LaidMore
import Derived.SevenTiedAt
import Derived.Lay
namespace AL
open Go Go.Proofs Go.RowKit
set_option linter.unusedVariables false

theorem x8 : U8Extra Tryd.prog Tryd.lays260_ren := ⟨by kernel_rfl, by kernel_rfl, by kernel_rfl, by kernel_rfl, by kernel_rfl, by kernel_rfl, by kernel_rfl⟩
theorem acc_eq : (Go.Proofs.YtfedegdihgeelaaDoor.Rows.laid_unicode_utf8_acceptRanges : DataW Unit) = Go.Lib.acceptData := by kernel_rfl
theorem first_eq : (Go.Proofs.YtfedegdihgeelaaDoor.Rows.laid_unicode_utf8_first : DataW Unit) = Go.Lib.firstData := by kernel_rfl
theorem glob_of {W : World} (hT : Go.Lib.Utf8Tabs (Tryd.lays260_ren.g 3) (Tryd.lays260_ren.g 4) W) : GlobOk (Iw W) W :=
  ⟨cell_lt (hT.1 0 (by decide)), cell_lt (hT.2 0 (by decide)).1, hT⟩
end AL
