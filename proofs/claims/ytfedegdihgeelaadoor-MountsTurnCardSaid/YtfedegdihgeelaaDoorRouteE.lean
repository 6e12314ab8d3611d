/- route: the library's functions that it calls, by the kit's contracts. No condition. -/
import Derived.Test.YtfedegdihgeelaaDoorRouteD
import Derived.Test.YtfedegdihgeelaaDoorALe
import Derived.Test.YtfedegdihgeelaaDoorShelf
namespace AL.Route
open Go Go.Proofs Go.RowKit AL AL.Rune
set_option linter.unusedVariables false
set_option linter.unusedSimpArgs false

theorem Count_c (s : Bytes) : Pure Tryd.prog 80 [tc (st s), tc (st [47])] (vc (i6 ((s.count 47 : Nat) : Int))) := by
  refine Pure.of_calls ⟨_, Tryd.func80, by kernel_rfl, by kernel_rfl⟩ fun Γ w cargs hm => ?_
  obtain ⟨u, v, rfl, ⟨rfl, hu⟩, ⟨rfl, hv⟩⟩ := args2 hm
  refine (Tryd.strings_Count_one (ba s) 47 w).mono ?_
  rintro e w' ⟨rfl, rfl⟩
  have h1 : s.count 47 ≤ s.length := List.count_le_length
  simp only [maxLen] at hu
  exact ⟨_, rfl, rfl, rfl, inR64 (by omega) (by omega)⟩
theorem index_rng (s : Bytes) : -1 ≤ Go.Lib.indexByte s 47 ∧ Go.Lib.indexByte s 47 < (s.length : Int) := by
  refine ⟨Go.Lib.indexByte_ge s 47, ?_⟩
  by_cases h : 0 ≤ Go.Lib.indexByte s 47
  · have := (index_some h).1; omega
  · omega
theorem Index_c (s : Bytes) : Pure Tryd.prog 81 [tc (st s), tc (st [47])] (vc (i6 (Go.Lib.indexByte s 47))) := by
  refine Pure.of_calls ⟨_, Tryd.func81, by kernel_rfl, by kernel_rfl⟩ fun Γ w cargs hm => ?_
  obtain ⟨u, v, rfl, ⟨rfl, hu⟩, ⟨rfl, hv⟩⟩ := args2 hm
  refine (Tryd.strings_Index_one (ba s) 47 w).mono ?_
  rintro e w' ⟨rfl, rfl⟩
  have := index_rng s
  simp only [maxLen] at hu
  exact ⟨_, rfl, rfl, rfl, inR64 (by omega) (by omega)⟩
end AL.Route
