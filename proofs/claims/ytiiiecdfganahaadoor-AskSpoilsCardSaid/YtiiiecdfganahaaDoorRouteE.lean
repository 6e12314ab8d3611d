/- route: the library's functions that it calls, by the kit's contracts. No condition. -/
import Derived.Test.YtiiiecdfganahaaDoorRouteD
import Derived.Test.YtiiiecdfganahaaDoorALe
import Derived.Test.YtiiiecdfganahaaDoorShelf
namespace AL.Route
open Go Go.Proofs Go.RowKit AL AL.Rune
set_option linter.unusedVariables false
set_option linter.unusedSimpArgs false

theorem Count_c (s : Bytes) : Pure Tryd.prog 46 [tc (st s), tc (st [47])] (vc (i6 ((s.count 47 : Nat) : Int))) := by
  refine Pure.of_calls ⟨_, Tryd.func46, by kernel_rfl, by kernel_rfl⟩ fun Γ w cargs hm => ?_
  obtain ⟨u, v, rfl, ⟨rfl, hu⟩, ⟨rfl, hv⟩⟩ := args2 hm
  refine (Tryd.strings_Count_one (ba s) 47 w).mono ?_
  rintro e w' ⟨rfl, rfl⟩
  have h1 : s.count 47 ≤ s.length := List.count_le_length
  simp only [maxLen] at hu
  exact ⟨_, rfl, rfl, rfl, inR64 (by omega) (by omega)⟩
theorem index_rng (s : Bytes) : -1 ≤ Go.Lib.indexByte s 47 ∧ Go.Lib.indexByte s 47 < (s.length : Int) := by
  refine ⟨Go.Lib.indexByte_ge s 47, ?_⟩
  by_cases h : 0 ≤ Go.Lib.indexByte s 47
  · have := (index_some h).1; omega
  · omega
theorem Index_c (s : Bytes) : Pure Tryd.prog 47 [tc (st s), tc (st [47])] (vc (i6 (Go.Lib.indexByte s 47))) := by
  refine Pure.of_calls ⟨_, Tryd.func47, by kernel_rfl, by kernel_rfl⟩ fun Γ w cargs hm => ?_
  obtain ⟨u, v, rfl, ⟨rfl, hu⟩, ⟨rfl, hv⟩⟩ := args2 hm
  refine (Tryd.strings_Index_one (ba s) 47 w).mono ?_
  rintro e w' ⟨rfl, rfl⟩
  have := index_rng s
  simp only [maxLen] at hu
  exact ⟨_, rfl, rfl, rfl, inR64 (by omega) (by omega)⟩
theorem lib_join : ∀ (l : List Bytes), Go.Lib.join l [47] = joinS l
  | [] => rfl
  | [p] => Go.Lib.join_one p [47]
  | p :: q :: l => by
    have ih := lib_join (q :: l)
    unfold Go.Lib.join at ih ⊢
    show _ = p ++ 47 :: joinS (q :: l)
    rw [← ih]
    simp [List.intercalate, List.intersperse]
theorem join_len : ∀ (l : List Bytes), l.length ≤ (joinS l).length + 1
  | [] => by simp
  | [p] => by simp
  | p :: q :: l => by
    have ih := join_len (q :: l)
    show (p :: q :: l).length ≤ (p ++ 47 :: joinS (q :: l)).length + 1
    simp only [List.length_cons, List.length_append] at ih ⊢
    omega
theorem Join_c (l : List Bytes) (hb : (joinS l).length ≤ 100000) : Pure Tryd.prog 55 [tc (AL.Fnv.slS l), tc (st [47])] (vc (st (joinS l))) := by
  refine Pure.of_below ⟨_, Tryd.func55, by kernel_rfl, by kernel_rfl⟩ fun Γ w cargs hh hm => ?_
  obtain ⟨u, v, rfl, hu, ⟨rfl, hv⟩⟩ := args2 hm
  obtain ⟨a, cap, rfl, h1, h2, h3⟩ := hu
  have fin : MV Γ H0 w (vc (st (joinS l))) (.string (ba (joinS l))) := ⟨rfl, by simp only [maxLen]; omega⟩
  rcases h3 with ⟨rfl, h3⟩ | ⟨b, off, rfl, hI, hc⟩
  · refine (Tryd.strings_Join_none a cap (ba [47]) w).mono ?_
    rintro e w' ⟨rfl, rfl⟩
    exact ⟨_, rfl, Below.refl _ _, rfl, Nat.zero_le _⟩
  · have hcells : ∀ (j : Nat) x, (l.map ba)[j]? = some x → w.cell? ⟨b, off + j, none⟩ = some (.string x) := by
      intro j x hx
      rw [List.getElem?_map, Option.map_eq_some_iff] at hx
      obtain ⟨y, hy, rfl⟩ := hx
      obtain ⟨u, hu, hmu⟩ := hc j y hy 0 (by omega)
      obtain ⟨rfl, _⟩ := (show u = .string (ba y) ∧ _ from hmu)
      rw [Nat.mul_one, Nat.add_zero] at hu
      exact hu
    have hl : ((l.map ba).map (·.data.toList)) = l := by
      rw [List.map_map]
      conv => rhs; rw [← List.map_id l]
      exact List.map_congr_left fun x _ => rfl
    have hlen : (l.map ba).length = l.length := List.length_map _
    have hj : Go.Lib.join ((l.map ba).map (·.data.toList)) (ba [47]).data.toList = joinS l := by rw [hl]; exact lib_join l
    have := Tryd.strings_Join b off cap (l.map ba) (ba [47]) w hcells (hh.ilt b hI) (by have := join_len l; rw [hlen]; omega) (by rw [hlen]; exact h1) (by rw [hj]; omega)
    rw [hlen, hj] at this
    refine this.mono ?_
    rintro e w' ⟨rfl, hbel⟩
    exact ⟨_, rfl, hbel, rfl, by simp only [maxLen]; omega⟩
end AL.Route
