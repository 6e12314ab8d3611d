/- separators: the library's functions over texts, by the kit's contracts, at any separator of one byte. No condition. -/
import Derived.Test.YtiiiecdfganahaaDoorSepD
import Derived.Test.YtiiiecdfganahaaDoorALe
import Derived.Test.YtiiiecdfganahaaDoorShelf
namespace AL.Sep
open Go Go.Proofs Go.RowKit AL
set_option linter.unusedVariables false
set_option linter.unusedSimpArgs false

theorem Count_c (k : UInt8) (s : Bytes) : Pure Tryd.prog 46 [tc (st s), tc (st [k])] (vc (i6 ((s.count k : Nat) : Int))) := by
  refine Pure.of_calls ⟨_, Tryd.func46, by kernel_rfl, by kernel_rfl⟩ fun Γ w cargs hm => ?_
  obtain ⟨u, v, rfl, ⟨rfl, hu⟩, ⟨rfl, hv⟩⟩ := args2 hm
  refine (Tryd.strings_Count_one (ba s) k w).mono ?_
  rintro e w' ⟨rfl, rfl⟩
  have h1 : s.count k ≤ s.length := List.count_le_length
  simp only [maxLen] at hu
  exact ⟨_, rfl, rfl, rfl, inR64 (by omega) (by omega)⟩
theorem Index_c (k : UInt8) (s : Bytes) : Pure Tryd.prog 47 [tc (st s), tc (st [k])] (vc (i6 (Go.Lib.indexByte s k))) := by
  refine Pure.of_calls ⟨_, Tryd.func47, by kernel_rfl, by kernel_rfl⟩ fun Γ w cargs hm => ?_
  obtain ⟨u, v, rfl, ⟨rfl, hu⟩, ⟨rfl, hv⟩⟩ := args2 hm
  refine (Tryd.strings_Index_one (ba s) k w).mono ?_
  rintro e w' ⟨rfl, rfl⟩
  have := index_rng k s
  simp only [maxLen] at hu
  exact ⟨_, rfl, rfl, rfl, inR64 (by omega) (by omega)⟩
theorem IndexL_c (k : UInt8) (s : Bytes) : Pure Tryd.prog 60 [tc (st s), tc (st [k])] (vc (i6 (Go.Lib.indexByte s k))) := by
  refine Pure.of_calls ⟨_, Tryd.func60, by kernel_rfl, by kernel_rfl⟩ fun Γ w cargs hm => ?_
  obtain ⟨u, v, rfl, ⟨rfl, hu⟩, ⟨rfl, hv⟩⟩ := args2 hm
  refine (Tryd.stringslite_Index_one (ba s) k w).mono ?_
  rintro e w' ⟨rfl, rfl⟩
  have := index_rng k s
  simp only [maxLen] at hu
  exact ⟨_, rfl, rfl, rfl, inR64 (by omega) (by omega)⟩
theorem lib_join (c : UInt8) : ∀ (l : List Bytes), Go.Lib.join l [c] = joinC c l
  | [] => rfl
  | [p] => Go.Lib.join_one p [c]
  | p :: q :: l => by
    have ih := lib_join c (q :: l)
    unfold Go.Lib.join at ih ⊢
    show _ = p ++ c :: joinC c (q :: l)
    rw [← ih]
    simp [List.intercalate, List.intersperse]
theorem Join_c (c : UInt8) (l : List Bytes) (hb : (joinC c l).length ≤ 100000) : Pure Tryd.prog 55 [tc (AL.Fnv.slS l), tc (st [c])] (vc (st (joinC c l))) := by
  refine Pure.of_below ⟨_, Tryd.func55, by kernel_rfl, by kernel_rfl⟩ fun Γ w cargs hh hm => ?_
  obtain ⟨u, v, rfl, hu, ⟨rfl, hv⟩⟩ := args2 hm
  obtain ⟨a, cap, rfl, h1, h2, h3⟩ := hu
  have fin : MV Γ H0 w (vc (st (joinC c l))) (.string (ba (joinC c l))) := ⟨rfl, by simp only [maxLen]; omega⟩
  rcases h3 with ⟨rfl, h3⟩ | ⟨b, off, rfl, hI, hc⟩
  · refine (Tryd.strings_Join_none a cap (ba [c]) w).mono ?_
    rintro e w' ⟨rfl, rfl⟩
    exact ⟨_, rfl, Below.refl _ _, rfl, Nat.zero_le _⟩
  · have hcells : ∀ (j : Nat) x, (l.map ba)[j]? = some x → w.cell? ⟨b, off + j, none⟩ = some (.string x) := by
      intro j x hx
      rw [List.getElem?_map, Option.map_eq_some_iff] at hx
      obtain ⟨y, hy, rfl⟩ := hx
      obtain ⟨u, hu, hmu⟩ := hc j y hy 0 (by omega)
      obtain ⟨rfl, _⟩ := (show u = .string (ba y) ∧ _ from hmu)
      rw [Nat.mul_one, Nat.add_zero] at hu
      exact hu
    have hl : ((l.map ba).map (·.data.toList)) = l := by
      rw [List.map_map]
      conv => rhs; rw [← List.map_id l]
      exact List.map_congr_left fun x _ => rfl
    have hlen : (l.map ba).length = l.length := List.length_map _
    have hj : Go.Lib.join ((l.map ba).map (·.data.toList)) (ba [c]).data.toList = joinC c l := by rw [hl]; exact lib_join c l
    have := Tryd.strings_Join b off cap (l.map ba) (ba [c]) w hcells (hh.ilt b hI) (by have := join_count c l; rw [hlen]; omega) (by rw [hlen]; exact h1) (by rw [hj]; omega)
    rw [hlen, hj] at this
    refine this.mono ?_
    rintro e w' ⟨rfl, hbel⟩
    exact ⟨_, rfl, hbel, rfl, by simp only [maxLen]; omega⟩
end AL.Sep
