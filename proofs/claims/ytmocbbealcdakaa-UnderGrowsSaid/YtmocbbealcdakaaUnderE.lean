/- under: the library's functions that it calls, by the kit's contracts. No condition. -/
import Derived.Test.YtmocbbealcdakaaUnderD
import Derived.Test.YtmocbbealcdakaaAL27
import Derived.Test.YtmocbbealcdakaaShelf
namespace AL.Under
open Go Go.Proofs AL
set_option linter.unusedVariables false
set_option linter.unusedSimpArgs false

theorem trim_eq (s p : Bytes) : Go.Lib.trimPrefix s p = trimP s p := rfl
theorem has_eq (s p : Bytes) : Go.Lib.hasPrefix s p = hasP s p := rfl
theorem trim_len (s p : Bytes) : (trimP s p).length ≤ s.length := by unfold trimP; split <;> simp
theorem CutPrefix_c (s p : Bytes) : Pure Try.prog 37 [tc (st s), tc (st p)] (AV.tup [tc (st (trimP s p)), tc (bo (hasP s p))]) := by
  refine Pure.of_calls ⟨_, Try.func37, by kernel_rfl, by kernel_rfl⟩ fun Γ w cargs hm => ?_
  obtain ⟨u, v, rfl, ⟨rfl, hu⟩, ⟨rfl, hv⟩⟩ := args2 hm
  refine (Try.strings_CutPrefix (ba s) (ba p) w).mono ?_
  rintro e w' ⟨rfl, rfl⟩
  exact ⟨_, rfl, rfl, #[.string (ba (trimP s p)), .bool (hasP s p)], rfl, ⟨rfl, Nat.le_trans (trim_len s p) hu⟩, rfl, trivial⟩
theorem IndexOne_c (s : Bytes) : Pure Try.prog 43 [tc (st s), tc (st [47])] (vc (i6 (Go.Lib.indexByte s 47))) := by
  refine Pure.of_calls ⟨_, Try.func43, by kernel_rfl, by kernel_rfl⟩ fun Γ w cargs hm => ?_
  obtain ⟨u, v, rfl, ⟨rfl, hu⟩, ⟨rfl, hv⟩⟩ := args2 hm
  refine (Try.stringslite_Index_one (ba s) 47 w).mono ?_
  rintro e w' ⟨rfl, rfl⟩
  have := index_lt s
  simp only [maxLen] at hu
  exact ⟨_, rfl, rfl, rfl, inR64 (by omega) (by omega)⟩
theorem oneS : OneRow Bytes AL.Fnv.rowS Go.Proofs.encStr (fun s => s.length ≤ maxLen) := ⟨fun h => h, fun h => ⟨rfl, h⟩⟩
def risen (l : List Bytes) : List Bytes := l.mergeSort fun x y => decide (x ≤ y)
theorem risen_len (l : List Bytes) : (risen l).length = l.length := List.length_mergeSort l
theorem risen_mem {l : List Bytes} {x : Bytes} (h : x ∈ risen l) : x ∈ l := (List.mergeSort_perm l _).mem_iff.1 h
theorem compact_risen (l : List Bytes) : Go.Lib.compact (risen l) = sortS l := compact_sort l
theorem Sort_c (l : List Bytes) (hb : l.length ≤ 100000) (id : Nat) : Spec Try.prog 32 [TV.c (.own id)] (ofH [(id, AObj.grow 9 1 Bytes [] AL.Fnv.rowS l)]) (.tup []) (ofH [(id, AObj.grow 9 1 Bytes [] AL.Fnv.rowS (risen l))]) :=
  Spec.inplace ⟨_, Try.func32, by kernel_rfl, by kernel_rfl⟩ oneS (risen_len l) (fun _ => risen_mem) (fun b cap w h1 h2 => Try.slices_Sort_string b 0 cap l w h1 h2 (by omega))
    (fun h p cap w => Try.slices_Sort_string_none p cap w) id
theorem compact_len (l : List Bytes) : (Go.Lib.compact l).length ≤ l.length := by
  unfold Go.Lib.compact Go.Lib.compactUpTo
  rw [List.length_map]
  exact Nat.le_trans (List.length_filter_le _ _) (by simp)
theorem compact_mem {l : List Bytes} {x : Bytes} (h : x ∈ Go.Lib.compact l) : x ∈ l := by
  unfold Go.Lib.compact Go.Lib.compactUpTo at h
  obtain ⟨j, hj, rfl⟩ := List.mem_map.1 h
  have hj2 := List.mem_range.1 (List.mem_filter.1 hj).1
  rw [getElem!_pos _ j (by simpa using hj2)]
  simp
theorem Compact_c (l : List Bytes) (hb : l.length ≤ 100000) (id dd : Nat) (hne : id ≠ dd) : Spec Try.prog 33 [TV.c (.own id)] (ofH [(id, AObj.grow 9 1 Bytes [] AL.Fnv.rowS l)]) (vo dd) (ofH [(dd, AObj.grow 9 1 Bytes [] AL.Fnv.rowS (Go.Lib.compact l))]) :=
  Spec.shorten (zs := List.replicate (l.length - (Go.Lib.compact l).length) []) ⟨_, Try.func33, by kernel_rfl, by kernel_rfl⟩ oneS (by have := compact_len l; simp; omega) (fun _ => compact_mem) (fun b cap w h1 h2 => Try.slices_Compact_string b 0 cap l w h1 (by omega) h2)
    (fun h p cap w => Try.slices_Compact_string_empty p cap w) id dd hne
end AL.Under
