/- mounts: what the library's sorting calls. No condition. -/
import Derived.Test.YtfedegdihgeelaaDoorMountF
import Derived.Test.YtfedegdihgeelaaDoorShelf
namespace AL.Mount
open Go Go.Proofs AL
set_option linter.unusedVariables false
set_option linter.unusedSimpArgs false

theorem Len_c (m n : Int) (hm : m = n) (h0 : 0 ≤ n) (h1 : n ≤ 1000000) : Pure Tryd.prog 40 [tc (u6 m)] (vc (i6 ((Go.Lib.bitLen n.toNat : Nat) : Int))) := by
  subst hm
  refine Pure.of_calls ⟨_, Tryd.func40, by kernel_rfl, by kernel_rfl⟩ fun Γ w cargs hm => ?_
  have hl := hm.length
  rw [Array.length_toList] at hl
  match cargs, hl, hm with
  | ⟨[u]⟩, _, hm =>
    obtain ⟨⟨rfl, hu⟩, _⟩ := hm
    refine (Tryd.bits_Len m w h0 (by omega)).mono ?_
    rintro e w' ⟨rfl, rfl⟩
    have hb : Go.Lib.bitLen m.toNat ≤ 62 := Go.Lib.bitLen_le _ 62 (by omega) (by omega)
    exact ⟨_, rfl, rfl, rfl, inR64 (by omega) (by omega)⟩
end AL.Mount
