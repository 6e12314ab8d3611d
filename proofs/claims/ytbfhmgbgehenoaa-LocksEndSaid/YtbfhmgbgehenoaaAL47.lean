/- An abstract logic, 47: a slice of bytes that a law is handed. No condition. -/
import Derived.Test.YtbfhmgbgehenoaaALe
namespace AL
open Go
set_option linter.unusedVariables false

theorem Reads.u8 {P : Program} {t : TypeId} (ht : P.underlying t = some (.int .u8)) (hc : P.cellsOf t = 1) : Reads P t UInt8 rowU8 := by
  intro H enc w spare held fuel cs x h
  obtain ⟨n, rfl, _, hw⟩ := DataW.trod_int ht h
  have hr := InR_of_wf hw
  have h2 : 0 ≤ n ∧ n ≤ 255 := by simpa [InR, IntKind.min, IntKind.max, IntKind.signed, IntKind.bits] using hr
  refine ⟨UInt8.ofNat n.toNat, by rw [hc]; rfl, one_cell rfl ?_⟩
  have e : ((UInt8.ofNat n.toNat).toNat : Int) = n := by
    rw [UInt8.toNat_ofNat']
    omega
  show Value.int .u8 n = .int .u8 ((UInt8.ofNat n.toNat).toNat : Int) ∧ InR .u8 ((UInt8.ofNat n.toNat).toNat : Int)
  rw [e]
  exact ⟨rfl, hr⟩
end AL
