/- An abstract logic, 16: stores. No condition. -/
import Derived.Test.YtphkoklgdkimmaaAL15
namespace AL
open Go
set_option linter.unusedVariables false

/-- 'store': what it leaves (no value). -/
def evStore (P : Program) (obj : Nat → Option AObj) (T : TypeId) (a x : AV) (ce : Option CE) : Option Eff :=
  match P.info? T, cellsA x with
  | some i, some l =>
    if Nat.beq l.length i.size then
      match a with
      | .t (.c (.ptr id off)) => match obj id with
        | some (.row cells) => if Nat.ble (off + i.size) cells.length then some ⟨[], .t (.c (.s .any)), obj, [(id, .row cells)], [(id, .row (spl cells off l))]⟩ else none
        | _ => none
      | .oel id j o => match obj id, ce with
        | some ob, some (.obj ob') => if Nat.ble (o + i.size) ob.width then some ⟨[StoreC j o l ob ob'], .t (.c (.s .any)), obj, [(id, ob)], [(id, ob')]⟩ else none
        | _, _ => none
      | _ => none
    else none
  | _, _ => none

theorem evStore_ok {P : Program} {Γ : Ctx} {obj w T a x va vx ce f} (hh : HeapOk Γ obj w) (h : evStore P obj T a x ce = some f) (ha : MV Γ obj w a va) (hx : MV Γ obj w x vx) (hc : allP f.conds) :
    f.obj = obj ∧ (∀ id o, ofH f.hin id = some o → obj id = some o) ∧ ∃ w', (Instr.storeAt T va vx).run P w = Result.ok () w' ∧ Post Γ (ofH f.hin) w Γ f.new w' := by
  unfold evStore at h
  split at h
  · rename_i i l hi hl
    split at h
    · rename_i hli
      have hli := Nat.eq_of_beq_eq_true hli
      have hm := cellsA_ok hl hx
      split at h
      · rename_i id off
        split at h
        · rename_i cells hob
          split at h
          · rename_i hle
            have hle := Nat.le_of_ble_eq_true hle
            cases h
            have hsub : ∀ id' o', ofH [(id, AObj.row cells)] id' = some o' → obj id' = some o' := fun id' o' h => by obtain ⟨rfl, rfl⟩ := ofH_one.1 h; exact hob
            obtain rfl : va = .pointer (some ⟨Γ.ρ id, off, none⟩) := ha
            obtain ⟨w', h1, h2⟩ := store_row (P := P) (T := T) (heap_sub hh hsub) hi hm hli hle
            exact ⟨rfl, hsub, w', h1, h2⟩
          · cases h
        · cases h
      · rename_i id j o
        split at h
        · rename_i ob ob' hob
          split at h
          · rename_i hle
            have hle := Nat.le_of_ble_eq_true hle
            cases h
            have hsub : ∀ id' o', ofH [(id, ob)] id' = some o' → obj id' = some o' := fun id' o' h => by obtain ⟨rfl, rfl⟩ := ofH_one.1 h; exact hob
            obtain ⟨k, rfl, hk⟩ := ha
            obtain rfl := hk ob hob
            obtain ⟨w', h1, h2⟩ := store_elem (P := P) (T := T) (heap_sub hh hsub) hi hm hli hle hc
            exact ⟨rfl, hsub, w', h1, h2⟩
          · cases h
        · cases h
      · cases h
    · cases h
  · cases h

end AL
