/- An abstract logic, 3: the model's run of the operations that compute. No condition. -/
import Derived.Test.YtphkoklgdkimmaaAL2
namespace AL
open Go
set_option linter.unusedVariables false

@[local simp] theorem run_pure' {α} (P : Program) (a : α) (w : World) : (pure a : Sem α).run P w = .ok a w := rfl

theorem ba_append (a b : Bytes) : ba a ++ ba b = ba (a ++ b) := by
  apply ByteArray.ext
  simp [ba]

theorem bin_ok {P : Program} {I w x y a b op cs r} {T : TypeId} (hx : MS I w x a) (hy : MS I w y b) (h : evBin op x y = some (cs, r)) (hc : allP cs) :
    ∃ v, (Go.binOp op T a b).run P w = .ok v w ∧ MS I w r v := by
  unfold evBin at h
  split at h
  · rename_i k m k' n
    obtain ⟨rfl, ha⟩ := hx
    obtain ⟨rfl, hb⟩ := hy
    cases op
    case shl =>
      simp only [Option.some.injEq, Prod.mk.injEq] at h
      obtain ⟨rfl, rfl⟩ := h
      rw [allP_append] at hc
      obtain ⟨h0, h1⟩ := hc
      have h0 : (0 : Int) ≤ n := h0
      refine ⟨_, ?_, arith_ok k _ h1⟩
      simp [Go.binOp, Op.shift, show ¬ n < 0 by omega]
    case shr =>
      simp only [Option.some.injEq, Prod.mk.injEq] at h
      obtain ⟨rfl, rfl⟩ := h
      have h0 : (0 : Int) ≤ n := hc
      refine ⟨_, ?_, rfl, fdiv_inR (min n.toNat k.bits) ha⟩
      simp [Go.binOp, Op.shift, show ¬ n < 0 by omega]
    all_goals
      simp only at h
      have hk : k = k' := Decidable.byContradiction fun hk => by rw [if_neg hk] at h; cases h
      subst hk
      rw [if_pos rfl] at h
      simp only [Option.some.injEq, Prod.mk.injEq] at h
    case add =>
      have h1 : (arith k (m + n)).1 = cs := by rw [h]
      have h2 : (arith k (m + n)).2 = r := by rw [h]
      subst h1 h2
      exact ⟨_, by simp [Go.binOp, Op.intArith], arith_ok k _ hc⟩
    case sub =>
      have h1 : (arith k (m - n)).1 = cs := by rw [h]
      have h2 : (arith k (m - n)).2 = r := by rw [h]
      subst h1 h2
      exact ⟨_, by simp [Go.binOp, Op.intArith], arith_ok k _ hc⟩
    case mul =>
      have h1 : (arith k (m * n)).1 = cs := by rw [h]
      have h2 : (arith k (m * n)).2 = r := by rw [h]
      subst h1 h2
      exact ⟨_, by simp [Go.binOp, Op.intArith], arith_ok k _ hc⟩
    case quo =>
      obtain ⟨rfl, rfl⟩ := h
      rw [allP_append] at hc
      obtain ⟨h0, h1⟩ := hc
      have h0 : n ≠ 0 := h0
      exact ⟨_, by simp [Go.binOp, Op.intDiv, h0], arith_ok k _ h1⟩
    case rem =>
      obtain ⟨rfl, rfl⟩ := h
      have h0 : n ≠ 0 := hc
      exact ⟨_, by simp [Go.binOp, Op.intDiv, h0], rfl, tmod_inR ha hb⟩
    case and => obtain ⟨rfl, rfl⟩ := h; exact ⟨_, by simp [Go.binOp, Op.intBits], rfl, inR_wrap _ _⟩
    case or => obtain ⟨rfl, rfl⟩ := h; exact ⟨_, by simp [Go.binOp, Op.intBits], rfl, inR_wrap _ _⟩
    case xor => obtain ⟨rfl, rfl⟩ := h; exact ⟨_, by simp [Go.binOp, Op.intBits], rfl, inR_wrap _ _⟩
    case andNot => obtain ⟨rfl, rfl⟩ := h; exact ⟨_, by simp [Go.binOp, Op.intBits], rfl, inR_wrap _ _⟩
    case eql => obtain ⟨rfl, rfl⟩ := h; exact ⟨_, by simp [Go.binOp, Op.intCmp]; rfl, rfl⟩
    case neq => obtain ⟨rfl, rfl⟩ := h; exact ⟨_, by simp [Go.binOp, Op.intCmp]; rfl, rfl⟩
    case lss => obtain ⟨rfl, rfl⟩ := h; exact ⟨_, by simp [Go.binOp, Op.intCmp], rfl⟩
    case leq => obtain ⟨rfl, rfl⟩ := h; exact ⟨_, by simp [Go.binOp, Op.intCmp], rfl⟩
    case gtr => obtain ⟨rfl, rfl⟩ := h; exact ⟨_, by simp [Go.binOp, Op.intCmp], rfl⟩
    case geq => obtain ⟨rfl, rfl⟩ := h; exact ⟨_, by simp [Go.binOp, Op.intCmp], rfl⟩
  · rename_i s t
    obtain ⟨rfl, ha⟩ := hx
    obtain ⟨rfl, hb⟩ := hy
    have hd : ∀ s t : Bytes, (s == t) = decide (s = t) := fun s t => by rw [Bool.eq_iff_iff]; simp
    cases op <;> simp only [Option.some.injEq, Prod.mk.injEq, reduceCtorEq] at h <;> obtain ⟨rfl, rfl⟩ := h
    case add =>
      have h0 : s.length + t.length ≤ maxLen := hc
      refine ⟨_, ?_, rfl, by rw [List.length_append]; exact h0⟩
      have h1 : ((ba s).size : Int) + ((ba t).size : Int) ≤ 9223372036854775807 := by
        rw [size_ba, size_ba]; simp only [maxLen] at h0; omega
      simp [Go.binOp, Op.stringOp, h1, ba_append, IntKind.max, IntKind.signed, IntKind.bits]
    case eql => exact ⟨_, by simp only [Go.binOp, Op.stringOp, toList_ba, hd]; rfl, rfl⟩
    case neq => exact ⟨_, by simp only [Go.binOp, Op.stringOp, toList_ba, hd]; rfl, rfl⟩
    case lss => exact ⟨_, by simp only [Go.binOp, Op.stringOp, toList_ba]; rfl, rfl⟩
    case leq => exact ⟨_, by simp only [Go.binOp, Op.stringOp, toList_ba, hd]; rfl, rfl⟩
    case gtr => exact ⟨_, by simp only [Go.binOp, Op.stringOp, toList_ba, hd]; rfl, rfl⟩
    case geq => exact ⟨_, by simp only [Go.binOp, Op.stringOp, toList_ba]; rfl, rfl⟩
  · cases h

theorem guard_ok {P : Program} {I w x y a b op cs r} {T : TypeId} {ox oy : Operand} (hx : MS I w x a) (hy : MS I w y b) (h : evBin op x y = some (cs, r)) :
    (eqGuard op T ox oy a b).run P w = .ok () w := by
  unfold evBin at h
  split at h
  · obtain ⟨rfl, _⟩ := hx
    obtain ⟨rfl, _⟩ := hy
    unfold eqGuard
    split <;> simp
  · obtain ⟨rfl, _⟩ := hx
    obtain ⟨rfl, _⟩ := hy
    unfold eqGuard
    split <;> simp
  · cases h
end AL
