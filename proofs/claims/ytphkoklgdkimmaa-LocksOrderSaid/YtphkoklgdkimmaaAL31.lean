/- An abstract logic, 31: a nil slice in a cell of an owned object, owned from now on. No condition. -/
import Derived.Test.YtphkoklgdkimmaaAL30
namespace AL
open Go
set_option linter.unusedVariables false

theorem MCs.set_own {Γ : Ctx} {w : World} {d : Nat} {post : List AC} : ∀ {pre : List AC} {vs : List Value}, Γ.η d = .slice none 0 0 → MCs Γ w (pre ++ .s .nilsl :: post) vs → MCs Γ w (pre ++ .own d :: post) vs
  | [], v :: vs, hη, h => by
    refine ⟨?_, h.2⟩
    have h1 : v = .slice none 0 0 := h.1
    subst h1
    exact ⟨hη.symm, rfl⟩
  | c :: pre, v :: vs, hη, h => ⟨h.1, MCs.set_own hη h.2⟩
  | [], [], _, h => h.elim
  | _ :: _, [], _, h => h.elim

theorem acsHas_app (d : Nat) : ∀ (l m : List AC), acsHas d (l ++ m) = (acsHas d l || acsHas d m)
  | [], m => rfl
  | c :: l, m => by simp only [List.cons_append, acsHas, acsHas_app d l m, Bool.or_assoc]

/-- The nil slice in a cell of the object h is owned from now on, under the name d. -/
theorem ent_adoptO {n : Nat} {L : List (Nat × AV)} {H : List (Nat × AObj)} (h d : Nat) (pre post : List AC) (T : TypeId) (k : Nat) (α : Type) (dd : α) (row : α → Nat → SC) (ho : ofH H h = some (.row (pre ++ .s .nilsl :: post)))
    (hd : Nat.blt d n = true) (hf : hasL d L = false) (hf' : hasO d H = false) :
    (AS.lst n L H).ent ⟨n, lkp L, fun j => bif Nat.beq j d then some (.grow T k α dd row []) else bif Nat.beq j h then some (.row (pre ++ .own d :: post)) else ofH H j⟩ := by
  intro G Γ a w hC
  obtain ⟨f1, f2⟩ := hasO_ok hf'
  let Γ' := mkΓ Γ d (Γ.ρ d) (.slice none 0 0)
  have hext : Ext (fun id => id = d) Γ w Γ' w := ⟨fun b hb => hb, fun b _ => rfl, mk_agree Γ d _ _⟩
  have hdh : h ≠ d := fun e => by subst e; rw [f1] at ho; cases ho
  have hobj : ∀ j o, (bif Nat.beq j d then some (AObj.grow T k α dd row []) else bif Nat.beq j h then some (.row (pre ++ .own d :: post)) else ofH H j) = some o →
      (j = d ∧ o = .grow T k α dd row []) ∨ (j ≠ d ∧ j = h ∧ o = .row (pre ++ .own d :: post)) ∨ (j ≠ d ∧ j ≠ h ∧ ofH H j = some o) := by
    intro j o hj
    by_cases h1 : j = d
    · subst h1; rw [Nat.beq_refl] at hj; cases hj; exact .inl ⟨rfl, rfl⟩
    · rw [beq_false h1] at hj
      by_cases h2 : j = h
      · subst h2; rw [Nat.beq_refl] at hj; cases hj; exact .inr (.inl ⟨h1, rfl, rfl⟩)
      · rw [beq_false h2] at hj; exact .inr (.inr ⟨h1, h2, hj⟩)
  have hfp : ∀ j o b, j ≠ d → fp Γ' j o b → fp Γ j o b := fun j o b hj h => (fp.ext (mk_agree Γ d (Γ.ρ d) (.slice none 0 0)) hj).1 h
  have hnf : ∀ b, ¬ fp Γ' d (.grow T k α dd row []) b := fun b h => by
    have := h.2
    simp only [Γ', mk_η] at this
    exact this rfl
  have hrow : ∀ b, fp Γ' h (.row (pre ++ .own d :: post)) b → fp Γ h (.row (pre ++ .s .nilsl :: post)) b := fun b hb => (fp.ext (mk_agree Γ d (Γ.ρ d) (.slice none 0 0)) hdh).1 (show fp Γ' h (.row (pre ++ .s .nilsl :: post)) b from hb)
  have hmo : MO Γ' w h (.row (pre ++ .s .nilsl :: post)) := MO.ext hext hdh (fun e he => by subst he; exact f2 h _ ho) (fun b _ => rfl) (hC.heap.objs h _ ho)
  have old : ∀ j o, (bif Nat.beq j d then some (AObj.grow T k α dd row []) else bif Nat.beq j h then some (.row (pre ++ .own d :: post)) else ofH H j) = some o → j ≠ d → ∃ o', ofH H j = some o' ∧ o'.width = o.width ∧ ∀ b, fp Γ' j o b → fp Γ j o' b := by
    intro j o hj hjd
    rcases hobj j o hj with ⟨h1, _⟩ | ⟨_, rfl, rfl⟩ | ⟨h1, h2, h3⟩
    · exact absurd h1 hjd
    · exact ⟨_, ho, rfl, hrow⟩
    · exact ⟨o, h3, rfl, fun b => hfp j o b h1⟩
  refine ⟨Γ', ⟨hC.size, hC.defers, fun u => ?_, ⟨fun j o hj => ?_, fun j o b hj hb => ?_, fun j o j' o' b hj hj' hb hb' => ?_, hC.heap.ilt⟩, ⟨hC.g.os, hC.g.tape, hC.g.output, hC.g.size, hC.g.prlt, hC.g.keep, hC.g.sub, hC.g.bak, fun j o b hj hb => ?_⟩, fun i hi => ?_⟩⟩
  · refine MV.ext hext (fun j o hj ho' => ?_) (fun e he => by subst he; exact hasL_ok hf u) (hC.regs u)
    obtain ⟨o', h1, h2, _⟩ := old j o ho' hj
    exact ⟨o', h1, h2.symm⟩
  · rcases hobj j o hj with ⟨rfl, rfl⟩ | ⟨h1, rfl, rfl⟩ | ⟨h1, h2, h3⟩
    · exact .inl ⟨by simp only [Γ', mk_η], rfl⟩
    · obtain ⟨cs, T', q1, q2⟩ := hmo
      exact ⟨cs, T', q1, q2.set_own (by simp only [Γ', mk_η])⟩
    · exact MO.ext hext h1 (fun e he => by subst he; exact f2 j o h3) (fun b _ => rfl) (hC.heap.objs j o h3)
  · by_cases hjd : j = d
    · rcases hobj j o hj with ⟨rfl, rfl⟩ | ⟨h1, _⟩ | ⟨h1, _⟩
      · exact absurd hb (hnf b)
      · exact absurd hjd h1
      · exact absurd hjd h1
    · obtain ⟨o', h1, _, h3⟩ := old j o hj hjd
      exact hC.heap.lt j o' b h1 (h3 b hb)
  · by_cases hjd : j = d
    · rcases hobj j o hj with ⟨rfl, rfl⟩ | ⟨h1, _⟩ | ⟨h1, _⟩
      · exact absurd hb (hnf b)
      · exact absurd hjd h1
      · exact absurd hjd h1
    · by_cases hjd' : j' = d
      · rcases hobj j' o' hj' with ⟨rfl, rfl⟩ | ⟨h1, _⟩ | ⟨h1, _⟩
        · exact absurd hb' (hnf b)
        · exact absurd hjd' h1
        · exact absurd hjd' h1
      · obtain ⟨o1, h1, _, h3⟩ := old j o hj hjd
        obtain ⟨o2, g1, _, g3⟩ := old j' o' hj' hjd'
        exact hC.heap.inj j o1 j' o2 b h1 g1 (h3 b hb) (g3 b hb')
  · by_cases hjd : j = d
    · rcases hobj j o hj with ⟨rfl, rfl⟩ | ⟨h1, _⟩ | ⟨h1, _⟩
      · exact absurd hb (hnf b)
      · exact absurd hjd h1
      · exact absurd hjd h1
    · obtain ⟨o', h1, _, h3⟩ := old j o hj hjd
      exact hC.g.own j o' b h1 (h3 b hb)
  · have hdn := Nat.le_of_ble_eq_true hd
    obtain ⟨e1, e2⟩ := mk_agree Γ d (Γ.ρ d) (.slice none 0 0) i (by have : n ≤ i := hi; omega)
    show (mkΓ Γ d (Γ.ρ d) (.slice none 0 0)).ρ i = _ ∧ (mkΓ Γ d (Γ.ρ d) (.slice none 0 0)).η i = _
    rw [e1, e2]
    exact hC.ids i hi
end AL
