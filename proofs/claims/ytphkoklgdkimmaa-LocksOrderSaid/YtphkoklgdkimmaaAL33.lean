/- An abstract logic, 33: an owned slice told by another row. No condition. -/
import Derived.Test.YtphkoklgdkimmaaAL32
namespace AL
open Go
set_option linter.unusedVariables false

/-- The cells of an owned slice told less of, by another row. -/
theorem ent_regrow {s : AS} (id : Nat) {T : TypeId} {k : Nat} {α α2 : Type} {d : α} {d2 : α2} {row : α → Nat → SC} {row2 : α2 → Nat → SC} {l : List α} {l2 : List α2} (ho : s.obj id = some (.grow T k α d row l)) (hlen : l2.length = l.length)
    (h : ∀ (j : Nat) x y, l[j]? = some x → l2[j]? = some y → ∀ i, i < k → AC.le (.s (row x i)) (.s (row2 y i))) :
    s.ent ⟨s.n, s.reg, fun j => bif Nat.beq j id then some (.grow T k α2 d2 row2 l2) else s.obj j⟩ := by
  intro G Γ a w hC
  have key : ∀ j o, (bif Nat.beq j id then some (AObj.grow T k α2 d2 row2 l2) else s.obj j) = some o → ∃ o', s.obj j = some o' ∧ o'.width = o.width ∧ (∀ b, fp Γ j o b → fp Γ j o' b) ∧ (MO Γ w j o' → MO Γ w j o) := by
    intro j o hj
    by_cases hx : j = id
    · subst hx
      rw [Nat.beq_refl] at hj
      cases hj
      refine ⟨_, ho, rfl, fun b hb => hb, ?_⟩
      rintro (⟨h1, h2⟩ | ⟨cap, cur, h1, h2, h3, h4, h5, h6⟩)
      · exact .inl ⟨h1, List.eq_nil_of_length_eq_zero (by rw [hlen, h2]; rfl)⟩
      · refine .inr ⟨cap, cur, by rw [hlen]; exact h1, h2, by rw [hlen]; exact h3, h4, h5, fun i y hy c hc => ?_⟩
        have hi := (List.getElem?_eq_some_iff.1 hy).1
        rw [hlen] at hi
        obtain ⟨u, g1, g2⟩ := h6 i l[i] (List.getElem?_eq_getElem hi) c hc
        exact ⟨u, g1, h i l[i] y (List.getElem?_eq_getElem hi) hy c hc Γ w u g2⟩
    · rw [beq_false hx] at hj
      exact ⟨o, hj, rfl, fun b hb => hb, fun h => h⟩
  refine ⟨Γ, hC.size, hC.defers, fun t => ?_, ⟨fun j o hj => ?_, fun j o b hj hb => ?_, fun j o j' o' b hj hj' hb hb' => ?_, hC.heap.ilt⟩, ⟨hC.g.os, hC.g.tape, hC.g.output, hC.g.size, hC.g.prlt, hC.g.keep, hC.g.sub, hC.g.bak, fun j o b hj hb => ?_⟩, hC.ids⟩
  · refine MV.ext (D := fun _ => False) ⟨fun b hb => hb, fun b hb => rfl, fun _ _ => ⟨rfl, rfl⟩⟩ (fun j o _ hj => ?_) (fun d hd => hd.elim) (hC.regs t)
    obtain ⟨o', h1, h2, _⟩ := key j o hj
    exact ⟨o', h1, h2.symm⟩
  · obtain ⟨o', h1, _, _, h4⟩ := key j o hj
    exact h4 (hC.heap.objs j o' h1)
  · obtain ⟨o', h1, _, h3, _⟩ := key j o hj
    exact hC.heap.lt j o' b h1 (h3 b hb)
  · obtain ⟨o1, h1, _, h3, _⟩ := key j o hj
    obtain ⟨o2, g1, _, g3, _⟩ := key j' o' hj'
    exact hC.heap.inj j o1 j' o2 b h1 g1 (h3 b hb) (g3 b hb')
  · obtain ⟨o', h1, _, h3, _⟩ := key j o hj
    exact hC.g.own j o' b h1 (h3 b hb)

/-- Elements of which each cell is a nil slice. -/
def rowNil (_ : Unit) (_ : Nat) : SC := .nilsl
end AL
