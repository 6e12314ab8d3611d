/- An abstract logic, 46: a slice of one's own in an element of an owned slice. No condition. -/
import Derived.Test.YtbfhmgbgehenoaaALe
namespace AL
open Go
set_option linter.unusedVariables false

/-- The nil slice in the first cell of element i of the object h is owned from now on, under the name d. -/
theorem ent_dig {n : Nat} {L : List (Nat × AV)} {H : List (Nat × AObj)} (h d i : Nat) {T0 : TypeId} {k0 : Nat} {α0 : Type} {d0 : α0} {row0 : α0 → Nat → SC} {l0 : List α0} (T : TypeId) (k : Nat) (α : Type) (dd : α) (row : α → Nat → SC)
    (ho : ofH H h = some (.grow T0 k0 α0 d0 row0 l0)) (hk : Nat.blt 0 k0 = true) (hd : Nat.blt d n = true) (hf : hasL d L = false) (hf' : hasO d H = false) (hi : i < l0.length) (hn : row0 (l0.getD i d0) 0 = .nilsl) :
    (AS.lst n L H).ent ⟨n, lkp L, fun j => bif Nat.beq j d then some (.grow T k α dd row []) else bif Nat.beq j h then some (.hole T0 k0 α0 d0 row0 l0 i d) else ofH H j⟩ := by
  intro G Γ a w hC
  obtain ⟨f1, f2⟩ := hasO_ok hf'
  let Γ' := mkΓ Γ d (Γ.ρ d) (.slice none 0 0)
  have hext : Ext (fun id => id = d) Γ w Γ' w := ⟨fun b hb => hb, fun b _ => rfl, mk_agree Γ d _ _⟩
  have hdh : h ≠ d := fun e => by subst e; rw [f1] at ho; cases ho
  have hobj : ∀ j o, (bif Nat.beq j d then some (AObj.grow T k α dd row []) else bif Nat.beq j h then some (.hole T0 k0 α0 d0 row0 l0 i d) else ofH H j) = some o →
      (j = d ∧ o = .grow T k α dd row []) ∨ (j ≠ d ∧ j = h ∧ o = .hole T0 k0 α0 d0 row0 l0 i d) ∨ (j ≠ d ∧ j ≠ h ∧ ofH H j = some o) := by
    intro j o hj
    by_cases h1 : j = d
    · subst h1; rw [Nat.beq_refl] at hj; cases hj; exact .inl ⟨rfl, rfl⟩
    · rw [beq_false h1] at hj
      by_cases h2 : j = h
      · subst h2; rw [Nat.beq_refl] at hj; cases hj; exact .inr (.inl ⟨h1, rfl, rfl⟩)
      · rw [beq_false h2] at hj; exact .inr (.inr ⟨h1, h2, hj⟩)
  have hfp : ∀ j o b, j ≠ d → fp Γ' j o b → fp Γ j o b := fun j o b hj h => (fp.ext (mk_agree Γ d (Γ.ρ d) (.slice none 0 0)) hj).1 h
  have hnf : ∀ b, ¬ fp Γ' d (.grow T k α dd row []) b := fun b h => by
    have := h.2
    simp only [Γ', mk_η] at this
    exact this rfl
  have hmo : MO Γ' w h (.grow T0 k0 α0 d0 row0 l0) := MO.ext hext hdh (fun e he => by subst he; exact f2 h _ ho) (fun b _ => rfl) (hC.heap.objs h _ ho)
  have hmo0 := hC.heap.objs h _ ho
  have hη : Γ.η h ≠ .slice none 0 0 := by
    rcases hmo0 with ⟨_, hl⟩ | ⟨cap, cur, q1, _⟩
    · subst hl; simp at hi
    · rw [q1]; simp
  have hrow : ∀ b, fp Γ' h (.hole T0 k0 α0 d0 row0 l0 i d) b → fp Γ h (.grow T0 k0 α0 d0 row0 l0) b := fun b hb =>
    ⟨((fp.ext (mk_agree Γ d (Γ.ρ d) (.slice none 0 0)) hdh).1 hb).1, hη⟩
  have old : ∀ j o, (bif Nat.beq j d then some (AObj.grow T k α dd row []) else bif Nat.beq j h then some (.hole T0 k0 α0 d0 row0 l0 i d) else ofH H j) = some o → j ≠ d → ∃ o', ofH H j = some o' ∧ o'.width = o.width ∧ ∀ b, fp Γ' j o b → fp Γ j o' b := by
    intro j o hj hjd
    rcases hobj j o hj with ⟨h1, _⟩ | ⟨_, rfl, rfl⟩ | ⟨h1, h2, h3⟩
    · exact absurd h1 hjd
    · exact ⟨_, ho, rfl, hrow⟩
    · exact ⟨o, h3, rfl, fun b => hfp j o b h1⟩
  refine ⟨Γ', ⟨hC.size, hC.defers, fun u => ?_, ⟨fun j o hj => ?_, fun j o b hj hb => ?_, fun j o j' o' b hj hj' hb hb' => ?_, hC.heap.ilt, hC.heap.glob⟩, ⟨hC.g.os, hC.g.tape, hC.g.output, hC.g.size, hC.g.prlt, hC.g.keep, hC.g.sub, hC.g.bak, fun j o b hj hb => ?_⟩, fun i hi => ?_⟩⟩
  · refine MV.ext hext (fun j o hj ho' => ?_) (fun e he => by subst he; exact hasL_ok hf u) (hC.regs u)
    obtain ⟨o', h1, h2, _⟩ := old j o ho' hj
    exact ⟨o', h1, h2.symm⟩
  · rcases hobj j o hj with ⟨rfl, rfl⟩ | ⟨h1, rfl, rfl⟩ | ⟨h1, h2, h3⟩
    · exact .inl ⟨by simp only [Γ', mk_η], rfl⟩
    · rcases hmo with ⟨_, hl⟩ | ⟨cap, cur, q1, q2, q3, q4, q5, q6⟩
      · subst hl; simp at hi
      have hk0 : 0 < k0 := Nat.le_of_ble_eq_true hk
      obtain ⟨u, hu, hm⟩ := q6 i (l0.getD i d0) (by simp [List.getD, List.getElem?_eq_getElem hi]) 0 hk0
      rw [hn] at hm
      have hm : u = .slice none 0 0 := hm
      subst hm
      have he : Γ'.η d = .slice none 0 0 := by simp only [Γ', mk_η]
      exact ⟨cap, cur, q1, q2, q3, q4, q5, ⟨by rw [he]; exact hu, by rw [he]; rfl⟩, fun j' x hx c hc _ => q6 j' x hx c hc⟩
    · exact MO.ext hext h1 (fun e he => by subst he; exact f2 j o h3) (fun b _ => rfl) (hC.heap.objs j o h3)
  · by_cases hjd : j = d
    · rcases hobj j o hj with ⟨rfl, rfl⟩ | ⟨h1, _⟩ | ⟨h1, _⟩
      · exact absurd hb (hnf b)
      · exact absurd hjd h1
      · exact absurd hjd h1
    · obtain ⟨o', h1, _, h3⟩ := old j o hj hjd
      exact hC.heap.lt j o' b h1 (h3 b hb)
  · by_cases hjd : j = d
    · rcases hobj j o hj with ⟨rfl, rfl⟩ | ⟨h1, _⟩ | ⟨h1, _⟩
      · exact absurd hb (hnf b)
      · exact absurd hjd h1
      · exact absurd hjd h1
    · by_cases hjd' : j' = d
      · rcases hobj j' o' hj' with ⟨rfl, rfl⟩ | ⟨h1, _⟩ | ⟨h1, _⟩
        · exact absurd hb' (hnf b)
        · exact absurd hjd' h1
        · exact absurd hjd' h1
      · obtain ⟨o1, h1, _, h3⟩ := old j o hj hjd
        obtain ⟨o2, g1, _, g3⟩ := old j' o' hj' hjd'
        exact hC.heap.inj j o1 j' o2 b h1 g1 (h3 b hb) (g3 b hb')
  · by_cases hjd : j = d
    · rcases hobj j o hj with ⟨rfl, rfl⟩ | ⟨h1, _⟩ | ⟨h1, _⟩
      · exact absurd hb (hnf b)
      · exact absurd hjd h1
      · exact absurd hjd h1
    · obtain ⟨o', h1, _, h3⟩ := old j o hj hjd
      exact hC.g.own j o' b h1 (h3 b hb)
  · have hdn := Nat.le_of_ble_eq_true hd
    obtain ⟨e1, e2⟩ := mk_agree Γ d (Γ.ρ d) (.slice none 0 0) i (by have : n ≤ i := hi; omega)
    show (mkΓ Γ d (Γ.ρ d) (.slice none 0 0)).ρ i = _ ∧ (mkΓ Γ d (Γ.ρ d) (.slice none 0 0)).η i = _
    rw [e1, e2]
    exact hC.ids i hi

/-- The slice in the first cell of element i of the object h is given up. -/
theorem ent_fill {n : Nat} {L : List (Nat × AV)} {H : List (Nat × AObj)} (h d : Nat) {i : Nat} {T0 : TypeId} {k0 : Nat} {α0 : Type} {d0 : α0} {row0 : α0 → Nat → SC} {l0 : List α0} {T : TypeId} {k : Nat} {α : Type} {dd : α} {row : α → Nat → SC} {l : List α}
    (x : α0) (ho : ofH H h = some (.hole T0 k0 α0 d0 row0 l0 i d)) (ho' : ofH H d = some (.grow T k α dd row l)) (hi : i < l0.length) (hx : row0 x 0 = .sl k α dd row l) (hr : ∀ c, c < k0 → ¬ c = 0 → row0 x c = row0 (l0.getD i d0) c) :
    (AS.lst n L H).ent ⟨n, lkp (subL d (.sl (.sl k α dd row l)) L), fun j => bif Nat.beq j h then some (.grow T0 k0 α0 d0 row0 (l0.set i x)) else ofH (delL d (.sl (.sl k α dd row l)) H) j⟩ := by
  intro G Γ a w hC
  obtain ⟨Γ1, h1, g1, e1, m1, r1, n1, _⟩ := freeze_ok hC.heap hC.g ho' rfl
  have hdh : h ≠ d := fun e => by subst e; rw [ho] at ho'; cases ho'
  have hdel : delObj d (ofH H) h = some (.hole T0 k0 α0 d0 row0 l0 i d) := by unfold delObj; rw [beq_false hdh]; exact ho
  have hsub : ∀ j o, (bif Nat.beq j h then some (AObj.grow T0 k0 α0 d0 row0 (l0.set i x)) else ofH (delL d (.sl (.sl k α dd row l)) H) j) = some o →
      (j = h ∧ o = .grow T0 k0 α0 d0 row0 (l0.set i x)) ∨ (j ≠ h ∧ ∃ o', delObj d (ofH H) j = some o' ∧ o = subO d (.sl (.sl k α dd row l)) o') := by
    intro j o hj
    by_cases hjh : j = h
    · subst hjh; rw [Nat.beq_refl] at hj; cases hj; exact .inl ⟨rfl, rfl⟩
    · rw [beq_false hjh] at hj
      obtain ⟨g1, o', g2, g3⟩ := ofH_del d _ H hj
      refine .inr ⟨hjh, o', ?_, g3⟩
      unfold delObj
      rw [beq_false g1]; exact g2
  have old : ∀ j o, (bif Nat.beq j h then some (AObj.grow T0 k0 α0 d0 row0 (l0.set i x)) else ofH (delL d (.sl (.sl k α dd row l)) H) j) = some o → ∃ o', delObj d (ofH H) j = some o' ∧ o.width = o'.width ∧ ∀ b, fp Γ1 j o b → fp Γ1 j o' b := by
    intro j o hj
    rcases hsub j o hj with ⟨rfl, rfl⟩ | ⟨_, o', q1, rfl⟩
    · exact ⟨_, hdel, rfl, fun b hb => ⟨hb.1, trivial⟩⟩
    · exact ⟨o', q1, subO_width _ _ _, fun b hb => subO_fp.1 hb⟩
  refine ⟨Γ1, ⟨hC.size, hC.defers, fun t => ?_, ⟨fun j o hj => ?_, fun j o b hj hb => ?_, fun j o j' o' b hj hj' hb hb' => ?_, h1.ilt, h1.glob⟩, ⟨g1.os, g1.tape, g1.output, g1.size, g1.prlt, g1.keep, g1.sub, g1.bak, fun j o b hj hb => ?_⟩, fun i hi => by rw [r1, n1]; exact hC.ids i hi⟩⟩
  · have h2 := MV.ext (obj' := fun j => bif Nat.beq j h then some (AObj.grow T0 k0 α0 d0 row0 (l0.set i x)) else ofH (delL d (.sl (.sl k α dd row l)) H) j) e1 (fun j o _ hj => by
      obtain ⟨o', q1, q2, _⟩ := old j o hj
      exact ⟨o', (delObj_some q1).2, q2⟩) (fun d hd => hd.elim) (hC.regs t)
    show MV Γ1 _ w (lkp (subL d _ L) t) _
    rw [lkp_sub]
    exact subV_ok m1 h2
  · rcases hsub j o hj with ⟨rfl, rfl⟩ | ⟨_, o', q1, rfl⟩
    · obtain ⟨cap, cur, q1, q2, q3, q4, q5, ⟨q6, _⟩, q7⟩ := h1.objs j _ hdel
      refine .inr ⟨cap, cur, by rw [List.length_set]; exact q1, q2, by rw [List.length_set]; exact q3, q4, q5, fun j' x' hx' c hc => ?_⟩
      by_cases hji : j' = i
      · subst hji
        rw [List.getElem?_set_self hi] at hx'
        cases hx'
        by_cases hc0 : c = 0
        · subst hc0
          exact ⟨_, q6, by rw [hx]; exact m1⟩
        · obtain ⟨u, hu, hm⟩ := q7 j' (l0.getD j' d0) (by simp [List.getD, List.getElem?_eq_getElem hi]) c hc (fun hh => hc0 hh.2)
          exact ⟨u, hu, by rw [hr c hc hc0]; exact hm⟩
      · rw [List.getElem?_set_ne (Ne.symm hji)] at hx'
        exact q7 j' x' hx' c hc (fun hh => hji hh.1)
    · have := h1.objs j o' q1
      cases o' with
      | row cells => obtain ⟨cs, T', q2, q3⟩ := this; exact ⟨cs, T', q2, subAs_ok m1 q3⟩
      | _ => exact this
  · obtain ⟨o', q1, _, q3⟩ := old j o hj
    exact h1.lt j o' b q1 (q3 b hb)
  · obtain ⟨o1, q1, _, q3⟩ := old j o hj
    obtain ⟨o2, p1, _, p3⟩ := old j' o' hj'
    exact h1.inj j o1 j' o2 b q1 p1 (q3 b hb) (p3 b hb')
  · obtain ⟨o', q1, _, q3⟩ := old j o hj
    exact g1.own j o' b q1 (q3 b hb)
end AL
