/- An abstract logic, 39: the numbers of a slice that lies in a slot of many cells. No condition. -/
import Derived.Test.YtiiiecdfganahaaDoorALe
namespace AL
open Go
set_option linter.unusedVariables false

theorem MCs.slint {Γ : Ctx} {w : World} {k : Nat} {α : Type} {d : α} {row : α → Nat → SC} {m : List α} {ik : IntKind} {f : α → Int} {j : Nat} (hj : j < k) (hr : ∀ x, row x j = .int ik (f x)) : ∀ {l : List AC} {vs : List Value} {i : Nat}, MCs Γ w l vs → l[i]? = some (.s (.sl k α d row m)) → ∀ x ∈ m, InR ik (f x)
  | c :: l, v :: vs, 0, h, hi => by
    simp at hi
    subst hi
    obtain ⟨ad, cap, _, _, _, h3⟩ := (show MS Γ.I w (.sl k α d row m) v from h.1)
    intro x hx
    rcases h3 with ⟨rfl, _⟩ | ⟨b, off, _, _, h3⟩
    · cases hx
    · obtain ⟨q, hq⟩ := List.getElem?_of_mem hx
      obtain ⟨u, _, hm⟩ := h3 q x hq j hj
      rw [hr] at hm
      exact hm.2
  | c :: l, v :: vs, i + 1, h, hi => MCs.slint hj hr h.2 (by simpa using hi)
  | [], [], i, _, hi => by simp at hi
/-- The numbers in a slice that lies in a slot of many cells: each is of its kind. -/
theorem AMx.cellslint {P : Program} {R : Exit → AS → Prop} {K : List KI} {s : AS} {c : Code} (t i j : Nat) {l : List AC} {k : Nat} {α : Type} {d : α} {row : α → Nat → SC} {m : List α} {ik : IntKind} {f : α → Int} (ht : s.reg t = .t (.agg l)) (hi : l[i]? = some (.s (.sl k α d row m))) (hj : j < k)
    (hr : ∀ x, row x j = .int ik (f x)) (h : (∀ x ∈ m, InR ik (f x)) → AMx P R (.code c :: K) .normal s) : AMx P R (.code c :: K) .normal s :=
  AMx.learn _ (fun G Γ a w hC => by have := hC.regs t; rw [ht] at this; obtain ⟨cs, _, hm⟩ := this; exact hm.slint hj hr hi) h
theorem inR16 {n : Int} (h : InR .u16 n) : 0 ≤ n ∧ n ≤ 65535 := by
  simpa [InR, IntKind.min, IntKind.max, IntKind.signed, IntKind.bits] using h
end AL
