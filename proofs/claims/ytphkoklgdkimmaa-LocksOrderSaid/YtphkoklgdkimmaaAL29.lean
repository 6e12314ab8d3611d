/- An abstract logic, 29: arguments of many cells. No condition. -/
import Derived.Test.YtphkoklgdkimmaaAL28
namespace AL
open Go
set_option linter.unusedVariables false

theorem okWide_st {P : Program} {t : TypeId} {fs : Array Field} {w : World} {r : Reach} {base : Nat} {v : Value} (ht : P.underlying t = some (.struct fs)) (h : Value.okWide P w r base t v) : ∃ cs, v = .agg cs := by
  unfold Value.okWide at h; rw [ht] at h; obtain ⟨cs, h, _⟩ := h; exact ⟨cs, h⟩
theorem okWide_ar {P : Program} {t e : TypeId} {n : Nat} {w : World} {r : Reach} {base : Nat} {v : Value} (ht : P.underlying t = some (.array n e)) (h : Value.okWide P w r base t v) : ∃ cs, v = .agg cs := by
  unfold Value.okWide at h; rw [ht] at h; obtain ⟨cs, h, _⟩ := h; exact ⟨cs, h⟩

theorem Reads.array {P : Program} {t e : TypeId} {n k : Nat} {α : Type} {row : α → Nat → SC} (hr : Reads P e α row) (ht : P.underlying t = some (.array n e)) (he : P.cellsOf e = k) (hc : P.cellsOf t = n * k) (h0 : 0 < k) (d : α) :
    Reads P t (Nat → α) (fun f i => row (f (i / k)) (i % k)) := by
  intro H enc w spare held fuel cs x h
  obtain ⟨xs, m, _, _, hl, hlen, hx⟩ := DataW.trod_array ht h
  have hel : ∀ i, i < n → ∃ y : α, ∀ j v, j < k → cs[i * k + j]? = some v → MS (Iw w) w (row y j) v := by
    intro i hi
    have h1 := hx i hi
    rw [List.getElem?_eq_getElem (by omega)] at h1
    obtain ⟨y, _, h2⟩ := hr h1
    refine ⟨y, fun j v hj hv => h2 j v ?_⟩
    rw [List.getElem?_take_of_lt (by omega), List.getElem?_drop, he]
    exact hv
  refine ⟨fun i => if h : i < n then Classical.choose (hel i h) else d, hl, fun i v hi => ?_⟩
  have hin : i < n * k := by rw [← hc, ← hl]; exact (List.getElem?_eq_some_iff.1 hi).1
  have hdiv : i / k < n := (Nat.div_lt_iff_lt_mul h0).2 hin
  have := Classical.choose_spec (hel (i / k) hdiv)
  simp only [dif_pos hdiv]
  refine this (i % k) v (Nat.mod_lt _ h0) ?_
  rw [show i / k * k + i % k = i by rw [Nat.mul_comm]; exact Nat.div_add_mod i k]
  exact hi

theorem mcs_ofS {Γ : Ctx} {w : World} : ∀ (k : Nat) (f : Nat → SC) (vs : List Value), vs.length = k → (∀ i v, vs[i]? = some v → MS Γ.I w (f i) v) → MCs Γ w (ofS k f) vs := by
  intro k f vs hl h
  have key : ∀ (l : List Nat) (vs : List Value), vs.length = l.length → (∀ (i : Nat) (v : Value) (q : Nat), vs[i]? = some v → l[i]? = some q → MS Γ.I w (f q) v) → MCs Γ w (l.map fun i => AC.s (f i)) vs := by
    intro l
    induction l with
    | nil => intro vs hl _; cases vs with
      | nil => trivial
      | cons v vs => simp at hl
    | cons q l ih =>
      intro vs hl h
      cases vs with
      | nil => simp at hl
      | cons v vs => exact ⟨h 0 v q rfl rfl, ih vs (by simpa using hl) fun i u q' h1 h2 => h (i + 1) u q' h1 h2⟩
  refine key (List.range k) vs (by simpa using hl) fun i v q h1 h2 => ?_
  have hi : i < k := by
    have := (List.getElem?_eq_some_iff.1 h2).1
    simpa using this
  rw [List.getElem?_range hi] at h2
  cases h2
  exact h i v h1

/-- An argument of many cells. -/
theorem Reads.agg {P : Program} {t : TypeId} {α : Type} {row : α → Nat → SC} {k : Nat} (hr : Reads P t α row) (hk : P.cellsOf t = k) {H : Type} {enc : TypeId × Value → H} {w : World} {spare : Nat → Bool} {held : Bool} {cs : Array Value} {d : DataW H} {ps : List MemPlace}
    (h : DataW.Trod enc P w 0 spare held t (.agg cs) d ps) : ∃ a : α, MT (Γw w) w (.agg (ofS k (row a))) (.agg cs) := by
  obtain ⟨fuel, hf⟩ := h
  obtain ⟨a, h1, h2⟩ := hr hf
  exact ⟨a, cs, rfl, mcs_ofS k _ _ (by rw [← hk, ← h1]; rfl) h2⟩

theorem MCs.int {Γ : Ctx} {w : World} {k : IntKind} {n : Int} : ∀ {l : List AC} {vs : List Value} {i : Nat}, MCs Γ w l vs → l[i]? = some (.s (.int k n)) → InR k n
  | c :: l, v :: vs, 0, h, hi => by simp at hi; subst hi; exact h.1.2
  | c :: l, v :: vs, i + 1, h, hi => MCs.int h.2 (by simpa using hi)
  | [], [], i, _, hi => by simp at hi

/-- A number in a slot of many cells: it is of its kind. -/
theorem AMx.cell {P : Program} {R : Exit → AS → Prop} {k : List KI} {c : Code} {s : AS} (t : Nat) (i : Nat) {l : List AC} {ik n} (ht : s.reg t = .t (.agg l)) (hi : l[i]? = some (.s (.int ik n))) (h : InR ik n → AMx P R (.code c :: k) .normal s) : AMx P R (.code c :: k) .normal s :=
  AMx.learn _ (fun G Γ a w hC => by have := hC.regs t; rw [ht] at this; obtain ⟨cs, _, hm⟩ := this; exact hm.int hi) h
end AL
