/- An abstract logic, 8: what is kept when the world grows; the contract of a function; a slot set; an owned slice given up. No condition. -/
import Derived.Test.YtphkoklgdkimmaaAL7
namespace AL
open Go
set_option linter.unusedVariables false

/-! ### ids that a value names -/
def Cap.has (d : Nat) : Cap → Bool
  | .ptr id _ => Nat.beq id d
  | _ => false
def capsHas (d : Nat) : List Cap → Bool
  | [] => false
  | c :: l => c.has d || capsHas d l
def AC.has (d : Nat) : AC → Bool
  | .s _ => false
  | .ptr id _ => Nat.beq id d
  | .own id => Nat.beq id d
  | .fn _ caps => capsHas d caps
def acsHas (d : Nat) : List AC → Bool
  | [] => false
  | c :: l => c.has d || acsHas d l
def TV.has (d : Nat) : TV → Bool
  | .c a => a.has d
  | .agg l => acsHas d l
  | .arr .. => false
def tvsHas (d : Nat) : List TV → Bool
  | [] => false
  | c :: l => c.has d || tvsHas d l
def AV.has (d : Nat) : AV → Bool
  | .any => false
  | .t x => x.has d
  | .tup l => tvsHas d l
  | .ro _ _ => false
  | .oel id _ _ => Nat.beq id d
  | .whn _ x => x.has d
def AObj.has (d : Nat) : AObj → Bool
  | .row cells => acsHas d cells
  | _ => false

/-- Two readings of the names that agree but for those of 'D'. -/
def Agree (D : Nat → Prop) (Γ Γ' : Ctx) : Prop := ∀ id, ¬ D id → Γ'.ρ id = Γ.ρ id ∧ Γ'.η id = Γ.η id

/-- From (Γ, w) to (Γ', w'): what was shared is still shared and stands as it stood. -/
structure Ext (D : Nat → Prop) (Γ : Ctx) (w : World) (Γ' : Ctx) (w' : World) : Prop where
  sub : ∀ b, Γ.I b → Γ'.I b
  keep : ∀ b, Γ.I b → w'.heap[b]? = w.heap[b]?
  agree : Agree D Γ Γ'

section
variable {D : Nat → Prop} {Γ Γ' : Ctx} {w w' : World}

theorem MCap.ext (h : Ext D Γ w Γ' w') {c v} (hd : ∀ d, D d → c.has d = false) (hm : MCap Γ w c v) : MCap Γ' w' c v := by
  cases c with
  | s c => exact MS.mono h.sub h.keep hm
  | ptr id off =>
    have : ¬ D id := fun hD => by have := hd id hD; simp [Cap.has] at this
    simp only [MCap] at hm ⊢
    rw [(h.agree id this).1]; exact hm

theorem MCaps.ext (h : Ext D Γ w Γ' w') : ∀ {l : List Cap} {vs : List Value}, (∀ d, D d → capsHas d l = false) → MCaps Γ w l vs → MCaps Γ' w' l vs
  | [], [], _, _ => trivial
  | c :: l, v :: vs, hd, hm => by
    refine ⟨MCap.ext h (fun d hD => ?_) hm.1, MCaps.ext h (fun d hD => ?_) hm.2⟩ <;> have := hd d hD <;> simp [capsHas] at this
    · exact this.1
    · exact this.2
  | [], _ :: _, _, hm => hm.elim
  | _ :: _, [], _, hm => hm.elim

theorem MC.ext (h : Ext D Γ w Γ' w') {c v} (hd : ∀ d, D d → c.has d = false) (hm : MC Γ w c v) : MC Γ' w' c v := by
  cases c with
  | s c => exact MS.mono h.sub h.keep hm
  | ptr id off =>
    have : ¬ D id := fun hD => by have := hd id hD; simp [AC.has] at this
    simp only [MC] at hm ⊢
    rw [(h.agree id this).1]; exact hm
  | own id =>
    have : ¬ D id := fun hD => by have := hd id hD; simp [AC.has] at this
    simp only [MC] at hm ⊢
    rw [(h.agree id this).2]; exact hm
  | fn f caps =>
    obtain ⟨cs, rfl, hc⟩ := hm
    exact ⟨cs, rfl, MCaps.ext h hd hc⟩

theorem MCs.ext (h : Ext D Γ w Γ' w') : ∀ {l : List AC} {vs : List Value}, (∀ d, D d → acsHas d l = false) → MCs Γ w l vs → MCs Γ' w' l vs
  | [], [], _, _ => trivial
  | c :: l, v :: vs, hd, hm => by
    refine ⟨MC.ext h (fun d hD => ?_) hm.1, MCs.ext h (fun d hD => ?_) hm.2⟩ <;> have := hd d hD <;> simp [acsHas] at this
    · exact this.1
    · exact this.2
  | [], _ :: _, _, hm => hm.elim
  | _ :: _, [], _, hm => hm.elim

theorem MT.ext (h : Ext D Γ w Γ' w') {c v} (hd : ∀ d, D d → c.has d = false) (hm : MT Γ w c v) : MT Γ' w' c v := by
  cases c with
  | c a => exact MC.ext h hd hm
  | agg l => obtain ⟨cs, rfl, hc⟩ := hm; exact ⟨cs, rfl, MCs.ext h hd hc⟩
  | arr k n α d row l =>
    obtain ⟨cs, rfl, h1, h2, h3⟩ := hm
    exact ⟨cs, rfl, h1, h2, fun j x hx i hi => by obtain ⟨u, hu, hm⟩ := h3 j x hx i hi; exact ⟨u, hu, MS.mono h.sub h.keep hm⟩⟩

theorem MTs.ext (h : Ext D Γ w Γ' w') : ∀ {l : List TV} {vs : List Value}, (∀ d, D d → tvsHas d l = false) → MTs Γ w l vs → MTs Γ' w' l vs
  | [], [], _, _ => trivial
  | c :: l, v :: vs, hd, hm => by
    refine ⟨MT.ext h (fun d hD => ?_) hm.1, MTs.ext h (fun d hD => ?_) hm.2⟩ <;> have := hd d hD <;> simp [tvsHas] at this
    · exact this.1
    · exact this.2
  | [], _ :: _, _, hm => hm.elim
  | _ :: _, [], _, hm => hm.elim

theorem MV.ext (h : Ext D Γ w Γ' w') {obj obj' : Nat → Option AObj} (ho : ∀ id o', ¬ D id → obj' id = some o' → ∃ o, obj id = some o ∧ o'.width = o.width) :
    ∀ {c v}, (∀ d, D d → c.has d = false) → MV Γ obj w c v → MV Γ' obj' w' c v := by
  intro c
  induction c with
  | any => intro v _ _; trivial
  | t x => intro v hd hm; exact MT.ext h hd hm
  | tup l => intro v hd hm; obtain ⟨vs, rfl, hv⟩ := hm; exact ⟨vs, rfl, MTs.ext h hd hv⟩
  | ro n f =>
    intro v hd hm
    obtain ⟨b, off, rfl, hb, hf⟩ := hm
    refine ⟨b, off, rfl, h.sub b hb, fun i hi => ?_⟩
    obtain ⟨u, hu, hm⟩ := hf i hi
    exact ⟨u, by rw [World.cell?_of_block (w := w) (h.keep b hb)]; exact hu, MS.mono h.sub h.keep hm⟩
  | oel id i j =>
    intro v hd hm
    have hD : ¬ D id := fun hD => by have := hd id hD; simp [AV.has] at this
    obtain ⟨k, rfl, hk⟩ := hm
    refine ⟨k, by rw [(h.agree id hD).1], fun o ho' => ?_⟩
    obtain ⟨o1, h1, h2⟩ := ho id o hD ho'
    rw [h2]; exact hk o1 h1
  | whn p x ih => intro v hd hm; exact ⟨fun hp => ih hd (hm.1 hp), hm.2⟩

/-- An owned object stays, where its block stays. -/
theorem MO.ext (h : Ext D Γ w Γ' w') {id : Nat} {o : AObj} (hid : ¬ D id) (hd : ∀ d, D d → o.has d = false) (hb : ∀ b, fp Γ id o b → w'.heap[b]? = w.heap[b]?) (hm : MO Γ w id o) : MO Γ' w' id o := by
  obtain ⟨e1, e2⟩ := h.agree id hid
  cases o with
  | row cells =>
    obtain ⟨cs, T, h1, h2⟩ := hm
    exact ⟨cs, T, by rw [e1, hb _ ⟨rfl, trivial⟩]; exact h1, MCs.ext h hd h2⟩
  | grow T k α d row l =>
    rcases hm with ⟨h1, h2⟩ | ⟨cap, cur, h1, h2, h3, h4, h5, h6⟩
    · exact .inl ⟨by rw [e2]; exact h1, h2⟩
    · refine .inr ⟨cap, cur, by rw [e2, e1]; exact h1, by rw [e1, hb _ ⟨rfl, by rw [h1]; simp⟩]; exact h2, h3, h4, h5, fun j x hx i hi => ?_⟩
      obtain ⟨u, hu, hm⟩ := h6 j x hx i hi
      exact ⟨u, hu, MS.mono h.sub h.keep hm⟩
  | arr k n α d row l =>
    obtain ⟨cur, T, h1, h2, h3, h4⟩ := hm
    refine ⟨cur, T, by rw [e1, hb _ ⟨rfl, trivial⟩]; exact h1, h2, h3, fun j x hx i hi => ?_⟩
    obtain ⟨u, hu, hm⟩ := h4 j x hx i hi
    exact ⟨u, hu, MS.mono h.sub h.keep hm⟩
  | iter s pos => simp only [MO] at hm ⊢; rw [e1, hb _ ⟨rfl, trivial⟩]; exact hm

theorem fp.ext (h : Agree D Γ Γ') {id : Nat} {o : AObj} (hid : ¬ D id) {b : Nat} : fp Γ' id o b ↔ fp Γ id o b := by
  obtain ⟨e1, e2⟩ := h id hid
  cases o <;> simp [fp, e1, e2]
end

/-! ### A slot set -/
def AS.set (s : AS) (dst : Option Tmp) (v : AV) : AS :=
  match dst with
  | none => s
  | some d => { s with reg := fun t => bif Nat.beq t d then v else s.reg t }

theorem beq_false {a b : Nat} (h : a ≠ b) : Nat.beq a b = false := by
  cases hb : Nat.beq a b with
  | false => rfl
  | true => exact absurd (Nat.eq_of_beq_eq_true hb) h

theorem conc_set {G Γ s a w dst v u} (h : Conc G Γ s a w) (hd : ∀ d, dst = some d → d < s.n) (hv : MV Γ s.obj w v u) : Conc G Γ (s.set dst v) (a.put dst u) w := by
  cases dst with
  | none => exact h
  | some d =>
    have hlt := hd d rfl
    refine ⟨by simp [Act.put, AS.set, h.size], h.defers, fun t => ?_, h.heap, h.g, h.ids⟩
    simp only [AS.set, Act.put]
    by_cases ht : t = d
    · subst ht
      have : (a.tmps.setIfInBounds t u).getD t undef = u := by simp [Array.getD, h.size, hlt]
      rw [this, show Nat.beq t t = true from Nat.beq_refl t]
      exact hv
    · have : (a.tmps.setIfInBounds d u).getD t undef = a.tmps.getD t undef := by
        simp only [Array.getD_eq_getD_getElem?]
        rw [Array.getElem?_setIfInBounds_ne (Ne.symm ht)]
      rw [this, beq_false ht]
      exact h.regs t

/-! ### Contracts -/
/-- f is a function of the program with a body, and is entered by a call. -/
def Callable (P : Program) (f : FuncId) : Prop := ∃ fn, P.funcs[f]? = some fn ∧ fn.body.isSome = true ∧ (fn.name == "runtime.NumGoroutine") = false

/-- The blocks that a call may not touch: those that are there, but for its own objects'. -/
def prOf (Γ : Ctx) (H : Nat → Option AObj) (w : World) (b : Nat) : Prop := b < w.heap.size ∧ ∀ id o, H id = some o → ¬ fp Γ id o b

/-- The call of f with these arguments, owning the objects of H, returns 'res' and owns those of H'. -/
def Spec (P : Program) (f : FuncId) (args : List TV) (H : Nat → Option AObj) (res : AV) (H' : Nat → Option AObj) : Prop :=
  Callable P f ∧ ∀ (Γ : Ctx) (w : World) (cargs : Array Value), HeapOk Γ H w → MTs Γ w args cargs.toList →
    Calls P f cargs w fun e w' => ∃ v Γ', e = .returned v ∧ MV Γ' H' w' res v ∧ HeapOk Γ' H' w' ∧ GOk ⟨w, prOf Γ H w, Γ.I, Γ.ρ, Γ.η⟩ Γ' H' w' ∧
      Agree (fun id => H' id ≠ none ∧ H id = none) Γ Γ'

def H0 : Nat → Option AObj := fun _ => none

/-- A contract of a function that owns nothing and hands out nothing that is its own. -/
abbrev Pure (P : Program) (f : FuncId) (args : List TV) (res : AV) : Prop := Spec P f args H0 res H0
end AL
