/- An abstract logic, 30: what says more may stand for what says less; a slice that may be nil; functions that hand out a slice of their own. No condition. -/
import Derived.Test.YtphkoklgdkimmaaAL29
namespace AL
open Go
set_option linter.unusedVariables false

/-! ### Less -/
def AC.le (a b : AC) : Prop := ∀ Γ w v, MC Γ w a v → MC Γ w b v
def acsLe : List AC → List AC → Prop
  | [], [] => True
  | a :: l, b :: m => AC.le a b ∧ acsLe l m
  | _, _ => False
def TV.le (a b : TV) : Prop := ∀ Γ w v, MT Γ w a v → MT Γ w b v
def tvsLe : List TV → List TV → Prop
  | [], [] => True
  | a :: l, b :: m => TV.le a b ∧ tvsLe l m
  | _, _ => False
def AV.le (a b : AV) : Prop := ∀ Γ obj w v, MV Γ obj w a v → MV Γ obj w b v

theorem AC.le_rfl {a : AC} : AC.le a a := fun _ _ _ h => h
theorem TV.le_rfl {a : TV} : TV.le a a := fun _ _ _ h => h
theorem AC.le_nil {k α d row} : AC.le (.s .nilsl) (.s (.sl k α d row [])) := by
  intro Γ w v h
  have h : v = .slice none 0 0 := h
  subst h
  exact ⟨none, 0, rfl, Nat.le_refl _, Nat.zero_le _, .inl ⟨rfl, fun _ => rfl⟩⟩
theorem AC.le_nn {c} : AC.le (.s (.nn c)) (.s c) := fun _ _ _ h => h.1
theorem acsLe.ok {Γ w} : ∀ {l m : List AC} {vs : List Value}, acsLe l m → MCs Γ w l vs → MCs Γ w m vs
  | [], [], _, _, h => h
  | _ :: _, _ :: _, _ :: _, h, h' => ⟨h.1 _ _ _ h'.1, acsLe.ok h.2 h'.2⟩
  | [], _ :: _, _, h, _ => h.elim
  | _ :: _, [], _, h, _ => h.elim
  | _ :: _, _ :: _, [], _, h => h.elim
theorem TV.le_c {a b : AC} (h : AC.le a b) : TV.le (.c a) (.c b) := fun Γ w v hv => h Γ w v hv
theorem TV.le_agg {l m : List AC} (h : acsLe l m) : TV.le (.agg l) (.agg m) := fun Γ w v ⟨cs, e, hm⟩ => ⟨cs, e, h.ok hm⟩
theorem tvsLe.ok {Γ w} : ∀ {l m : List TV} {vs : List Value}, tvsLe l m → MTs Γ w l vs → MTs Γ w m vs
  | [], [], _, _, h => h
  | _ :: _, _ :: _, _ :: _, h, h' => ⟨h.1 _ _ _ h'.1, tvsLe.ok h.2 h'.2⟩
  | [], _ :: _, _, h, _ => h.elim
  | _ :: _, [], _, h, _ => h.elim
  | _ :: _, _ :: _, [], _, h => h.elim
theorem AV.le_t {a b : TV} (h : TV.le a b) : AV.le (.t a) (.t b) := fun Γ obj w v hv => h Γ w v hv
theorem AV.le_tup {l m : List TV} (h : tvsLe l m) : AV.le (.tup l) (.tup m) := fun Γ obj w v ⟨cs, e, hm⟩ => ⟨cs, e, h.ok hm⟩

theorem Spec.weak {P : Program} {f : FuncId} {args args' : List TV} {H H' : Nat → Option AObj} {res : AV} (h : tvsLe args args') (hs : Spec P f args' H res H') : Spec P f args H res H' :=
  ⟨hs.1, fun Γ w cargs hh hm => hs.2 Γ w cargs hh (h.ok hm)⟩

/-- A slot told less of. -/
theorem ent_weak {s : AS} (t : Nat) {v v' : AV} (ht : s.reg t = v) (h : AV.le v v') : s.ent (s.set (some t) v') := by
  intro G Γ a w hC
  refine ⟨Γ, hC.size, hC.defers, fun t' => ?_, hC.heap, hC.g, hC.ids⟩
  simp only [AS.set]
  by_cases hx : t' = t
  · subst hx
    rw [Nat.beq_refl]
    have := hC.regs t'
    rw [ht] at this
    exact h _ _ _ _ this
  · rw [beq_false hx]; exact hC.regs t'

/-- The cells of an owned object told less of. -/
theorem ent_row {s : AS} (id : Nat) {l m : List AC} (ho : s.obj id = some (.row l)) (h : acsLe l m) : s.ent ⟨s.n, s.reg, fun j => bif Nat.beq j id then some (.row m) else s.obj j⟩ := by
  intro G Γ a w hC
  have key : ∀ j o, (bif Nat.beq j id then some (.row m) else s.obj j) = some o → ∃ o', s.obj j = some o' ∧ o'.width = o.width ∧ (∀ b, fp Γ j o b → fp Γ j o' b) ∧ (MO Γ w j o' → MO Γ w j o) := by
    intro j o hj
    by_cases hx : j = id
    · subst hx
      rw [Nat.beq_refl] at hj
      cases hj
      refine ⟨_, ho, rfl, fun b hb => hb, ?_⟩
      rintro ⟨cs, T, h1, h2⟩
      exact ⟨cs, T, h1, h.ok h2⟩
    · rw [beq_false hx] at hj
      exact ⟨o, hj, rfl, fun b hb => hb, fun h => h⟩
  refine ⟨Γ, hC.size, hC.defers, fun t => ?_, ⟨fun j o hj => ?_, fun j o b hj hb => ?_, fun j o j' o' b hj hj' hb hb' => ?_, hC.heap.ilt⟩, ⟨hC.g.os, hC.g.tape, hC.g.output, hC.g.size, hC.g.prlt, hC.g.keep, hC.g.sub, hC.g.bak, fun j o b hj hb => ?_⟩, hC.ids⟩
  · refine MV.ext (D := fun _ => False) ⟨fun b hb => hb, fun b hb => rfl, fun _ _ => ⟨rfl, rfl⟩⟩ (fun j o _ hj => ?_) (fun d hd => hd.elim) (hC.regs t)
    obtain ⟨o', h1, h2, _⟩ := key j o hj
    exact ⟨o', h1, h2.symm⟩
  · obtain ⟨o', h1, _, _, h4⟩ := key j o hj
    exact h4 (hC.heap.objs j o' h1)
  · obtain ⟨o', h1, _, h3, _⟩ := key j o hj
    exact hC.heap.lt j o' b h1 (h3 b hb)
  · obtain ⟨o1, h1, _, h3, _⟩ := key j o hj
    obtain ⟨o2, g1, _, g3, _⟩ := key j' o' hj'
    exact hC.heap.inj j o1 j' o2 b h1 g1 (h3 b hb) (g3 b hb')
  · obtain ⟨o', h1, _, h3, _⟩ := key j o hj
    exact hC.g.own j o' b h1 (h3 b hb)

section
variable {P : Program} {R : Exit → AS → Prop} {K : List KI} {s : AS}
/-- A slice is nil, or it is not. -/
theorem AMx.isnil {c : Code} (t : Nat) {k : Nat} {α : Type} {d : α} {row : α → Nat → SC} {l : List α} (ht : s.reg t = vc (.sl k α d row l)) (h1 : l = [] → AMx P R (.code c :: K) .normal (s.set (some t) (vc .nilsl)))
    (h2 : AMx P R (.code c :: K) .normal (s.set (some t) (vc (.nn (.sl k α d row l))))) : AMx P R (.code c :: K) .normal s := by
  intro G Γ a w hC
  have hv := hC.regs t
  rw [ht] at hv
  have hv' : MS Γ.I w (.sl k α d row l) (a.tmps.getD t undef) := hv
  obtain ⟨ad, cap, e, e1, e2, e3⟩ := hv
  have mk : ∀ v', MV Γ s.obj w v' (a.tmps.getD t undef) → Conc G Γ (s.set (some t) v') a w := fun v' hv' => by
    refine ⟨hC.size, hC.defers, fun t' => ?_, hC.heap, hC.g, hC.ids⟩
    simp only [AS.set]
    by_cases hx : t' = t
    · subst hx; rw [Nat.beq_refl]; exact hv'
    · rw [beq_false hx]; exact hC.regs t'
  cases ad with
  | none =>
    have hl : l = [] ∧ cap = 0 := by
      rcases e3 with ⟨h, h'⟩ | ⟨b, off, h, _⟩
      · exact ⟨h, h' rfl⟩
      · cases h
    obtain ⟨rfl, rfl⟩ := hl
    exact h1 rfl G Γ a w (mk _ e)
  | some ad => exact h2 G Γ a w (mk _ ⟨hv', ad, _, _, e⟩)
end

/-! ### What is known of numbers and lengths -/
theorem MCs.len {Γ : Ctx} {w : World} {k : Nat} {α : Type} {d : α} {row : α → Nat → SC} {m : List α} : ∀ {l : List AC} {vs : List Value} {i : Nat}, MCs Γ w l vs → l[i]? = some (.s (.sl k α d row m)) → m.length ≤ maxLen
  | c :: l, v :: vs, 0, h, hi => by
    simp at hi; subst hi
    obtain ⟨a, cap, _, h1, h2, _⟩ := (show MS Γ.I w (.sl k α d row m) v from h.1)
    omega
  | c :: l, v :: vs, i + 1, h, hi => MCs.len h.2 (by simpa using hi)
  | [], [], i, _, hi => by simp at hi
section
variable {P : Program} {R : Exit → AS → Prop} {K : List KI} {s : AS}
/-- A slice in a slot of many cells: its length. -/
theorem AMx.celln {c : Code} (t i : Nat) {l : List AC} {k : Nat} {α : Type} {d : α} {row : α → Nat → SC} {m : List α} (ht : s.reg t = .t (.agg l)) (hi : l[i]? = some (.s (.sl k α d row m))) (h : m.length ≤ maxLen → AMx P R (.code c :: K) .normal s) : AMx P R (.code c :: K) .normal s :=
  AMx.learn _ (fun G Γ a w hC => by have := hC.regs t; rw [ht] at this; obtain ⟨cs, _, hm⟩ := this; exact hm.len hi) h
/-- The numbers in a slice: each is of its kind. -/
theorem AMx.slint {c : Code} (t i : Nat) {k : Nat} {α : Type} {d : α} {row : α → Nat → SC} {m : List α} {ik : IntKind} {f : α → Int} (ht : s.reg t = vc (.sl k α d row m)) (hi : i < k) (hr : ∀ x, row x i = .int ik (f x)) (h : (∀ x ∈ m, InR ik (f x)) → AMx P R (.code c :: K) .normal s) : AMx P R (.code c :: K) .normal s :=
  AMx.learn _ (fun G Γ a w hC => by
    have := hC.regs t
    rw [ht] at this
    obtain ⟨ad, cap, _, _, _, h3⟩ := (show MS Γ.I w (.sl k α d row m) (a.tmps.getD t undef) from this)
    intro x hx
    rcases h3 with ⟨rfl, _⟩ | ⟨b, off, _, _, h3⟩
    · cases hx
    · obtain ⟨j, hj⟩ := List.getElem?_of_mem hx
      obtain ⟨u, _, hm⟩ := h3 j x hj i hi
      rw [hr] at hm
      exact hm.2) h
end

/-! ### A function that hands out a slice of its own -/
def isGrow : AObj → Bool
  | .grow .. => true
  | _ => false
def RetO (P : Program) (fn : Func) (o : AObj) (e : Exit) (s : AS) : Prop :=
  (e = .ret ∨ e = .normal) ∧ ∃ id o', evRes P fn s = some (.t (.c (.own id))) ∧ s.obj id = some o' ∧ o' = o

theorem Own.of_body {P : Program} {f : FuncId} {fn : Func} {c : Code} {args : List TV} {o : AObj} {n : Nat} (hf : P.funcs[f]? = some fn) (hb : fn.body = some c) (hn : (fn.name == "runtime.NumGoroutine") = false)
    (hnt : fn.ntmps = n) (hle : Nat.ble args.length n = true) (hg : isGrow o = true) (h : AMx P (RetO P fn o) [.code c] .normal (AS.lst n (argRegs 0 args) [])) (d : Nat) : Spec P f args H0 (vo d) (ofH [(d, o)]) := by
  refine ⟨⟨fn, hf, by rw [hb]; rfl, hn⟩, fun Γ w cargs hh hm => ?_⟩
  refine calls_of_wp hf hb ?_
  have hC := body_start (P := P) (H := []) hnt hle hh hm
  refine wp_mono (h _ _ _ _ hC) ?_
  rintro e a' w' ⟨s', Γ', ⟨he, id, _, hr, hid, rfl⟩, hC'⟩
  obtain ⟨v, h1, h2, h3⟩ := res_ok (P := P) (fn := fn) hC' hr
  rename_i o
  have hpost : a'.defers = [] ∧ ∃ v, (results fn a'.tmps).run P w' = Result.ok v w' ∧ ∃ v_1 Γ', Ending.returned v = .returned v_1 ∧ MV Γ' (ofH [(d, o)]) w' (vo d) v_1 ∧ HeapOk Γ' (ofH [(d, o)]) w' ∧ GOk ⟨w, prOf Γ (ofH []) w, Γ.I, Γ.ρ, Γ.η⟩ Γ' (ofH [(d, o)]) w' ∧ Agree (fun id => ofH [(d, o)] id ≠ none ∧ H0 id = none) Γ Γ' := by
    let Γ2 : Ctx := ⟨Γ'.I, fun j => bif Nat.beq j d then Γ'.ρ id else Γ.ρ j, fun j => bif Nat.beq j d then Γ'.η id else Γ.η j⟩
    have er : Γ2.ρ d = Γ'.ρ id := by show (bif Nat.beq d d then _ else _) = _; rw [Nat.beq_refl]; rfl
    have ee : Γ2.η d = Γ'.η id := by show (bif Nat.beq d d then _ else _) = _; rw [Nat.beq_refl]; rfl
    have hfp : ∀ b, fp Γ2 d o b → fp Γ' id o b := fun b hb => by
      unfold fp at hb ⊢
      rw [er, ee] at hb
      exact hb
    refine ⟨hC'.defers, v, h1, v, Γ2, rfl, ?_, ⟨fun j o' hj => ?_, fun j o' b hj hb => ?_, fun j o1 j' o2 b hj hj' _ _ => ?_, hC'.heap.ilt⟩,
      ⟨hC'.g.os, hC'.g.tape, hC'.g.output, hC'.g.size, hC'.g.prlt, hC'.g.keep, hC'.g.sub, hC'.g.bak, fun j o' b hj hb => ?_⟩, fun j hj => ?_⟩
    · have h2' : v = Γ'.η id ∧ v.oneCell' = true := h2
      exact ⟨h2'.1.trans ee.symm, h2'.2⟩
    · obtain ⟨rfl, rfl⟩ := ofH_one.1 hj
      have := hC'.heap.objs id _ hid
      cases o' with
      | grow T k α dd row l =>
        unfold MO at this ⊢
        rw [er, ee]
        exact this
      | _ => cases hg
    · obtain ⟨rfl, rfl⟩ := ofH_one.1 hj
      exact hC'.heap.lt id _ b hid (hfp b hb)
    · obtain ⟨rfl, _⟩ := ofH_one.1 hj
      obtain ⟨rfl, _⟩ := ofH_one.1 hj'
      rfl
    · obtain ⟨rfl, rfl⟩ := ofH_one.1 hj
      exact hC'.g.own id _ b hid (hfp b hb)
    · have : j ≠ d := fun e => hj ⟨by subst e; rw [ofH_one.2 ⟨rfl, rfl⟩]; simp, rfl⟩
      refine ⟨?_, ?_⟩
      · show (bif Nat.beq j d then _ else _) = _; rw [beq_false this]; rfl
      · show (bif Nat.beq j d then _ else _) = _; rw [beq_false this]; rfl
  rcases he with rfl | rfl
  · exact hpost
  · exact hpost
end AL
