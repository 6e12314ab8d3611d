/- An abstract logic, 21: what may be done to a state between two steps: an owned slice given up; nil as an owned slice; names changed; bounds learnt. No condition. -/
import Derived.Test.YtphkoklgdkimmaaAL20
namespace AL
open Go
set_option linter.unusedVariables false

/-! ### The list form -/
def subV (id : Nat) (c : FzV) : AV → AV
  | .t x => .t (subT id c x)
  | .tup l => .tup (l.map (subT id c))
  | .whn p x => .whn p (subV id c x)
  | x => x

def subL (id : Nat) (c : FzV) : List (Nat × AV) → List (Nat × AV)
  | [] => []
  | (t, v) :: l => (t, subV id c v) :: subL id c l

def subO (id : Nat) (c : FzV) : AObj → AObj
  | .row cells => .row (cells.map (subA id c))
  | o => o

def delL (id : Nat) (c : FzV) : List (Nat × AObj) → List (Nat × AObj)
  | [] => []
  | (j, o) :: l => bif Nat.beq j id then delL id c l else (j, subO id c o) :: delL id c l

theorem lkp_sub (id : Nat) (c : FzV) : ∀ (L : List (Nat × AV)) (t : Nat), lkp (subL id c L) t = subV id c (lkp L t)
  | [], t => rfl
  | (i, v) :: L, t => by
    simp only [subL, lkp]
    cases Nat.beq t i
    · exact lkp_sub id c L t
    · rfl

theorem ofH_del (id : Nat) (c : FzV) : ∀ (H : List (Nat × AObj)) {j o}, ofH (delL id c H) j = some o → j ≠ id ∧ ∃ o', ofH H j = some o' ∧ o = subO id c o'
  | [], j, o, h => by cases h
  | (i, o1) :: H, j, o, h => by
    simp only [delL] at h
    by_cases hi : i = id
    · subst hi
      rw [Nat.beq_refl] at h
      obtain ⟨h1, o', h2, h3⟩ := ofH_del i c H h
      refine ⟨h1, o', ?_, h3⟩
      simp only [ofH]
      rw [beq_false h1]
      exact h2
    · rw [beq_false hi] at h
      simp only [cond_false, ofH] at h ⊢
      by_cases hj : j = i
      · subst hj
        rw [Nat.beq_refl] at h ⊢
        cases h
        exact ⟨hi, o1, rfl, rfl⟩
      · rw [beq_false hj] at h ⊢
        exact ofH_del id c H h

theorem subV_ok {Γ : Ctx} {obj : Nat → Option AObj} {w : World} {id : Nat} {c : FzV} (hc : FzOk Γ w id c) : ∀ {x v}, MV Γ obj w x v → MV Γ obj w (subV id c x) v := by
  intro x
  induction x with
  | t x => intro v h; exact subT_ok hc h
  | tup l => rintro v ⟨vs, rfl, h⟩; exact ⟨vs, rfl, subTs_ok hc h⟩
  | whn p x ih => intro v h; exact ⟨fun hp => ih (h.1 hp), h.2⟩
  | _ => intro v h; exact h

theorem subO_width (id : Nat) (c : FzV) (o : AObj) : (subO id c o).width = o.width := by cases o <;> rfl
theorem subO_fp {Γ : Ctx} {id j : Nat} {c : FzV} {o : AObj} {b : Nat} : fp Γ j (subO id c o) b ↔ fp Γ j o b := by cases o <;> exact Iff.rfl

/-- An owned slice given up, all over the state. -/
theorem ent_freeze0 {n : Nat} {L : List (Nat × AV)} {H : List (Nat × AObj)} {id : Nat} {o : AObj} {z : FzV} (ho : ofH H id = some o) (hz : fzOb o = some z) :
    (AS.lst n L H).ent (AS.lst n (subL id z L) (delL id z H)) := by
  intro G Γ a w hC
  obtain ⟨Γ1, h1, g1, e1, m1, r1, n1, _⟩ := freeze_ok hC.heap hC.g ho hz
  have hsub : ∀ j o, ofH (delL id z H) j = some o → ∃ o', delObj id (ofH H) j = some o' ∧ o = subO id z o' := by
    intro j o h
    obtain ⟨g1, o', g2, g3⟩ := ofH_del id _ H h
    refine ⟨o', ?_, g3⟩
    unfold delObj
    rw [beq_false g1]; exact g2
  refine ⟨Γ1, ⟨hC.size, hC.defers, fun t => ?_, ⟨fun j o hj => ?_, fun j o b hj hb => ?_, fun j o j' o' b hj hj' hb hb' => ?_, h1.ilt⟩, ⟨g1.os, g1.tape, g1.output, g1.size, g1.prlt, g1.keep, g1.sub, g1.bak, fun j o b hj hb => ?_⟩, fun i hi => by rw [r1, n1]; exact hC.ids i hi⟩⟩
  · have h2 : MV Γ1 (ofH (delL id z H)) w (lkp L t) (a.tmps.getD t undef) := MV.ext e1 (fun j o _ hj => by
      obtain ⟨o', g1, rfl⟩ := hsub j o hj
      exact ⟨o', (delObj_some g1).2, subO_width _ _ _⟩) (fun d hd => hd.elim) (hC.regs t)
    simp only [AS.lst]
    rw [lkp_sub]
    exact subV_ok m1 h2
  · obtain ⟨o', q1, rfl⟩ := hsub j o hj
    have := h1.objs j o' q1
    cases o' with
    | row cells => obtain ⟨cs, T', q2, q3⟩ := this; exact ⟨cs, T', q2, subAs_ok m1 q3⟩
    | _ => exact this
  · obtain ⟨o', q1, rfl⟩ := hsub j o hj
    exact h1.lt j o' b q1 (subO_fp.1 hb)
  · obtain ⟨o1, q1, rfl⟩ := hsub j o hj
    obtain ⟨o2, q2, rfl⟩ := hsub j' o' hj'
    exact h1.inj j o1 j' o2 b q1 q2 (subO_fp.1 hb) (subO_fp.1 hb')
  · obtain ⟨o', q1, rfl⟩ := hsub j o hj
    exact g1.own j o' b q1 (subO_fp.1 hb)

theorem ent_freeze {n : Nat} {L : List (Nat × AV)} {H : List (Nat × AObj)} {id : Nat} {T k α d row l} (ho : ofH H id = some (.grow T k α d row l)) :
    (AS.lst n L H).ent (AS.lst n (subL id (.sl (.sl k α d row l)) L) (delL id (.sl (.sl k α d row l)) H)) := ent_freeze0 ho rfl

/-! ### nil as an owned slice -/
def setL (t : Nat) (v : AV) : List (Nat × AV) → List (Nat × AV)
  | [] => []
  | (i, u) :: l => bif Nat.beq i t then (i, v) :: setL t v l else (i, u) :: setL t v l

def hasL (d : Nat) : List (Nat × AV) → Bool
  | [] => false
  | (_, v) :: l => v.has d || hasL d l
def hasO (d : Nat) : List (Nat × AObj) → Bool
  | [] => false
  | (i, o) :: l => Nat.beq i d || (o.has d || hasO d l)

theorem hasL_ok {d : Nat} : ∀ {L : List (Nat × AV)}, hasL d L = false → ∀ t, (lkp L t).has d = false
  | [], _, t => rfl
  | (i, v) :: L, h, t => by
    simp only [hasL, Bool.or_eq_false_iff] at h
    simp only [lkp]
    cases Nat.beq t i
    · exact hasL_ok h.2 t
    · exact h.1
theorem hasO_ok {d : Nat} : ∀ {H : List (Nat × AObj)}, hasO d H = false → ofH H d = none ∧ ∀ j o, ofH H j = some o → o.has d = false
  | [], _ => ⟨rfl, fun _ _ h => (by cases h)⟩
  | (i, o) :: H, h => by
    simp only [hasO, Bool.or_eq_false_iff] at h
    obtain ⟨h1, h2, h3⟩ := h
    obtain ⟨g1, g2⟩ := hasO_ok h3
    have hne : d ≠ i := fun e => by subst e; rw [Nat.beq_refl] at h1; cases h1
    refine ⟨by simp only [ofH]; rw [beq_false hne]; exact g1, fun j o' hj => ?_⟩
    simp only [ofH] at hj
    by_cases hji : j = i
    · subst hji; rw [Nat.beq_refl] at hj; cases hj; exact h2
    · rw [beq_false hji] at hj; exact g2 j o' hj

theorem lkp_set {t : Nat} {v : AV} : ∀ {L : List (Nat × AV)} {u : Nat}, (u ≠ t → lkp (setL t v L) u = lkp L u) ∧ (lkp (setL t v L) t = v ∨ lkp (setL t v L) t = .any)
  | [], u => ⟨fun _ => rfl, .inr rfl⟩
  | (i, x) :: L, u => by
    obtain ⟨h1, h2⟩ := lkp_set (t := t) (v := v) (L := L) (u := u)
    by_cases hi : i = t
    · subst hi
      simp only [setL, Nat.beq_refl, cond_true, lkp]
      exact ⟨fun hu => by rw [beq_false hu]; exact h1 hu, .inl trivial⟩
    · simp only [setL, beq_false hi, cond_false, lkp]
      refine ⟨fun hu => ?_, by rw [beq_false (Ne.symm hi)]; exact h2⟩
      cases Nat.beq u i
      · exact h1 hu
      · rfl

/-- The nil slice in slot t is owned from now on, under the name d. -/
theorem ent_adopt {n : Nat} {L : List (Nat × AV)} {H : List (Nat × AObj)} {t d : Nat} (T : TypeId) (k : Nat) (α : Type) (dd : α) (row : α → Nat → SC) (ht : lkp L t = vc .nilsl) (hd : Nat.blt d n = true) (hf : hasL d L = false) (hf' : hasO d H = false) :
    (AS.lst n L H).ent (AS.lst n (setL t (vo d) L) ((d, .grow T k α dd row []) :: H)) := by
  intro G Γ a w hC
  obtain ⟨f1, f2⟩ := hasO_ok hf'
  let Γ' := mkΓ Γ d (Γ.ρ d) (.slice none 0 0)
  have hext : Ext (fun id => id = d) Γ w Γ' w := ⟨fun b hb => hb, fun b _ => rfl, mk_agree Γ d _ _⟩
  have hobj : ∀ j o, ofH ((d, AObj.grow T k α dd row []) :: H) j = some o → (j = d ∧ o = .grow T k α dd row []) ∨ (j ≠ d ∧ ofH H j = some o) := by
    intro j o h
    simp only [ofH] at h
    by_cases hj : j = d
    · subst hj; rw [Nat.beq_refl] at h; cases h; exact .inl ⟨rfl, rfl⟩
    · rw [beq_false hj] at h; exact .inr ⟨hj, h⟩
  have hfp : ∀ j o b, j ≠ d → fp Γ' j o b → fp Γ j o b := fun j o b hj h => (fp.ext (mk_agree Γ d (Γ.ρ d) (.slice none 0 0)) hj).1 h
  have hnf : ∀ b, ¬ fp Γ' d (.grow T k α dd row []) b := fun b h => by
    have := h.2
    simp only [Γ', mk_η] at this
    exact this rfl
  have hvv := hC.regs t
  simp only [AS.lst] at hvv
  rw [ht] at hvv
  have hvv : a.tmps.getD t undef = .slice none 0 0 := hvv
  refine ⟨Γ', ⟨hC.size, hC.defers, fun u => ?_, ⟨fun j o hj => ?_, fun j o b hj hb => ?_, fun j o j' o' b hj hj' hb hb' => ?_, hC.heap.ilt⟩, ⟨hC.g.os, hC.g.tape, hC.g.output, hC.g.size, hC.g.prlt, hC.g.keep, hC.g.sub, hC.g.bak, fun j o b hj hb => ?_⟩, fun i hi => ?_⟩⟩
  · simp only [AS.lst]
    by_cases hu : u = t
    · subst hu
      rcases (lkp_set (t := u) (v := vo d) (L := L) (u := u)).2 with h | h
      · rw [h, hvv]; simp only [MV, MT, MC, Γ', mk_η]; exact ⟨trivial, rfl⟩
      · rw [h]; trivial
    · rw [(lkp_set (t := t) (v := vo d) (L := L) (u := u)).1 hu]
      refine MV.ext hext (fun j o hj ho => ?_) (fun e he => by subst he; exact hasL_ok hf u) (hC.regs u)
      rcases hobj j o ho with ⟨h, _⟩ | ⟨_, h⟩
      · exact absurd h hj
      · exact ⟨o, h, rfl⟩
  · rcases hobj j o hj with ⟨rfl, rfl⟩ | ⟨h1, h2⟩
    · exact .inl ⟨by simp only [Γ', mk_η], rfl⟩
    · exact MO.ext hext h1 (fun e he => by subst he; exact f2 j o h2) (fun b _ => rfl) (hC.heap.objs j o h2)
  · rcases hobj j o hj with ⟨rfl, rfl⟩ | ⟨h1, h2⟩
    · exact absurd hb (hnf b)
    · exact hC.heap.lt j o b h2 (hfp j o b h1 hb)
  · rcases hobj j o hj with ⟨rfl, rfl⟩ | ⟨h1, h2⟩
    · exact absurd hb (hnf b)
    · rcases hobj j' o' hj' with ⟨rfl, rfl⟩ | ⟨h1', h2'⟩
      · exact absurd hb' (hnf b)
      · exact hC.heap.inj j o j' o' b h2 h2' (hfp j o b h1 hb) (hfp j' o' b h1' hb')
  · rcases hobj j o hj with ⟨rfl, rfl⟩ | ⟨h1, h2⟩
    · exact absurd hb (hnf b)
    · exact hC.g.own j o b h2 (hfp j o b h1 hb)
  · have hdn := Nat.le_of_ble_eq_true hd
    obtain ⟨e1, e2⟩ := mk_agree Γ d (Γ.ρ d) (.slice none 0 0) i (by have : n ≤ i := hi; omega)
    show (mkΓ Γ d (Γ.ρ d) (.slice none 0 0)).ρ i = _ ∧ (mkΓ Γ d (Γ.ρ d) (.slice none 0 0)).η i = _
    rw [e1, e2]
    exact hC.ids i hi

/-! ### A name changed -/
def rnN (i j x : Nat) : Nat := bif Nat.beq x i then j else bif Nat.beq x j then i else x
def rnC (i j : Nat) : AC → AC
  | .ptr id o => .ptr (rnN i j id) o
  | .own id => .own (rnN i j id)
  | .fn f caps => .fn f (caps.map fun | .ptr id o => .ptr (rnN i j id) o | c => c)
  | c => c
def rnT (i j : Nat) : TV → TV
  | .c a => .c (rnC i j a)
  | .agg l => .agg (l.map (rnC i j))
  | x => x
def rnV (i j : Nat) : AV → AV
  | .t x => .t (rnT i j x)
  | .tup l => .tup (l.map (rnT i j))
  | .oel id a b => .oel (rnN i j id) a b
  | .whn p x => .whn p (rnV i j x)
  | x => x
def rnO (i j : Nat) : AObj → AObj
  | .row cells => .row (cells.map (rnC i j))
  | o => o
def rnL (i j : Nat) : List (Nat × AV) → List (Nat × AV)
  | [] => []
  | (t, v) :: l => (t, rnV i j v) :: rnL i j l
def rnH (i j : Nat) : List (Nat × AObj) → List (Nat × AObj)
  | [] => []
  | (id, o) :: l => (rnN i j id, rnO i j o) :: rnH i j l

theorem rnN_inv (i j x : Nat) : rnN i j (rnN i j x) = x := by
  unfold rnN
  by_cases h1 : x = i
  · subst h1
    simp only [Nat.beq_refl, cond_true]
    by_cases h2 : j = x
    · subst h2; simp [Nat.beq_refl]
    · simp [beq_false h2]
  · rw [beq_false h1]
    by_cases h2 : x = j
    · subst h2; simp [Nat.beq_refl]
    · simp [beq_false h2, beq_false h1]

def rnΓ (i j : Nat) (Γ : Ctx) : Ctx := ⟨Γ.I, fun x => Γ.ρ (rnN i j x), fun x => Γ.η (rnN i j x)⟩

section
variable {i j : Nat} {Γ : Ctx} {w : World}
theorem rnCap_ok : ∀ {l : List Cap} {vs : List Value}, MCaps Γ w l vs → MCaps (rnΓ i j Γ) w (l.map fun | .ptr id o => .ptr (rnN i j id) o | c => c) vs
  | [], [], _ => trivial
  | .s c :: l, v :: vs, h => ⟨h.1, rnCap_ok h.2⟩
  | .ptr id o :: l, v :: vs, h => ⟨by have := h.1; simp only [MCap, rnΓ, rnN_inv] at this ⊢; exact this, rnCap_ok h.2⟩
  | [], _ :: _, h => h.elim
  | .s _ :: _, [], h => h.elim
  | .ptr .. :: _, [], h => h.elim
theorem rnC_ok {c v} (h : MC Γ w c v) : MC (rnΓ i j Γ) w (rnC i j c) v := by
  cases c with
  | s c => exact h
  | ptr id o => simp only [rnC, MC, rnΓ, rnN_inv] at h ⊢; exact h
  | own id => simp only [rnC, MC, rnΓ, rnN_inv] at h ⊢; exact h
  | fn f caps => obtain ⟨cs, rfl, h⟩ := h; exact ⟨cs, rfl, rnCap_ok h⟩
theorem rnCs_ok : ∀ {l : List AC} {vs : List Value}, MCs Γ w l vs → MCs (rnΓ i j Γ) w (l.map (rnC i j)) vs
  | [], [], _ => trivial
  | _ :: _, _ :: _, h => ⟨rnC_ok h.1, rnCs_ok h.2⟩
  | [], _ :: _, h => h.elim
  | _ :: _, [], h => h.elim
theorem rnT_ok {c v} (h : MT Γ w c v) : MT (rnΓ i j Γ) w (rnT i j c) v := by
  cases c with
  | c a => exact rnC_ok h
  | agg l => obtain ⟨cs, rfl, h⟩ := h; exact ⟨cs, rfl, rnCs_ok h⟩
  | arr => exact h
theorem rnTs_ok : ∀ {l : List TV} {vs : List Value}, MTs Γ w l vs → MTs (rnΓ i j Γ) w (l.map (rnT i j)) vs
  | [], [], _ => trivial
  | _ :: _, _ :: _, h => ⟨rnT_ok h.1, rnTs_ok h.2⟩
  | [], _ :: _, h => h.elim
  | _ :: _, [], h => h.elim
theorem rnV_ok {obj obj' : Nat → Option AObj} (ho : ∀ id o, obj' (rnN i j id) = some o → ∃ o', obj id = some o' ∧ o.width = o'.width) : ∀ {c v}, MV Γ obj w c v → MV (rnΓ i j Γ) obj' w (rnV i j c) v := by
  intro c
  induction c with
  | any => intro v _; trivial
  | t x => intro v h; exact rnT_ok h
  | tup l => rintro v ⟨vs, rfl, h⟩; exact ⟨vs, rfl, rnTs_ok h⟩
  | ro n f => intro v h; exact h
  | oel id a b =>
    rintro v ⟨k, rfl, hk⟩
    refine ⟨k, by simp only [rnΓ, rnN_inv], fun o hob => ?_⟩
    obtain ⟨o', h1, h2⟩ := ho id o hob
    rw [h2]; exact hk o' h1
  | whn p x ih => intro v h; exact ⟨fun hp => ih (h.1 hp), h.2⟩
theorem rnO_ok {id : Nat} {o : AObj} (h : MO Γ w id o) : MO (rnΓ i j Γ) w (rnN i j id) (rnO i j o) := by
  cases o with
  | row cells => obtain ⟨cs, T, h1, h2⟩ := h; exact ⟨cs, T, by simp only [rnΓ, rnN_inv]; exact h1, rnCs_ok h2⟩
  | grow T k α d row l => simp only [rnO, MO, rnΓ, rnN_inv] at h ⊢; exact h
  | arr k n α d row l => simp only [rnO, MO, rnΓ, rnN_inv] at h ⊢; exact h
  | iter s p => simp only [rnO, MO, rnΓ, rnN_inv] at h ⊢; exact h
theorem rnfp {id : Nat} {o : AObj} {b : Nat} : fp (rnΓ i j Γ) (rnN i j id) (rnO i j o) b ↔ fp Γ id o b := by
  cases o <;> simp only [rnO, fp, rnΓ, rnN_inv]
end

theorem lkp_rn (i j : Nat) : ∀ (L : List (Nat × AV)) (t : Nat), lkp (rnL i j L) t = rnV i j (lkp L t)
  | [], t => rfl
  | (x, v) :: L, t => by
    simp only [rnL, lkp]
    cases Nat.beq t x
    · exact lkp_rn i j L t
    · rfl

theorem rnN_inj {i j x y : Nat} (h : rnN i j x = rnN i j y) : x = y := by
  have := congrArg (rnN i j) h
  rwa [rnN_inv, rnN_inv] at this

theorem ofH_rn (i j : Nat) : ∀ (H : List (Nat × AObj)) {id o}, ofH (rnH i j H) id = some o → ∃ id' o', id = rnN i j id' ∧ o = rnO i j o' ∧ ofH H id' = some o'
  | [], id, o, h => by cases h
  | (x, o1) :: H, id, o, h => by
    simp only [rnH, ofH] at h
    by_cases hx : id = rnN i j x
    · subst hx
      rw [Nat.beq_refl] at h
      cases h
      exact ⟨x, o1, rfl, rfl, by simp only [ofH]; rw [Nat.beq_refl]; rfl⟩
    · rw [beq_false hx] at h
      obtain ⟨id', o', rfl, rfl, h3⟩ := ofH_rn i j H h
      refine ⟨id', o', rfl, rfl, ?_⟩
      simp only [ofH]
      rw [beq_false (fun e => hx (by rw [e]))]
      exact h3

/-- Two names exchanged (both of slots). -/
theorem ent_swap {n : Nat} {L : List (Nat × AV)} {H : List (Nat × AObj)} (i j : Nat) (hi : Nat.blt i n = true) (hj : Nat.blt j n = true) : (AS.lst n L H).ent (AS.lst n (rnL i j L) (rnH i j H)) := by
  intro G Γ a w hC
  have hi := Nat.le_of_ble_eq_true hi
  have hj := Nat.le_of_ble_eq_true hj
  refine ⟨rnΓ i j Γ, ⟨hC.size, hC.defers, fun t => ?_, ⟨fun id o ho => ?_, fun id o b ho hb => ?_, fun id o id' o' b ho ho' hb hb' => ?_, hC.heap.ilt⟩, ⟨hC.g.os, hC.g.tape, hC.g.output, hC.g.size, hC.g.prlt, hC.g.keep, hC.g.sub, hC.g.bak, fun id o b ho hb => ?_⟩, fun x hx => ?_⟩⟩
  · simp only [AS.lst]
    rw [lkp_rn]
    refine rnV_ok (fun id o ho => ?_) (hC.regs t)
    obtain ⟨id', o', h1, rfl, h3⟩ := ofH_rn i j H ho
    have := rnN_inj h1
    subst this
    exact ⟨o', h3, by cases o' <;> rfl⟩
  · obtain ⟨id', o', rfl, rfl, h3⟩ := ofH_rn i j H ho
    exact rnO_ok (hC.heap.objs id' o' h3)
  · obtain ⟨id', o', rfl, rfl, h3⟩ := ofH_rn i j H ho
    exact hC.heap.lt id' o' b h3 (rnfp.1 hb)
  · obtain ⟨id1, o1, rfl, rfl, h3⟩ := ofH_rn i j H ho
    obtain ⟨id2, o2, rfl, rfl, h4⟩ := ofH_rn i j H ho'
    rw [hC.heap.inj id1 o1 id2 o2 b h3 h4 (rnfp.1 hb) (rnfp.1 hb')]
  · obtain ⟨id', o', rfl, rfl, h3⟩ := ofH_rn i j H ho
    exact hC.g.own id' o' b h3 (rnfp.1 hb)
  · have hx : n ≤ x := hx
    have : rnN i j x = x := by unfold rnN; rw [beq_false (by omega), beq_false (by omega)]; rfl
    simp only [rnΓ, this]
    exact hC.ids x hx

/-- A state that says less, told as lists: 'ks': the slots, 'hs': the objects that are kept. -/
theorem ent_proj {s : AS} (ks hs : List Nat) : s.ent (s.proj ks hs) := AS.ent_le (le_proj _ ks hs)

/-! ### What is learnt of a slot -/
theorem AMx.learn {P : Program} {R : Exit → AS → Prop} {k : List KI} {c : Code} {s : AS} (p : Prop) (hp : ∀ G Γ a w, Conc G Γ s a w → p) (h : p → AMx P R (.code c :: k) .normal s) : AMx P R (.code c :: k) .normal s :=
  fun G Γ a w hC => h (hp G Γ a w hC) G Γ a w hC

theorem AMx.int {P : Program} {R : Exit → AS → Prop} {k : List KI} {c : Code} {s : AS} (t : Nat) {ik n} (ht : s.reg t = vc (.int ik n)) (h : InR ik n → AMx P R (.code c :: k) .normal s) : AMx P R (.code c :: k) .normal s :=
  AMx.learn _ (fun G Γ a w hC => by have := hC.regs t; rw [ht] at this; exact this.2) h

theorem AMx.str {P : Program} {R : Exit → AS → Prop} {k : List KI} {c : Code} {s : AS} (t : Nat) {b} (ht : s.reg t = vc (.str b)) (h : b.length ≤ maxLen → AMx P R (.code c :: k) .normal s) : AMx P R (.code c :: k) .normal s :=
  AMx.learn _ (fun G Γ a w hC => by have := hC.regs t; rw [ht] at this; exact this.2) h

theorem AMx.sl {P : Program} {R : Exit → AS → Prop} {k : List KI} {c : Code} {s : AS} (t : Nat) {kk α d row} {l : List α} (ht : s.reg t = vc (.sl kk α d row l)) (h : l.length ≤ maxLen → AMx P R (.code c :: k) .normal s) : AMx P R (.code c :: k) .normal s :=
  AMx.learn _ (fun G Γ a w hC => by have := hC.regs t; rw [ht] at this; obtain ⟨_, cap, _, h1, h2, _⟩ := this; exact Nat.le_trans h1 h2) h
end AL
