/- An abstract logic, 10: an owned slice given up; a call by its contract. No condition. -/
import Derived.Test.YtphkoklgdkimmaaAL9
namespace AL
open Go
set_option linter.unusedVariables false

def delObj (id : Nat) (obj : Nat → Option AObj) : Nat → Option AObj := fun j => bif Nat.beq j id then none else obj j

theorem delObj_some {id : Nat} {obj : Nat → Option AObj} {j o} (h : delObj id obj j = some o) : j ≠ id ∧ obj j = some o := by
  unfold delObj at h
  by_cases hj : j = id
  · subst hj; rw [Nat.beq_refl] at h; cases h
  · rw [beq_false hj] at h; exact ⟨hj, h⟩

theorem fp_lt {Γ obj w} (hh : HeapOk Γ obj w) {id o b} (ho : obj id = some o) (hb : fp Γ id o b) : b < w.heap.size := (hh.lt id o b ho hb).1

/-- What an object that is given up becomes: a shared slice; shared cells, that pointers name. -/
inductive FzV : Type 1
  | sl (c : SC)
  | row (l : List SC)

def rl (l : List SC) (i : Nat) : SC := l.getD i .any
def allS : List AC → Option (List SC)
  | [] => some []
  | .s c :: l => (allS l).map (c :: ·)
  | _ => none
theorem allS_ok : ∀ {l : List AC} {r}, allS l = some r → l = r.map .s
  | [], r, h => by cases h; rfl
  | .s c :: l, r, h => by
    simp only [allS, Option.map_eq_some_iff] at h
    obtain ⟨r', h, rfl⟩ := h
    rw [allS_ok h]; rfl
  | .ptr _ _ :: _, _, h => by cases h
  | .own _ :: _, _, h => by cases h
  | .fn _ _ :: _, _, h => by cases h

/-- What an object may be given up as. -/
def fzOb : AObj → Option FzV
  | .grow _ k α d row l => some (.sl (.sl k α d row l))
  | .row cells => (allS cells).map .row
  | _ => none

def FzOk (Γ : Ctx) (w : World) (id : Nat) : FzV → Prop
  | .sl c => MS Γ.I w c (Γ.η id)
  | .row l => ∀ off, MS Γ.I w (.ref (l.drop off).length (rl (l.drop off))) (.pointer (some ⟨Γ.ρ id, off, none⟩))

/-- An owned object is given up: from now on it is shared. -/
theorem freeze_ok {G Γ obj w} {id : Nat} {o : AObj} {z : FzV} (hh : HeapOk Γ obj w) (hg : GOk G Γ obj w) (ho : obj id = some o) (hz : fzOb o = some z) :
    ∃ Γ', HeapOk Γ' (delObj id obj) w ∧ GOk G Γ' (delObj id obj) w ∧ Ext (fun _ => False) Γ w Γ' w ∧ FzOk Γ' w id z ∧ Γ'.ρ = Γ.ρ ∧ Γ'.η = Γ.η ∧
      (∀ b, Γ'.I b → Γ.I b ∨ ∃ o, obj id = some o ∧ fp Γ id o b) := by
  let Γ' : Ctx := { I := fun b => Γ.I b ∨ fp Γ id o b, ρ := Γ.ρ, η := Γ.η }
  have hext : Ext (fun _ => False) Γ w Γ' w := ⟨fun b hb => .inl hb, fun b hb => rfl, fun _ _ => ⟨rfl, rfl⟩⟩
  refine ⟨Γ', ⟨fun j o hj => ?_, fun j o b hj hb => ?_, fun j o j' o' b hj hj' hb hb' => ?_, fun b hb => ?_⟩,
    ⟨hg.os, hg.tape, hg.output, hg.size, hg.prlt, hg.keep, fun b hb => .inl (hg.sub b hb), fun b hb hi => ?_, fun j o b hj hb => ?_⟩, hext, ?_, rfl, rfl, fun b hb => ?_⟩
  · obtain ⟨hne, hj⟩ := delObj_some hj
    exact MO.ext hext (fun h => h) (fun d hd => hd.elim) (fun b _ => rfl) (hh.objs j o hj)
  · obtain ⟨hne, hj⟩ := delObj_some hj
    have hb' : fp Γ j o b := hb
    refine ⟨(hh.lt j o b hj hb').1, fun hi => ?_⟩
    rcases hi with hi | hi
    · exact (hh.lt j o b hj hb').2 hi
    · exact hne (hh.inj _ _ _ _ b hj ho hb' hi)
  · obtain ⟨_, hj⟩ := delObj_some hj
    obtain ⟨_, hj'⟩ := delObj_some hj'
    exact hh.inj _ _ _ _ b hj hj' hb hb'
  · rcases hb with hb | hb
    · exact hh.ilt b hb
    · exact fp_lt hh ho hb
  · rcases hi with hi | hi
    · exact hg.bak b hb hi
    · exact absurd hb (hg.own _ _ _ ho hi)
  · obtain ⟨_, hj⟩ := delObj_some hj
    exact hg.own _ _ _ hj hb
  · have hmo := hh.objs id _ ho
    cases o with
    | grow T k α d row l =>
      cases hz
      rcases hmo with ⟨h1, h2⟩ | ⟨cap, cur, h1, h2, h3, h4, h5, h6⟩
      · subst h2
        exact ⟨none, 0, h1, Nat.le_refl _, Nat.zero_le _, .inl ⟨rfl, fun _ => rfl⟩⟩
      · refine ⟨_, cap, h1, h3, h4, .inr ⟨Γ.ρ id, 0, rfl, .inr ⟨rfl, by rw [h1]; simp⟩, fun j x hx i hi => ?_⟩⟩
        obtain ⟨u, hu, hm⟩ := h6 j x hx i hi
        exact ⟨u, by rw [cell_of_heap h2, Nat.zero_add]; exact hu, MS.mono (fun b hb => .inl hb) (fun b hb => rfl) hm⟩
    | row cells =>
      simp only [fzOb, Option.map_eq_some_iff] at hz
      obtain ⟨l, hl, rfl⟩ := hz
      rw [allS_ok hl] at hmo
      obtain ⟨cs, T, h1, h2⟩ := hmo
      intro off
      refine ⟨Γ.ρ id, off, rfl, .inr ⟨rfl, trivial⟩, fun i hi => ?_⟩
      rw [List.length_drop] at hi
      have hg1 : (l.map AC.s)[off + i]? = some (AC.s (l.getD (off + i) .any)) := by
        rw [List.getElem?_map, List.getD_eq_getElem?_getD, List.getElem?_eq_getElem (by omega)]; rfl
      obtain ⟨u, hu, hm⟩ := h2.get hg1
      refine ⟨u, by rw [cell_of_heap h1, ← Array.getElem?_toList]; exact hu, ?_⟩
      have : rl (l.drop off) i = l.getD (off + i) .any := by simp [rl, List.getD_eq_getElem?_getD]
      rw [this]
      exact MS.mono (fun b hb => .inl hb) (fun b hb => rfl) hm
    | arr => cases hz
    | iter => cases hz
  · rcases hb with hb | hb
    · exact .inl hb
    · exact .inr ⟨_, ho, hb⟩

/-! ### An owned object handed to a call: it is given up -/
def subCap (id : Nat) (l : List SC) : Cap → Cap
  | .ptr i off => bif Nat.beq i id then .s (.ref (l.drop off).length (rl (l.drop off))) else .ptr i off
  | x => x
def subA (id : Nat) : FzV → AC → AC
  | .sl c, .own i => bif Nat.beq i id then .s c else .own i
  | .row l, .ptr i off => bif Nat.beq i id then .s (.ref (l.drop off).length (rl (l.drop off))) else .ptr i off
  | .row l, .fn f caps => .fn f (caps.map (subCap id l))
  | _, x => x
def subT (id : Nat) (c : FzV) : TV → TV
  | .c a => .c (subA id c a)
  | .agg l => .agg (l.map (subA id c))
  | x => x

theorem subCap_ok {Γ w id l a v} (hc : FzOk Γ w id (.row l)) (h : MCap Γ w a v) : MCap Γ w (subCap id l a) v := by
  unfold subCap
  split
  · rename_i i off
    by_cases hi : i = id
    · subst hi; rw [Nat.beq_refl]; subst h; exact hc off
    · rw [beq_false hi]; exact h
  · exact h
theorem subCaps_ok {Γ w id l} (hc : FzOk Γ w id (.row l)) : ∀ {caps : List Cap} {vs : List Value}, MCaps Γ w caps vs → MCaps Γ w (caps.map (subCap id l)) vs
  | [], [], _ => trivial
  | _ :: _, _ :: _, h => ⟨subCap_ok hc h.1, subCaps_ok hc h.2⟩
  | [], _ :: _, h => h.elim
  | _ :: _, [], h => h.elim

theorem subA_ok {Γ w id c a v} (hc : FzOk Γ w id c) (h : MC Γ w a v) : MC Γ w (subA id c a) v := by
  unfold subA
  split
  · rename_i i
    by_cases hi : i = id
    · subst hi; rw [Nat.beq_refl]; obtain ⟨rfl, _⟩ := h; exact hc
    · rw [beq_false hi]; exact h
  · rename_i l i off
    by_cases hi : i = id
    · subst hi; rw [Nat.beq_refl]; subst h; exact hc off
    · rw [beq_false hi]; exact h
  · obtain ⟨cs, rfl, hm⟩ := h
    exact ⟨cs, rfl, subCaps_ok hc hm⟩
  · exact h

theorem subAs_ok {Γ w id c} (hc : FzOk Γ w id c) : ∀ {l : List AC} {vs : List Value}, MCs Γ w l vs → MCs Γ w (l.map (subA id c)) vs
  | [], [], _ => trivial
  | _ :: _, _ :: _, h => ⟨subA_ok hc h.1, subAs_ok hc h.2⟩
  | [], _ :: _, h => h.elim
  | _ :: _, [], h => h.elim

theorem subT_ok {Γ w id c a v} (hc : FzOk Γ w id c) (h : MT Γ w a v) : MT Γ w (subT id c a) v := by
  cases a with
  | c a => exact subA_ok hc h
  | agg l => obtain ⟨cs, rfl, hm⟩ := h; exact ⟨cs, rfl, subAs_ok hc hm⟩
  | arr => exact h

theorem subTs_ok {Γ w id c} (hc : FzOk Γ w id c) : ∀ {l : List TV} {vs : List Value}, MTs Γ w l vs → MTs Γ w (l.map (subT id c)) vs
  | [], [], _ => trivial
  | _ :: _, _ :: _, h => ⟨subT_ok hc h.1, subTs_ok hc h.2⟩
  | [], _ :: _, h => h.elim
  | _ :: _, [], h => h.elim

def evFreeze (obj : Nat → Option AObj) (args : List TV) : List Nat → Option ((Nat → Option AObj) × List TV)
  | [] => some (obj, args)
  | id :: r => match obj id with
    | some o => match fzOb o with
      | some z => evFreeze (delObj id obj) (args.map (subT id z)) r
      | none => none
    | none => none

theorem evFreeze_ok {G w} {vs : List Value} : ∀ (fz : List Nat) {Γ obj args obj' args'}, evFreeze obj args fz = some (obj', args') → HeapOk Γ obj w → GOk G Γ obj w → MTs Γ w args vs →
    ∃ Γ', HeapOk Γ' obj' w ∧ GOk G Γ' obj' w ∧ MTs Γ' w args' vs ∧ Ext (fun _ => False) Γ w Γ' w ∧ Γ'.ρ = Γ.ρ ∧ Γ'.η = Γ.η ∧ (∀ id o, obj' id = some o → obj id = some o)
  | [], Γ, obj, args, obj', args', h, hh, hg, hm => by
    simp only [evFreeze, Option.some.injEq, Prod.mk.injEq] at h
    obtain ⟨rfl, rfl⟩ := h
    exact ⟨Γ, hh, hg, hm, ⟨fun _ h => h, fun _ _ => rfl, fun _ _ => ⟨rfl, rfl⟩⟩, rfl, rfl, fun _ _ h => h⟩
  | id :: r, Γ, obj, args, obj', args', h, hh, hg, hm => by
    simp only [evFreeze] at h
    split at h
    · rename_i o ho
      split at h
      · rename_i z hz
        obtain ⟨Γ1, h1, g1, e1, m1, r1, n1, _⟩ := freeze_ok hh hg ho hz
        have hm1 : MTs Γ1 w args vs := MTs.ext e1 (fun d hd => hd.elim) hm
        obtain ⟨Γ2, h2, g2, m2, e2, r2, n2, s2⟩ := evFreeze_ok r h h1 g1 (subTs_ok m1 hm1)
        exact ⟨Γ2, h2, g2, m2, ⟨fun b hb => e2.sub b (e1.sub b hb), fun _ _ => rfl, fun _ _ => by rw [r2, n2, r1, n1]; exact ⟨rfl, rfl⟩⟩, by rw [r2, r1], by rw [n2, n1],
          fun id o h => (delObj_some (s2 id o h)).2⟩
      · cases h
    · cases h

/-! ### The call -/
def ofH : List (Nat × AObj) → Nat → Option AObj
  | [] => H0
  | (i, o) :: l => fun j => bif Nat.beq j i then some o else ofH l j

def tvsOf : List AV → Option (List TV)
  | [] => some []
  | .t x :: l => (tvsOf l).map (x :: ·)
  | _ :: _ => none

theorem tvsOf_ok {Γ obj w} {val : Operand → AV} {ρ : Operand → Value} :
    ∀ (l : List Operand) (ts : List TV), (∀ x ∈ l, MV Γ obj w (val x) (ρ x)) → tvsOf (l.map val) = some ts → MTs Γ w ts (l.map ρ)
  | [], ts, _, h => by cases h; trivial
  | x :: l, ts, hv, h => by
    have hx := hv x (by simp)
    simp only [List.map_cons] at h
    cases e : val x with
    | t c =>
      rw [e] at h hx
      simp only [tvsOf, Option.map_eq_some_iff] at h
      obtain ⟨ts', h1, rfl⟩ := h
      exact ⟨hx, tvsOf_ok l ts' (fun y hy => hv y (List.mem_cons_of_mem _ hy)) h1⟩
    | _ => rw [e] at h; simp [tvsOf] at h

def capT : Cap → TV
  | .s c => .c (.s c)
  | .ptr id off => .c (.ptr id off)

theorem capsT_ok {Γ w} : ∀ {l : List Cap} {vs : List Value}, MCaps Γ w l vs → MTs Γ w (l.map capT) vs
  | [], [], _ => trivial
  | c :: l, v :: vs, h => ⟨by cases c <;> exact h.1, capsT_ok h.2⟩
  | [], _ :: _, h => h.elim
  | _ :: _, [], h => h.elim

theorem MTs.append {Γ w} : ∀ {l m : List TV} {vs us : List Value}, MTs Γ w l vs → MTs Γ w m us → MTs Γ w (l ++ m) (vs ++ us)
  | [], m, [], us, _, h => h
  | c :: l, m, v :: vs, us, h, h' => ⟨h.1, MTs.append h.2 h'⟩
  | [], _, _ :: _, _, h, _ => h.elim
  | _ :: _, _, [], _, h, _ => h.elim

/-- A value whose meaning does not hang on the owned objects. -/
def plainV : AV → Bool
  | .t _ | .tup _ => true
  | _ => false
theorem plain_obj {Γ obj obj' w r v} (hp : plainV r = true) (h : MV Γ obj w r v) : MV Γ obj' w r v := by
  cases r <;> first | exact h | cases hp

def restr (obj : Nat → Option AObj) : List Nat → List (Nat × AObj)
  | [] => []
  | id :: l => match obj id with
    | some o => (id, o) :: restr obj l
    | none => restr obj l

theorem restr_ok {obj : Nat → Option AObj} : ∀ (l : List Nat) {id o}, ofH (restr obj l) id = some o → obj id = some o
  | [], id, o, h => by cases h
  | i :: l, id, o, h => by
    unfold restr at h
    split at h
    · rename_i o' ho
      simp only [ofH] at h
      by_cases hi : id = i
      · subst hi; rw [Nat.beq_refl] at h; cases h; exact ho
      · rw [beq_false hi] at h; exact restr_ok l h
    · exact restr_ok l h

/-- The names that are new behind a call. -/
def isNew (H H' : Nat → Option AObj) (d : Nat) : Bool := (H' d).isSome && (H d).isNone

def keysNew (H : Nat → Option AObj) : List (Nat × AObj) → List Nat
  | [] => []
  | (i, _) :: l => if (H i).isNone then i :: keysNew H l else keysNew H l

def oelIn (H : Nat → Option AObj) : AV → Bool
  | .oel id _ _ => (H id).isSome
  | .whn _ x => oelIn H x
  | _ => false

def scrubV (H : Nat → Option AObj) (D : List Nat) (v : AV) : AV := bif D.any (fun d => v.has d) || oelIn H v then .any else v

def afterObj (obj H H' : Nat → Option AObj) (D : List Nat) : Nat → Option AObj := fun j =>
  match H' j with
  | some o => some o
  | none => bif (H j).isSome then none else match obj j with
    | some o => bif D.any (fun d => o.has d) then none else some o
    | none => none

theorem keysNew_ok {H : Nat → Option AObj} : ∀ {l : List (Nat × AObj)} {d}, (ofH l d ≠ none ∧ H d = none) → d ∈ keysNew H l
  | [], d, h => absurd rfl h.1
  | (i, o) :: l, d, h => by
    unfold keysNew
    by_cases hd : d = i
    · subst hd
      rw [if_pos (by simp [h.2])]
      exact List.mem_cons_self ..
    · have : ofH l d ≠ none := by
        have h1 := h.1
        simp only [ofH, beq_false hd] at h1
        exact h1
      have := keysNew_ok ⟨this, h.2⟩
      split
      · exact List.mem_cons_of_mem _ this
      · exact this

theorem scrub_spec {H : Nat → Option AObj} {D : List Nat} {v : AV} {Γ obj w u} (h : MV Γ obj w v u) : MV Γ obj w (scrubV H D v) u ∧ (∀ d ∈ D, (scrubV H D v).has d = false) ∧ oelIn H (scrubV H D v) = false := by
  unfold scrubV
  cases hb : D.any (fun d => v.has d) || oelIn H v with
  | true => exact ⟨trivial, fun _ _ => rfl, rfl⟩
  | false =>
    rw [Bool.or_eq_false_iff] at hb
    refine ⟨h, fun d hd => ?_, hb.2⟩
    have := hb.1
    rw [List.any_eq_false] at this
    simpa using this d hd

theorem MV.ext' {D : Nat → Prop} {Γ Γ' : Ctx} {w w' : World} (h : Ext D Γ w Γ' w') {H obj obj' : Nat → Option AObj} (ho : ∀ id o', ¬ D id → H id = none → obj' id = some o' → ∃ o, obj id = some o ∧ o'.width = o.width) :
    ∀ {c v}, (∀ d, D d → c.has d = false) → oelIn H c = false → MV Γ obj w c v → MV Γ' obj' w' c v := by
  intro c
  induction c with
  | oel id i j =>
    intro v hd ho' hm
    have hD : ¬ D id := fun hD => by have := hd id hD; simp [AV.has] at this
    have hn : H id = none := by simpa [oelIn] using ho'
    obtain ⟨k, rfl, hk⟩ := hm
    refine ⟨k, by rw [(h.agree id hD).1], fun o hob => ?_⟩
    obtain ⟨o1, h1, h2⟩ := ho id o hD hn hob
    rw [h2]; exact hk o1 h1
  | whn p x ih => intro v hd ho' hm; exact ⟨fun hp => ih hd ho' (hm.1 hp), hm.2⟩
  | any => intro v _ _ _; trivial
  | t x => intro v hd _ hm; exact MT.ext h hd hm
  | tup l => intro v hd _ hm; obtain ⟨vs, rfl, hv⟩ := hm; exact ⟨vs, rfl, MTs.ext h hd hv⟩
  | ro n f =>
    intro v hd _ hm
    obtain ⟨b, off, rfl, hb, hf⟩ := hm
    refine ⟨b, off, rfl, h.sub b hb, fun i hi => ?_⟩
    obtain ⟨u, hu, hm⟩ := hf i hi
    exact ⟨u, by rw [World.cell?_of_block (w := w) (h.keep b hb)]; exact hu, MS.mono h.sub h.keep hm⟩

/-- Behind a call: the state of the caller. -/
theorem call_ok {G Γ obj w n} {reg : Nat → AV} {a : Act} (hsz : a.tmps.size = n) (hdf : a.defers = []) (hr : ∀ t, MV Γ obj w (reg t) (a.tmps.getD t undef)) (hh : HeapOk Γ obj w) (hg : GOk G Γ obj w)
    {hin : Nat → Option AObj} {new : List (Nat × AObj)} (hsub : ∀ id o, hin id = some o → obj id = some o)
    {Γ' w'} (hh' : HeapOk Γ' (ofH new) w') (hg' : GOk ⟨w, prOf Γ hin w, Γ.I, Γ.ρ, Γ.η⟩ Γ' (ofH new) w') (ha : Agree (fun id => ofH new id ≠ none ∧ hin id = none) Γ Γ')
    (hids : ∀ id, n ≤ id → Γ.ρ id = G.ρ id ∧ Γ.η id = G.η id) (hnw : (keysNew hin new).all (fun d => Nat.blt d n) = true) :
    Conc G Γ' ⟨n, fun t => scrubV hin (keysNew hin new) (reg t), afterObj obj hin (ofH new) (keysNew hin new)⟩ a w' := by
  have hIpr : ∀ b, Γ.I b → prOf Γ hin w b := fun b hb => ⟨hh.ilt b hb, fun id o hid hf => (hh.lt id o b (hsub id o hid) hf).2 hb⟩
  have hext : Ext (fun id => ofH new id ≠ none ∧ hin id = none) Γ w Γ' w' := ⟨hg'.sub, fun b hb => hg'.keep b (hIpr b hb), ha⟩
  have hold : ∀ id o, ofH new id = none → afterObj obj hin (ofH new) (keysNew hin new) id = some o → obj id = some o ∧ hin id = none ∧ ∀ d ∈ keysNew hin new, o.has d = false := by
    intro id o h1 h2
    unfold afterObj at h2
    rw [h1] at h2
    simp only at h2
    cases h3 : hin id with
    | some o' => rw [h3] at h2; cases h2
    | none =>
      rw [h3] at h2
      cases h4 : obj id with
      | none => rw [h4] at h2; cases h2
      | some o' =>
        rw [h4] at h2
        simp only [Option.isSome_none, cond_false] at h2
        cases h5 : (keysNew hin new).any (fun d => o'.has d) with
        | true => rw [h5] at h2; cases h2
        | false =>
          rw [h5] at h2
          cases h2
          refine ⟨rfl, rfl, fun d hd => ?_⟩
          rw [List.any_eq_false] at h5
          simpa using h5 d hd
  have hnew : ∀ id o, ofH new id = some o → afterObj obj hin (ofH new) (keysNew hin new) id = some o := by
    intro id o h; unfold afterObj; rw [h]
  have hcase : ∀ id o, afterObj obj hin (ofH new) (keysNew hin new) id = some o → ofH new id = some o ∨ (ofH new id = none ∧ obj id = some o ∧ hin id = none ∧ ∀ d ∈ keysNew hin new, o.has d = false) := by
    intro id o h
    cases h1 : ofH new id with
    | some o' => rw [hnew id o' h1] at h; exact .inl h
    | none => exact .inr ⟨rfl, hold id o h1 h⟩
  have hrest : ∀ id o b, obj id = some o → hin id = none → fp Γ id o b → prOf Γ hin w b := fun id o b ho hi hf =>
    ⟨fp_lt hh ho hf, fun id' o' hid' hf' => by have := hh.inj _ _ _ _ b ho (hsub _ _ hid') hf hf'; subst this; rw [hi] at hid'; cases hid'⟩
  have hnD : ∀ id, ofH new id = none → ¬ (ofH new id ≠ none ∧ hin id = none) := fun id h h' => h'.1 h
  refine ⟨hsz, hdf, fun t => ?_, ⟨fun id o ho => ?_, fun id o b ho hf => ?_, fun id o id' o' b ho ho' hf hf' => ?_, hh'.ilt⟩, ⟨?_, ?_, ?_, ?_, hg.prlt, ?_, ?_, ?_, ?_⟩, fun id hid => ?_⟩
  · obtain ⟨h1, h2, h3⟩ := scrub_spec (H := hin) (D := keysNew hin new) (hr t)
    refine MV.ext' hext (fun id o' hid hno ho' => ?_) (fun d hd => h2 d (keysNew_ok hd)) h3 h1
    rcases hcase id o' ho' with h | ⟨_, h, _⟩
    · exact absurd ⟨by rw [h]; simp, hno⟩ hid
    · exact ⟨o', h, rfl⟩
  · rcases hcase id o ho with h | ⟨h, h1, h2, h3⟩
    · exact hh'.objs id o h
    · exact MO.ext hext (hnD id h) (fun d hd => h3 d (keysNew_ok hd)) (fun b hb => hg'.keep b (hrest id o b h1 h2 hb)) (hh.objs id o h1)
  · rcases hcase id o ho with h | ⟨h, h1, h2, h3⟩
    · exact hh'.lt id o b h hf
    · have hf' := (fp.ext ha (hnD id h)).1 hf
      have hpr := hrest id o b h1 h2 hf'
      exact ⟨Nat.lt_of_lt_of_le hpr.1 hg'.size, fun hi => (hh.lt id o b h1 hf').2 (hg'.bak b hpr hi)⟩
  · rcases hcase id o ho with h | ⟨h, h1, h2, h3⟩
    · rcases hcase id' o' ho' with h' | ⟨h', h1', h2', h3'⟩
      · exact hh'.inj _ _ _ _ b h h' hf hf'
      · exact absurd (hrest id' o' b h1' h2' ((fp.ext ha (hnD id' h')).1 hf')) (hg'.own id o b h hf)
    · rcases hcase id' o' ho' with h' | ⟨h', h1', h2', h3'⟩
      · exact absurd (hrest id o b h1 h2 ((fp.ext ha (hnD id h)).1 hf)) (hg'.own id' o' b h' hf')
      · exact hh.inj _ _ _ _ b h1 h1' ((fp.ext ha (hnD id h)).1 hf) ((fp.ext ha (hnD id' h')).1 hf')
  · exact hg'.os.trans hg.os
  · exact hg'.tape.trans hg.tape
  · exact hg'.output.trans hg.output
  · exact Nat.le_trans hg.size hg'.size
  · intro b hb
    have hpr : prOf Γ hin w b := ⟨Nat.lt_of_lt_of_le (hg.prlt b hb) hg.size, fun id o hid hf => hg.own id o b (hsub id o hid) hf hb⟩
    exact (hg'.keep b hpr).trans (hg.keep b hb)
  · exact fun b hb => hg'.sub b (hg.sub b hb)
  · intro b hb hi
    have hpr : prOf Γ hin w b := ⟨Nat.lt_of_lt_of_le (hg.prlt b hb) hg.size, fun id o hid hf => hg.own id o b (hsub id o hid) hf hb⟩
    exact hg.bak b hb (hg'.bak b hpr hi)
  · intro id o b ho hf hb
    have hpr : prOf Γ hin w b := ⟨Nat.lt_of_lt_of_le (hg.prlt b hb) hg.size, fun id o hid hf => hg.own id o b (hsub id o hid) hf hb⟩
    rcases hcase id o ho with h | ⟨h, h1, h2, h3⟩
    · exact hg'.own id o b h hf hpr
    · exact hg.own id o b h1 ((fp.ext ha (hnD id h)).1 hf) hb
  · have hid : n ≤ id := hid
    have hn : ¬ (ofH new id ≠ none ∧ hin id = none) := fun hd => by
      have h1 := keysNew_ok hd
      rw [List.all_eq_true] at hnw
      have := Nat.le_of_ble_eq_true (hnw id h1)
      omega
    obtain ⟨e1, e2⟩ := ha id hn
    rw [e1, e2]
    exact hids id hid
end AL
