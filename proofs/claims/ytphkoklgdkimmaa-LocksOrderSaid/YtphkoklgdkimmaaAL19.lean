/- An abstract logic, 19: regions in the order of their text, control, loops, functions. No condition. -/
import Derived.Test.YtphkoklgdkimmaaAL18
namespace AL
open Go
set_option linter.unusedVariables false

/-! ### States as lists -/
def lkp : List (Nat × AV) → Nat → AV
  | [] => fun _ => .any
  | (i, v) :: l => fun t => bif Nat.beq t i then v else lkp l t

/-- The state that knows just these slots and objects. -/
def AS.lst (n : Nat) (L : List (Nat × AV)) (H : List (Nat × AObj)) : AS := ⟨n, lkp L, ofH H⟩

def projR (s : AS) : List Nat → List (Nat × AV)
  | [] => []
  | t :: l => (t, s.reg t) :: projR s l

/-- What is kept of a state: these slots, these objects. -/
def AS.proj (s : AS) (ks hs : List Nat) : AS := AS.lst s.n (projR s ks) (restr s.obj hs)

theorem lkp_proj (s : AS) : ∀ (ks : List Nat) (t : Nat), lkp (projR s ks) t = .any ∨ lkp (projR s ks) t = s.reg t
  | [], t => .inl rfl
  | k :: ks, t => by
    simp only [projR, lkp]
    by_cases h : t = k
    · subst h; rw [Nat.beq_refl]; exact .inr rfl
    · rw [beq_false h]; exact lkp_proj s ks t

theorem GOk.sub_obj {G Γ obj obj' w} (h : GOk G Γ obj w) (hs : ∀ id o, obj' id = some o → obj id = some o) : GOk G Γ obj' w :=
  ⟨h.os, h.tape, h.output, h.size, h.prlt, h.keep, h.sub, h.bak, fun id o b ho hb => h.own id o b (hs id o ho) hb⟩

theorem MV.sub_obj {Γ obj obj' w} (hs : ∀ id o, obj' id = some o → obj id = some o) : ∀ {x v}, MV Γ obj w x v → MV Γ obj' w x v := by
  intro x
  induction x with
  | oel id i j => rintro v ⟨k, rfl, hk⟩; exact ⟨k, rfl, fun o ho => hk o (hs id o ho)⟩
  | whn p x ih => intro v h; exact ⟨fun hp => ih (h.1 hp), h.2⟩
  | _ => intro v h; exact h

/-- A state that says less. -/
def AS.le (s s' : AS) : Prop := s'.n = s.n ∧ (∀ t, s'.reg t = .any ∨ s'.reg t = s.reg t) ∧ ∀ id o, s'.obj id = some o → s.obj id = some o

theorem AS.le_refl (s : AS) : s.le s := ⟨rfl, fun _ => .inr rfl, fun _ _ h => h⟩

theorem conc_le {G Γ s s' a w} (h : Conc G Γ s a w) (hl : s.le s') : Conc G Γ s' a w := by
  obtain ⟨h1, h2, h3⟩ := hl
  refine ⟨h.size.trans h1.symm, h.defers, fun t => ?_, heap_sub h.heap h3, h.g.sub_obj h3, fun id hid => h.ids id (h1 ▸ hid)⟩
  rcases h2 t with h | h'
  · rw [h]; trivial
  · rw [h']; exact MV.sub_obj h3 (h.regs t)

theorem le_proj (s : AS) (ks hs : List Nat) : s.le (s.proj ks hs) := ⟨rfl, lkp_proj s ks, fun id o h => restr_ok hs h⟩

/-! ### Regions -/
def ceAt : List (Nat × CE) → Nat → Option CE
  | [], _ => none
  | (i, c) :: l, j => bif Nat.beq j i then some c else ceAt l j

def evR (P : Program) (ops : Array Oper) (ces : List (Nat × CE)) : Nat → List Oper → AS → Option (List Prop × AS)
  | _, [], s => some ([], s)
  | i, o :: l, s =>
    match evOp P ops s o (ceAt ces i) with
    | some (cs, s1) => match evR P ops ces (i + 1) l s1 with
      | some (cs', s2) => some (cs ++ cs', s2)
      | none => none
    | none => none

def evReg (P : Program) (ops : Array Oper) (ces : List (Nat × CE)) (s : AS) (ks hs : List Nat) : Option (List Prop × AS) :=
  match evR P ops ces 0 ops.toList s with
  | some (cs, s1) => some (cs, s1.proj ks hs)
  | none => none

theorem wpO_eq {P : Program} {ops : Array Oper} {Q : Exit → Act → World → Prop} {i : Nat} {o : Oper} (h : ops[i]? = some o) (K : Act → World → Prop) (a : Act) (w : World) : wpOp P ops Q i K a w = wpO P ops Q o K a w := by
  unfold wpOp wpO; rw [h]

theorem evR_ok {P : Program} {ops : Array Oper} {ces : List (Nat × CE)} {Q : Exit → Act → World → Prop} : ∀ (l : List Oper) (i : Nat) (s s' : AS) (cs : List Prop), (∀ j, l[j]? = ops[i + j]?) → evR P ops ces i l s = some (cs, s') → allP cs →
    ∀ G Γ a w, Conc G Γ s a w → (∀ Γ' a' w', Conc G Γ' s' a' w' → Q .normal a' w') → wpOps P ops Q (List.range' i l.length) a w
  | [], i, s, s', cs, hl, h, hc, G, Γ, a, w, hC, hQ => by
    cases h
    simp only [List.length_nil, List.range'_zero, wpOps]
    exact hQ _ _ _ hC
  | o :: l, i, s, s', cs, hl, h, hc, G, Γ, a, w, hC, hQ => by
    unfold evR at h
    split at h
    · rename_i cs1 s1 h1
      split at h
      · rename_i cs2 s2 h2
        cases h
        rw [allP_append] at hc
        have ho : ops[i]? = some o := by have := hl 0; simpa using this.symm
        rw [List.length_cons, List.range'_succ, wpOps_cons, wpO_eq ho]
        refine evOp_ok h1 hc.1 G Γ a w Q _ hC fun Γ' a' w' hC' => ?_
        exact evR_ok l (i + 1) s1 _ cs2 (fun j => by have := hl (j + 1); rw [List.getElem?_cons_succ] at this; rw [this]; congr 1; omega) h2 hc.2 G Γ' a' w' hC' hQ
      · cases h
    · cases h

/-! ### Code -/
def AW (P : Program) (c : Code) (Q : Exit → AS → Prop) (s : AS) : Prop :=
  ∀ G Γ a w, Conc G Γ s a w → c.wp P (fun e a' w' => ∃ s' Γ', Q e s' ∧ Conc G Γ' s' a' w') a w

/-- Whatever s describes, s2 describes, too. -/
def AS.ent (s s2 : AS) : Prop := ∀ G Γ a w, Conc G Γ s a w → ∃ Γ', Conc G Γ' s2 a w

theorem AS.ent_refl (s : AS) : s.ent s := fun _ Γ _ _ h => ⟨Γ, h⟩
theorem AS.ent_trans {s s1 s2 : AS} (h : s.ent s1) (h' : s1.ent s2) : s.ent s2 := fun G Γ a w hC => by
  obtain ⟨Γ1, h1⟩ := h G Γ a w hC
  exact h' G Γ1 a w h1
theorem AS.ent_le {s s2 : AS} (h : s.le s2) : s.ent s2 := fun _ Γ _ _ hC => ⟨Γ, conc_le hC h⟩

inductive KI : Type 2
  | code (c : Code)
  | blk (id : Nat)
  | inv (I : AS → Prop)

def AMx (P : Program) (R : Exit → AS → Prop) : List KI → Exit → AS → Prop
  | [], e, s => R e s
  | .code c :: k, e, s => match e with
    | .normal => AW P c (AMx P R k) s
    | e => AMx P R k e s
  | .blk id :: k, e, s => match e with
    | .exit j => bif Nat.beq j id then AMx P R k .normal s else AMx P R k (.exit j) s
    | e => AMx P R k e s
  | .inv I :: k, e, s => match e with
    | .normal => ∃ s2, AS.ent s s2 ∧ I s2
    | e => AMx P R k e s

section
variable {P : Program} {R : Exit → AS → Prop} {k : List KI} {s : AS}

theorem AMx.seq {x y : Code} (h : AMx P R (.code x :: .code y :: k) .normal s) : AMx P R (.code (.seq x y) :: k) .normal s := by
  intro G Γ a w hC
  refine wp_seq (wp_mono (h G Γ a w hC) ?_)
  rintro e a' w' ⟨s', Γ', hq, hC'⟩
  cases e with
  | normal => exact hq G Γ' a' w' hC'
  | _ => exact ⟨s', Γ', hq, hC'⟩

theorem AMx.skip (h : AMx P R k .normal s) : AMx P R (.code .skip :: k) .normal s :=
  fun G Γ a w hC => wp_skip ⟨s, Γ, h, hC⟩

theorem AMx.exit {id : Nat} (h : AMx P R k (.exit id) s) : AMx P R (.code (.exit id) :: k) .normal s :=
  fun G Γ a w hC => wp_exit ⟨s, Γ, h, hC⟩

theorem AMx.ret_pass : ∀ (k : List KI), R .ret s → AMx P R k .ret s
  | [], h => h
  | .code _ :: k, h => AMx.ret_pass k h
  | .blk _ :: k, h => AMx.ret_pass k h
  | .inv _ :: k, h => AMx.ret_pass k h

theorem AMx.ret (h : R .ret s) : AMx P R (.code .ret :: k) .normal s :=
  fun G Γ a w hC => wp_ret ⟨s, Γ, AMx.ret_pass k h, hC⟩

theorem AMx.block {id : Nat} {c : Code} (h : AMx P R (.code c :: .blk id :: k) .normal s) : AMx P R (.code (.block id c) :: k) .normal s := by
  intro G Γ a w hC
  refine wp_block (wp_mono (h G Γ a w hC) ?_)
  rintro e a' w' ⟨s', Γ', hq, hC'⟩
  cases e with
  | exit j =>
    simp only [AMx] at hq
    simp only [Exit.inBlock]
    by_cases hj : j = id
    · subst hj; rw [Nat.beq_refl] at hq; rw [if_pos rfl]; exact ⟨s', Γ', hq, hC'⟩
    · rw [beq_false hj] at hq; rw [if_neg hj]; exact ⟨s', Γ', hq, hC'⟩
  | _ => exact ⟨s', Γ', hq, hC'⟩

theorem AMx.blk {id : Nat} (h : AMx P R k .normal s) : AMx P R (.blk id :: k) .normal s := h
theorem AMx.blk_exit {id : Nat} (h : AMx P R k .normal s) : AMx P R (.blk id :: k) (.exit id) s := by
  simp only [AMx, Nat.beq_refl, cond_true]; exact h
theorem AMx.blk_pass {id j : Nat} (hj : Nat.beq j id = false) (h : AMx P R k (.exit j) s) : AMx P R (.blk id :: k) (.exit j) s := by
  simp only [AMx, hj, cond_false]; exact h
theorem AMx.code_exit {j : Nat} {c : Code} (h : AMx P R k (.exit j) s) : AMx P R (.code c :: k) (.exit j) s := h
theorem AMx.inv_exit {j : Nat} {I : AS → Prop} (h : AMx P R k (.exit j) s) : AMx P R (.inv I :: k) (.exit j) s := h
theorem AMx.inv {I : AS → Prop} (h : I s) : AMx P R (.inv I :: k) .normal s := ⟨s, AS.ent_refl s, h⟩

theorem AMx.cond {c : Operand} {x y : Code} {b : Bool} (hb : s.val c = .t (.c (.s (.bool b)))) (ht : b = true → AMx P R (.code x :: k) .normal s) (hf : b = false → AMx P R (.code y :: k) .normal s) :
    AMx P R (.code (.cond c x y) :: k) .normal s := by
  intro G Γ a w hC
  have := val_ok hC c
  rw [hb] at this
  exact wp_cond_split (t := b) this (fun h => ht h G Γ a w hC) (fun h => hf h G Γ a w hC)

theorem AMx.region {id : Nat} {ops : Array Oper} {ces : List (Nat × CE)} {ks hs : List Nat} {cs : List Prop} {s' : AS} (h : evReg P ops ces s ks hs = some (cs, s')) (hc : allP cs) (hk : AMx P R k .normal s') :
    AMx P R (.code (.region id ops false) :: k) .normal s := by
  intro G Γ a w hC
  refine wp_region ?_
  unfold evReg at h
  split at h
  · rename_i cs1 s1 h1
    simp only [Option.some.injEq, Prod.mk.injEq] at h
    obtain ⟨rfl, rfl⟩ := h
    have := evR_ok (Q := fun e a' w' => ∃ s' Γ', AMx P R k e s' ∧ Conc G Γ' s' a' w') ops.toList 0 s s1 cs1 (fun j => by simp) h1 hc G Γ a w hC (fun Γ' a' w' hC' => ⟨_, Γ', hk, conc_le hC' (le_proj _ _ _)⟩)
    rwa [show List.range' 0 ops.toList.length = List.range ops.size by rw [List.range_eq_range']; simp] at this
  · cases h

/-- A loop: 'I m s': what holds at each round's head, m: what every round lowers. -/
theorem AMx.loop {c : Code} (I : Nat → AS → Prop) {m0 : Nat} (h0 : I m0 s) (round : ∀ m s, I m s → AMx P R (.code c :: .inv (fun s' => ∃ m', m' < m ∧ I m' s') :: k) .normal s) :
    AMx P R (.code (.loop c) :: k) .normal s := by
  intro G Γ a w hC
  let J : Nat → Act → World → Prop := fun m a w => ∃ s Γ, I m s ∧ Conc G Γ s a w
  have key : ∀ n a w, J n a w → (Code.loop c).wp P (fun e a' w' => ∃ s' Γ', AMx P R k e s' ∧ Conc G Γ' s' a' w') a w := by
    intro n
    induction n using Nat.strongRecOn with
    | _ n ih =>
      intro a w hJ
      refine wp_loop (fun a' w' => ∃ m, m ≤ n ∧ J m a' w') (fun a' w' => Classical.epsilon fun m => J m a' w' ∧ ∀ m', J m' a' w' → m ≤ m') ⟨n, Nat.le_refl _, hJ⟩ ?_
      have least : ∀ a' w', (∃ m, J m a' w') → ∃ m, J m a' w' ∧ ∀ m', J m' a' w' → m ≤ m' := by
        rintro a' w' ⟨m, hm⟩
        induction m using Nat.strongRecOn with
        | _ m ih =>
          by_cases hx : ∃ m', m' < m ∧ J m' a' w'
          · obtain ⟨m', h1, h2⟩ := hx; exact ih m' h1 h2
          · exact ⟨m, hm, fun m' h => Nat.le_of_not_lt fun hlt => hx ⟨m', hlt, h⟩⟩
      rintro a' w' ⟨m, hm, hJm⟩
      have hex := least a' w' ⟨m, hJm⟩
      have hsp := Classical.epsilon_spec hex
      generalize hμ : (Classical.epsilon fun m => J m a' w' ∧ ∀ m', J m' a' w' → m ≤ m') = μ at *
      obtain ⟨⟨s', Γ', hI, hC'⟩, hleast⟩ := hsp
      refine wp_mono (round μ s' hI G Γ' a' w' hC') ?_
      rintro e a2 w2 ⟨s2, Γ2, hq, hC2⟩
      cases e with
      | normal =>
        obtain ⟨s3, hent, m', hlt, hI'⟩ := hq
        obtain ⟨Γ3, hC2⟩ := hent G Γ2 a2 w2 hC2
        have hJ2 : J m' a2 w2 := ⟨s3, Γ3, hI', hC2⟩
        have hμm : μ ≤ m := hleast m hJm
        refine ⟨⟨m', by omega, hJ2⟩, ?_⟩
        have h2 := Classical.epsilon_spec (least a2 w2 ⟨m', hJ2⟩)
        exact Nat.lt_of_le_of_lt (h2.2 m' hJ2) hlt
      | _ => exact ⟨s2, Γ2, hq, hC2⟩
  exact key m0 a w ⟨s, Γ, h0, hC⟩

theorem AMx.ent {c : Code} {s' : AS} (hl : s.ent s') (h : AMx P R (.code c :: k) .normal s') : AMx P R (.code c :: k) .normal s := by
  intro G Γ a w hC
  obtain ⟨Γ', hC'⟩ := hl G Γ a w hC
  exact h G Γ' a w hC'

theorem AMx.ent_inv {I : AS → Prop} {s' : AS} (hl : s.ent s') (h : AMx P R (.inv I :: k) .normal s') : AMx P R (.inv I :: k) .normal s := by
  obtain ⟨s2, h1, h2⟩ := h
  exact ⟨s2, AS.ent_trans hl h1, h2⟩

/-- Ways meet again: what holds behind c is told once. -/
theorem AMx.cut {c : Code} (J : AS → Prop) (h1 : AMx P (fun e s => match e with | .normal => J s | e => AMx P R k e s) [.code c] .normal s) (h2 : ∀ s, J s → AMx P R k .normal s) : AMx P R (.code c :: k) .normal s := by
  intro G Γ a w hC
  refine wp_mono (h1 G Γ a w hC) ?_
  rintro e a' w' ⟨s', Γ', hq, hC'⟩
  cases e with
  | normal => exact ⟨s', Γ', h2 s' hq, hC'⟩
  | _ => exact ⟨s', Γ', hq, hC'⟩
end

/-! ### Functions -/
def evRes1 (P : Program) (s : AS) : ResultVar → Option TV
  | .tmp t => match s.reg t with
    | .t x => some x
    | _ => none
  | .cell a T => match evLoad P s.obj T (s.reg a) with
    | some ([], .t x) => match s.reg a with
      | .t (.c (.ptr _ _)) => some x
      | _ => none
    | _ => none
def evRess (P : Program) (s : AS) : List ResultVar → Option (List TV)
  | [] => some []
  | r :: l => match evRes1 P s r, evRess P s l with
    | some x, some xs => some (x :: xs)
    | _, _ => none
def evRes (P : Program) (fn : Func) (s : AS) : Option AV :=
  match evRess P s fn.results.toList with
  | some [x] => some (.t x)
  | some l => some (.tup l)
  | none => none

def resOne (tmps : Array Value) : ResultVar → Sem Value
  | .tmp t => pure (tmps.getD t undef)
  | .cell a T => do loadVar T (← asAddr (tmps.getD a undef))

theorem results_run {P : Program} {fn : Func} {tmps : Array Value} {w : World} {vs : List Value} (h : (fn.results.toList.mapM (resOne tmps)).run P w = Result.ok vs w) :
    (results fn tmps).run P w = Result.ok (if h : vs.length = 1 then vs[0] else .tuple vs.toArray) w := by
  have e : results fn tmps = (do let xs ← fn.results.mapM (resOne tmps); pure (if h : xs.size = 1 then xs[0] else .tuple xs)) := by
    unfold results
    congr 1
  rw [e, Array.mapM_eq_mapM_toList, map_eq_pure_bind]
  simp only [Sem.run_bind, h, Result.andThen_ok, Sem.run_pure]
  simp

theorem res_ok {P : Program} {fn : Func} {G Γ s a w r} (hC : Conc G Γ s a w) (h : evRes P fn s = some r) : ∃ v, (results fn a.tmps).run P w = Result.ok v w ∧ MV Γ s.obj w r v ∧ plainV r = true := by
  have one : ∀ (rv : ResultVar) (x : TV), evRes1 P s rv = some x → ∃ v, (resOne a.tmps rv).run P w = Result.ok v w ∧ MT Γ w x v := by
    intro rv x hx
    cases rv with
    | tmp t =>
      simp only [evRes1] at hx
      have hr := hC.regs t
      split at hx
      · rename_i y hy
        cases hx
        rw [hy] at hr
        exact ⟨_, rfl, hr⟩
      · cases hx
    | cell ad T =>
      simp only [evRes1] at hx
      have hr := hC.regs ad
      split at hx
      · rename_i y hl
        split at hx
        · rename_i id off hp
          cases hx
          obtain ⟨v, hv1, hv2⟩ := load_ok (P := P) hl hr hC.heap trivial
          rw [hp] at hr
          have hr : a.tmps.getD ad undef = .pointer (some ⟨Γ.ρ id, off, none⟩) := hr
          refine ⟨v, ?_, hv2⟩
          rw [hr] at hv1
          show Sem.run P (do loadVar T (← asAddr (a.tmps.getD ad undef))) w = _
          rw [hr]
          simpa [Instr.loadAt, Instr.sureAddr, asAddr] using hv1
        · cases hx
      · cases hx
  have all : ∀ (l : List ResultVar) (xs : List TV), evRess P s l = some xs → ∃ vs, (l.mapM (resOne a.tmps)).run P w = Result.ok vs w ∧ MTs Γ w xs vs := by
    intro l
    induction l with
    | nil => intro xs h; cases h; exact ⟨[], rfl, trivial⟩
    | cons rv l ih =>
      intro xs h
      simp only [evRess] at h
      split at h
      · rename_i x xs' h1 h2
        cases h
        obtain ⟨v, e1, e2⟩ := one rv x h1
        obtain ⟨vs, e3, e4⟩ := ih xs' h2
        refine ⟨v :: vs, ?_, e2, e4⟩
        simp only [List.mapM_cons, Sem.run_bind, e1, Result.andThen_ok, e3, Sem.run_pure]
      · cases h
  unfold evRes at h
  split at h
  · rename_i x hx
    cases h
    obtain ⟨vs, h1, h2⟩ := all _ _ hx
    match vs, h2 with
    | [v], h2 => exact ⟨v, by rw [results_run h1]; simp, h2.1, rfl⟩
    | [], h2 => exact h2.elim
    | _ :: _ :: _, h2 => exact h2.2.elim
  · rename_i l hx hl
    cases h
    obtain ⟨vs, h1, h2⟩ := all _ _ hl
    have hne : ¬ vs.length = 1 := by
      intro hlen
      match vs, hlen, h2 with
      | [v], _, h2 =>
        match l, h2 with
        | [x], _ => exact hx x rfl
        | [], h2 => exact h2.elim
        | _ :: _ :: _, h2 => exact h2.2.elim
    exact ⟨.tuple vs.toArray, by rw [results_run h1]; simp [hne], ⟨vs.toArray, rfl, by simpa using h2⟩, rfl⟩
  · cases h

def argRegs : Nat → List TV → List (Nat × AV)
  | _, [] => []
  | i, x :: l => (i, .t x) :: argRegs (i + 1) l

/-- What a function's end must come to. -/
def RetP (P : Program) (fn : Func) (res : AV) (H' : Nat → Option AObj) (e : Exit) (s : AS) : Prop :=
  (e = .ret ∨ e = .normal) ∧ ∃ r, evRes P fn s = some r ∧ r = res ∧ ∀ id o, H' id = some o → s.obj id = some o

theorem lkp_args {Γ obj w} : ∀ (args : List TV) (vs : List Value) (i t : Nat) (rest : List Value), MTs Γ w args vs → MV Γ obj w (lkp (argRegs i args) t) (((List.replicate i undef ++ vs) ++ rest).getD t undef)
  | [], vs, i, t, rest, _ => trivial
  | x :: args, [], _, _, _, h => h.elim
  | x :: args, v :: vs, i, t, rest, h => by
    simp only [argRegs, lkp]
    by_cases ht : t = i
    · subst ht
      rw [Nat.beq_refl]
      have : ((List.replicate t undef ++ v :: vs) ++ rest).getD t undef = v := by
        simp [List.getD]
      rw [this]
      exact h.1
    · rw [beq_false ht]
      by_cases hlt : t < i
      · -- below: nothing is known
        have : ∀ (args : List TV) (j : Nat), t < j → lkp (argRegs j args) t = .any := by
          intro args
          induction args with
          | nil => intro j _; rfl
          | cons y args ih => intro j hj; simp only [argRegs, lkp]; rw [beq_false (by omega)]; exact ih (j + 1) (by omega)
        simp only [cond_false]
        rw [this args (i + 1) (by omega)]
        trivial
      · have := lkp_args (obj := obj) args vs (i + 1) t rest h.2
        have e : ((List.replicate i undef ++ v :: vs) ++ rest).getD t undef = ((List.replicate (i + 1) undef ++ vs) ++ rest).getD t undef := by
          have e1 : (List.replicate i undef ++ v :: vs) ++ rest = List.replicate i undef ++ (v :: (vs ++ rest)) := by simp
          have e2 : (List.replicate (i + 1) undef ++ vs) ++ rest = List.replicate i undef ++ (undef :: (vs ++ rest)) := by rw [List.replicate_succ']; simp
          rw [e1, e2, List.getD_eq_getElem?_getD, List.getD_eq_getElem?_getD, List.getElem?_append_right (by simp; omega), List.getElem?_append_right (by simp; omega), List.length_replicate]
          rw [show t - i = (t - i - 1) + 1 by omega, List.getElem?_cons_succ, List.getElem?_cons_succ]
        simp only [cond_false]
        rw [e]
        exact this

theorem MTs.length {Γ w} : ∀ {l : List TV} {vs : List Value}, MTs Γ w l vs → vs.length = l.length
  | [], [], _ => rfl
  | _ :: l, _ :: vs, h => by simp [MTs.length h.2]
  | [], _ :: _, h => h.elim
  | _ :: _, [], h => h.elim

/-- The start of a body. -/
theorem body_start {P : Program} {fn : Func} {Γ : Ctx} {w : World} {args : List TV} {H : List (Nat × AObj)} {n : Nat} {cargs : Array Value} (hnt : fn.ntmps = n) (hle : Nat.ble args.length n = true) (hh : HeapOk Γ (ofH H) w) (hm : MTs Γ w args cargs.toList) :
    Conc ⟨w, prOf Γ (ofH H) w, Γ.I, Γ.ρ, Γ.η⟩ Γ (AS.lst n (argRegs 0 args) H) { tmps := cargs ++ Array.replicate (fn.ntmps - cargs.size) undef, defers := [] } w := by
  have hlen := hm.length
  have hle := Nat.le_of_ble_eq_true hle
  refine ⟨?_, rfl, fun t => ?_, hh, ⟨rfl, rfl, rfl, Nat.le_refl _, fun b hb => hb.1, fun b hb => rfl, fun b hb => hb, fun b _ hb => hb, fun id o b ho hf hb => hb.2 id o ho hf⟩, fun _ _ => ⟨rfl, rfl⟩⟩
  · simp only [Array.size_append, Array.size_replicate, AS.lst, hnt]
    rw [Array.length_toList] at hlen
    omega
  · have := lkp_args (Γ := Γ) (obj := ofH H) (w := w) args cargs.toList 0 t (List.replicate (fn.ntmps - cargs.size) undef) hm
    simp only [AS.lst]
    have e : (cargs ++ Array.replicate (fn.ntmps - cargs.size) undef).getD t undef = ((List.replicate 0 undef ++ cargs.toList) ++ List.replicate (fn.ntmps - cargs.size) undef).getD t undef := by
      rw [Array.getD_eq_getD_getElem?, List.getD_eq_getElem?_getD, ← Array.getElem?_toList]
      simp
    rw [e]
    exact this

/-! Values that name no object. -/
def capsNo : List Cap → Bool
  | [] => true
  | .s _ :: l => capsNo l
  | _ :: _ => false
def AC.no : AC → Bool
  | .s _ => true
  | .fn _ caps => capsNo caps
  | _ => false
def acsNo : List AC → Bool
  | [] => true
  | c :: l => c.no && acsNo l
def TV.no : TV → Bool
  | .c a => a.no
  | .agg l => acsNo l
  | .arr .. => true
def tvsNo : List TV → Bool
  | [] => true
  | c :: l => c.no && tvsNo l
def AV.no : AV → Bool
  | .t x => x.no
  | .tup l => tvsNo l
  | _ => false

theorem capsNo_has {D : Nat → Prop} : ∀ (l : List Cap), capsNo l = true → ∀ d, D d → capsHas d l = false
  | [], _, _, _ => rfl
  | .s _ :: l, h, d, hd => by simp only [capsHas, Cap.has, Bool.false_or]; exact capsNo_has l h d hd
  | .ptr .. :: _, h, _, _ => by cases h
theorem AC.no_has {D : Nat → Prop} (c : AC) (h : c.no = true) : ∀ d, D d → c.has d = false := by
  intro d hd
  cases c with
  | s c => rfl
  | fn f caps => exact capsNo_has caps h d hd
  | ptr => cases h
  | own => cases h
theorem acsNo_has {D : Nat → Prop} : ∀ (l : List AC), acsNo l = true → ∀ d, D d → acsHas d l = false
  | [], _, _, _ => rfl
  | c :: l, h, d, hd => by
    simp only [acsNo, Bool.and_eq_true] at h
    simp only [acsHas, Bool.or_eq_false_iff]
    exact ⟨AC.no_has c h.1 d hd, acsNo_has l h.2 d hd⟩
theorem TV.no_has {D : Nat → Prop} (c : TV) (h : c.no = true) : ∀ d, D d → c.has d = false := by
  intro d hd
  cases c with
  | c a => exact AC.no_has a h d hd
  | agg l => exact acsNo_has l h d hd
  | arr => rfl
theorem tvsNo_has {D : Nat → Prop} : ∀ (l : List TV), tvsNo l = true → ∀ d, D d → tvsHas d l = false
  | [], _, _, _ => rfl
  | c :: l, h, d, hd => by
    simp only [tvsNo, Bool.and_eq_true] at h
    simp only [tvsHas, Bool.or_eq_false_iff]
    exact ⟨TV.no_has c h.1 d hd, tvsNo_has l h.2 d hd⟩
theorem AV.no_has {D : Nat → Prop} (c : AV) (h : c.no = true) : ∀ d, D d → c.has d = false := by
  intro d hd
  cases c with
  | t x => exact TV.no_has x h d hd
  | tup l => exact tvsNo_has l h d hd
  | _ => cases h

/-- THE CONTRACT OF A FUNCTION OUT OF ITS BODY: one that owns nothing and hands out nothing of its own. -/
theorem Pure.of_body {P : Program} {f : FuncId} {fn : Func} {c : Code} {args : List TV} {res : AV} {n : Nat} (hf : P.funcs[f]? = some fn) (hb : fn.body = some c) (hn : (fn.name == "runtime.NumGoroutine") = false)
    (hnt : fn.ntmps = n) (hle : Nat.ble args.length n = true) (hno : res.no = true) (h : AMx P (RetP P fn res H0) [.code c] .normal (AS.lst n (argRegs 0 args) [])) : Pure P f args res := by
  refine ⟨⟨fn, hf, by rw [hb]; rfl, hn⟩, fun Γ w cargs hh hm => ?_⟩
  refine calls_of_wp hf hb ?_
  have hC := body_start (P := P) (H := []) hnt hle hh hm
  refine wp_mono (h _ _ _ _ hC) ?_
  rintro e a' w' ⟨s', Γ', ⟨he, r, hr, rfl, hH⟩, hC'⟩
  obtain ⟨v, h1, h2, h3⟩ := res_ok (P := P) (fn := fn) hC' hr
  have hpost : a'.defers = [] ∧ ∃ v, (results fn a'.tmps).run P w' = Result.ok v w' ∧ ∃ v_1 Γ', Ending.returned v = .returned v_1 ∧ MV Γ' H0 w' r v_1 ∧ HeapOk Γ' H0 w' ∧ GOk ⟨w, prOf Γ (ofH []) w, Γ.I, Γ.ρ, Γ.η⟩ Γ' H0 w' ∧ Agree (fun id => H0 id ≠ none ∧ H0 id = none) Γ Γ' := by
    have hh' := heap0 hC'.heap
    have hg' : GOk ⟨w, prOf Γ (ofH []) w, Γ.I, Γ.ρ, Γ.η⟩ Γ' H0 w' := hC'.g.sub_obj (fun _ _ h => by cases h)
    let Γ2 : Ctx := ⟨Γ'.I, Γ.ρ, Γ.η⟩
    have hx : Ext (fun _ => True) Γ' w' Γ2 w' := ⟨fun b hb => hb, fun b hb => rfl, fun id h => absurd trivial h⟩
    refine ⟨hC'.defers, v, h1, v, Γ2, rfl, MV.ext hx (fun id o h => absurd trivial h) (AV.no_has r hno) (plain_obj (obj' := H0) h3 h2), ⟨fun _ _ h => (by cases h), fun _ _ _ h => (by cases h), fun _ _ _ _ _ h => (by cases h), hh'.ilt⟩,
      ⟨hg'.os, hg'.tape, hg'.output, hg'.size, hg'.prlt, hg'.keep, hg'.sub, hg'.bak, fun _ _ _ h => (by cases h)⟩, fun _ _ => ⟨rfl, rfl⟩⟩
  rcases he with rfl | rfl
  · exact hpost
  · exact hpost
end AL
