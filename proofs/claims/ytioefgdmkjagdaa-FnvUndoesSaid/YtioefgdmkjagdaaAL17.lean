/- An abstract logic, 17: one step of a region, whatever it is; a region in the order of its text. No condition. -/
import Derived.Test.YtioefgdmkjagdaaAL16
namespace AL
open Go
set_option linter.unusedVariables false

/-- The operations with an effect (but a store). -/
def evE (P : Program) (obj : Nat → Option AObj) (val : Operand → AV) (o : Oper) (ce : Option CE) : Option Eff :=
  match o.op with
  | .alloc T => evAlloc P obj o.dst T ce
  | .box _ x => evBox obj o.dst (val x) ce
  | .buildSlice T len parts => evBuildSlice P obj o.dst T len (parts.toList.map fun p => (p.1, val p.2)) ce
  | .makeSlice T l c => evMakeSlice P obj o.dst T (val l) (val c) ce
  | .call c => match c.callee with
    | .builtin .append => match c.args.toList, c.argTypes.toList with
      | [s, x], [t, u] => evAppend P obj o.dst t u (val s) (val x) ce
      | _, _ => none
    | _ => none
  | _ => none

theorem evE_ok {P : Program} {Γ : Ctx} {obj w} {val : Operand → AV} {ρ : Operand → Value} {o : Oper} {ce f} (hh : HeapOk Γ obj w) (h : evE P obj val o ce = some f) (hv : ∀ x ∈ o.op.operands.toList, MV Γ obj w (val x) (ρ x)) (hc : allP f.conds) :
    ∃ run, EffOk P Γ obj w f run ∧ (execOp ρ o).run P w = run.andThen fun v w' => Result.ok (.value v) w' := by
  have tl : ∀ {α : Type} {xs : Array α} {l : List α}, xs.toList = l → xs = l.toArray := fun h => by rw [← h]
  unfold evE at h
  unfold execOp
  split at h
  · rename_i T e; simp only [e]; exact ⟨_, alloc_ok hh h hc, by simp⟩
  · rename_i T x e; simp only [e]; exact ⟨_, box_ok (T := T) hh h (hv x (by simp [e, Op.operands])) hc, by simp⟩
  · rename_i T len parts e
    simp only [e]
    have := buildSlice_ok (P := P) hh h (mparts_map parts.toList fun y hy => hv y (by simpa [e, Op.operands] using hy)) hc
    rw [show (parts.toList.map fun p => (p.1, ρ p.2)).toArray = parts.map fun (i, x) => (i, ρ x) by apply Array.ext'; simp] at this
    exact ⟨_, this, by simp⟩
  · rename_i T l c e; simp only [e]; exact ⟨_, makeSlice_ok hh h (hv l (by simp [e, Op.operands])) (hv c (by simp [e, Op.operands])) hc, by simp⟩
  · rename_i c e
    simp only [e]
    split at h
    · rename_i hcal
      split at h
      · rename_i s x t u e1 e2
        obtain ⟨h1, h2, h3, h4⟩ := append_ok (P := P) (ty := o.type) hh h (hv s (by simp [e, Op.operands, Call.operands, hcal, e1])) (hv x (by simp [e, Op.operands, Call.operands, hcal, e1])) hc
        exact ⟨_, ⟨h1, h2, h3, h4⟩, by simp [resolve, hcal, invoke, builtin, tl e1, tl e2]⟩
      · cases h
    · cases h
  · cases h

/-- A call, by its contract. -/
def evCall (P : Program) (obj : Nat → Option AObj) (val : Operand → AV) (c : Call) (ce : Option CE) : Option Eff :=
  match c.callee, ce with
  | .value fo, some (.call fz hin res new) =>
    match val fo, tvsOf (c.args.toList.map val) with
    | .t (.c (.fn f caps)), some args =>
      match evFreeze obj (args ++ caps.map capT) fz with
      | some (obj', args') => if plainV res then some ⟨[Spec P f args' (ofH (restr obj' hin)) res (ofH new)], res, obj', restr obj' hin, new⟩ else none
      | none => none
    | _, _ => none
  | _, _ => none

theorem evCall_ok {P : Program} {G : Gd} {Γ : Ctx} {obj w} {val : Operand → AV} {ρ : Operand → Value} {o : Oper} {c : Call} {ce f} (he : o.op = .call c) (hh : HeapOk Γ obj w) (hg : GOk G Γ obj w) (h : evCall P obj val c ce = some f) (hv : ∀ x ∈ o.op.operands.toList, MV Γ obj w (val x) (ρ x)) (hc : allP f.conds) :
    plainV f.res = true ∧ ∃ Γ1, HeapOk Γ1 f.obj w ∧ GOk G Γ1 f.obj w ∧ Ext (fun _ => False) Γ w Γ1 w ∧ (∀ id o, f.obj id = some o → obj id = some o) ∧ (∀ id o, ofH f.hin id = some o → f.obj id = some o) ∧
    ∃ fid args, (execOp ρ o).run P w = Result.ok (.enter fid args) w ∧ Calls P fid args w fun e w' => ∃ v Γ', e = .returned v ∧ Post Γ1 (ofH f.hin) w Γ' f.new w' ∧ MV Γ' (ofH f.new) w' f.res v := by
  unfold evCall at h
  split at h
  · rename_i fo fz hin res new hcal
    split at h
    · rename_i fid caps args hfo hargs
      split at h
      · rename_i obj' args' hfr
        split at h
        · rename_i hpl
          cases h
          obtain ⟨⟨fn, hfn, hbody, hname⟩, hspec⟩ := hc
          have hm := tvsOf_ok _ _ (fun y hy => hv y (by simp only [he, Op.operands, Call.operands, hcal, Array.toList_append]; exact List.mem_append_right _ hy)) hargs
          have hf := hv fo (by simp [he, Op.operands, Call.operands, hcal])
          rw [hfo] at hf
          obtain ⟨cs, hfv, hcaps⟩ := hf
          have hm2 := MTs.append hm (capsT_ok hcaps)
          obtain ⟨Γ1, h1, g1, m1, e1, r1, n1, s1⟩ := evFreeze_ok fz hfr hh hg hm2
          have hsub : ∀ id o, ofH (restr obj' hin) id = some o → obj' id = some o := fun id o h => restr_ok hin h
          refine ⟨hpl, Γ1, h1, g1, e1, s1, hsub, fid, c.args.map ρ ++ cs, ?_, ?_⟩
          · have hname' : fn.name ≠ "runtime.NumGoroutine" := by simpa using hname
            unfold execOp
            simp only [he]
            simp [resolve, hcal, hfv, Deferred.ofValue, invoke, callFunc, hfn, hname']
            intro h0
            rw [h0] at hbody
            cases hbody
          · refine (hspec Γ1 w _ (heap_sub h1 hsub) (by simpa using m1)).mono ?_
            rintro e w' ⟨v, Γ', rfl, hv', hh', hg', ha⟩
            exact ⟨v, Γ', rfl, ⟨hh', hg', ha⟩, hv'⟩
        · cases h
      · cases h
    · cases h
  · cases h

/-! ### 'pick' -/
def evPick (s : AS) (c a b : Operand) : Option (List Prop × AV) :=
  match (s.val c).strip with
  | .t (.c (.s (.bool cb))) =>
    match a, b with
    | .const (.bool true), b => match (s.val b).strip with
      | .t (.c (.s (.bool y))) => some ((s.val c).cond ++ [cb = false → allP (s.val b).cond], .t (.c (.s (.bool (cb || y)))))
      | _ => none
    | a, .const (.bool false) => match (s.val a).strip with
      | .t (.c (.s (.bool y))) => some ((s.val c).cond ++ [cb = true → allP (s.val a).cond], .t (.c (.s (.bool (cb && y)))))
      | _ => none
    | _, _ => none
  | _ => none

/-! ### One step -/
def condsOf (s : AS) (op : Op) : List Prop := op.operands.toList.flatMap fun x => (s.val x).cond

def okDst (s : AS) (o : Oper) : Bool := match o.dst with | none => true | some d => Nat.blt d s.n

/-- The state behind an effect. -/
def effSt (s : AS) (dst : Option Tmp) (f : Eff) : AS :=
  AS.set ⟨s.n, fun t => scrubV (ofH f.hin) (keysNew (ofH f.hin) f.new) (s.reg t), afterObj f.obj (ofH f.hin) (ofH f.new) (keysNew (ofH f.hin) f.new)⟩ dst f.res

/-- The names that a step makes are slots' numbers. -/
def effIds (s : AS) (f : Eff) : Bool := (keysNew (ofH f.hin) f.new).all (fun d => Nat.blt d s.n)

/-- Without a change of the owned objects: nothing is to be scrubbed. -/
def effSt' (s : AS) (dst : Option Tmp) (f : Eff) : AS :=
  match f.hin, f.new with
  | [], [] => AS.set ⟨s.n, s.reg, f.obj⟩ dst f.res
  | _, _ => effSt s dst f

/-- A guard: the condition under which the operation runs. -/
def guardP (ops : Array Oper) (s : AS) (j : Nat) (want : Bool) : Option Prop :=
  match (ops[j]?).bind (·.dst) with
  | some t => match s.reg t with
    | .t (.c (.s (.bool b))) => some (b = want)
    | .whn p (.t (.c (.s (.bool b)))) => some (p ∧ b = want)
    | _ => none
  | none => none

/-- One operation that bears no guard. 'some (conditions, the state behind it)'. -/
def ev1 (P : Program) (s : AS) (o : Oper) (ce : Option CE) : Option (List Prop × AS) :=
  if okDst s o then
    match o.op with
    | .move x | .assign x => some ([], s.set o.dst (s.val x))
    | .pick c a b => (evPick s c a b).map fun r => (r.1, s.set o.dst r.2)
    | .store T a x => match o.dst with
      | none => match evStore P s.obj T (s.val a).strip (s.val x).strip ce with
        | some f => if effIds s f then some (condsOf s o.op ++ f.conds, effSt' s none ⟨[], .any, f.obj, f.hin, f.new⟩) else none
        | none => none
      | some _ => none
    | op =>
      match evV P s.obj (fun x => (s.val x).strip) op with
      | some r => some (condsOf s op ++ r.1, s.set o.dst r.2)
      | none =>
        match evE P s.obj (fun x => (s.val x).strip) o ce with
        | some f => if effIds s f then some (condsOf s op ++ f.conds, effSt' s o.dst f) else none
        | none => match op with
          | .call c => match evCall P s.obj (fun x => (s.val x).strip) c ce with
            | some f => if effIds s f then some (condsOf s op ++ f.conds, effSt' s o.dst f) else none
            | none => none
          | _ => none
  else none

/-- One operation under a guard: it computes, or calls what owns nothing. -/
def evGv (P : Program) (s : AS) (op : Op) : Option (List Prop × AV) :=
  match op with
  | .pick c a b => evPick s c a b
  | op => match evV P s.obj (fun x => (s.val x).strip) op with
    | some r => some (condsOf s op ++ r.1, r.2)
    | none => none

def ev1g (P : Program) (ops : Array Oper) (s : AS) (o : Oper) (ce : Option CE) (j : Nat) (want : Bool) : Option (List Prop × AS) :=
  if okDst s o then
    match guardP ops s j want with
    | some p =>
      match evGv P s o.op with
      | some r => some ([p → allP r.1], s.set o.dst (.whn p r.2))
      | none => match o.op, ce with
        | .call c, some (.call [] [] res []) => match evCall P s.obj (fun x => (s.val x).strip) c (some (.call [] [] res [])) with
          | some f => some ([p → allP (condsOf s o.op ++ f.conds)], s.set o.dst (.whn p f.res))
          | none => none
        | _, _ => none
    | none => none
  else none

def evOp (P : Program) (ops : Array Oper) (s : AS) (o : Oper) (ce : Option CE) : Option (List Prop × AS) :=
  match o.guard with
  | none => ev1 P s o ce
  | some (j, want) => ev1g P ops s o ce j want

/-- What one operation must come to, whatever stands behind it. -/
def wpO (P : Program) (ops : Array Oper) (Q : Exit → Act → World → Prop) (o : Oper) (K : Act → World → Prop) (a : Act) (w : World) : Prop :=
  if Region.wanted o (yielded ops a.tmps) then o.wp P a w K Q ∨ (o.asks P a w ∧ LetsOut Q) else K (a.put o.dst undef) w

theorem conc_obj {G Γ s a w} (h : Conc G Γ s a w) {obj' : Nat → Option AObj} {Γ' : Ctx} (hh : HeapOk Γ' obj' w) (hg : GOk G Γ' obj' w) (he : Ext (fun _ => False) Γ w Γ' w) (hs : ∀ id o, obj' id = some o → s.obj id = some o) :
    Conc G Γ' ⟨s.n, s.reg, obj'⟩ a w :=
  ⟨h.size, h.defers, fun t => MV.ext he (fun id o _ ho => ⟨o, hs id o ho, rfl⟩) (fun d hd => hd.elim) (h.regs t), hh, hg, fun id hid => by
    obtain ⟨e1, e2⟩ := he.agree id (fun h => h)
    rw [e1, e2]; exact h.ids id hid⟩

theorem scrub_nil {H : Nat → Option AObj} (hH : ∀ id, H id = none) (v : AV) : scrubV H [] v = v := by
  unfold scrubV
  have : ∀ v, oelIn H v = false := by
    intro v
    induction v with
    | oel id i j => simp [oelIn, hH]
    | whn p x ih => simpa [oelIn] using ih
    | _ => rfl
  simp [this]

theorem after_nil (obj : Nat → Option AObj) : afterObj obj (ofH []) (ofH []) (keysNew (ofH []) []) = obj := by
  funext j
  unfold afterObj
  simp only [ofH, H0, keysNew]
  cases obj j <;> simp

theorem effSt_eq (s : AS) (dst : Option Tmp) (f : Eff) : effSt' s dst f = effSt s dst f := by
  unfold effSt'
  split
  · rename_i h1 h2
    unfold effSt
    rw [h1, h2, after_nil]
    congr 2
    funext t
    exact (scrub_nil (fun _ => rfl) _).symm
  · rfl

/-- Behind an effect. -/
theorem eff_conc {G Γ s a w dst f Γ' w' v} (h : Conc G Γ ⟨s.n, s.reg, f.obj⟩ a w) (hsub : ∀ id o, ofH f.hin id = some o → f.obj id = some o) (hp : Post Γ (ofH f.hin) w Γ' f.new w')
    (hpl : dst = none ∨ plainV f.res = true) (hv : dst = none ∨ MV Γ' (ofH f.new) w' f.res v) (hd : ∀ d, dst = some d → d < s.n) (hids : effIds s f = true) : Conc G Γ' (effSt s dst f) (a.put dst v) w' := by
  have h1 := call_ok h.size h.defers h.regs h.heap h.g hsub hp.heap hp.g hp.agree h.ids hids
  cases dst with
  | none => exact h1
  | some d =>
    refine conc_set h1 hd ?_
    have hpl := hpl.resolve_left (by simp)
    have hv := hv.resolve_left (by simp)
    exact plain_obj hpl hv

theorem okDst_ok {s : AS} {o : Oper} (h : okDst s o = true) : ∀ d, o.dst = some d → d < s.n := by
  intro d hd
  unfold okDst at h
  rw [hd] at h
  exact Nat.lt_of_lt_of_le (Nat.lt_succ_self d) (Nat.le_of_ble_eq_true h)

theorem cond_operand {s : AS} {op : Op} (hc : allP (condsOf s op)) {x : Operand} (hx : x ∈ op.operands.toList) : allP (s.val x).cond := by
  unfold condsOf at hc
  generalize op.operands.toList = l at hc hx
  induction l with
  | nil => cases hx
  | cons y l ih =>
    rw [List.flatMap_cons, allP_append] at hc
    rcases List.mem_cons.1 hx with rfl | hx
    · exact hc.1
    · exact ih hc.2 hx
end AL
