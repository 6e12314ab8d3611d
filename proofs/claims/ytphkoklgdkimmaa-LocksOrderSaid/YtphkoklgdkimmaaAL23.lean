/- An abstract logic, 23: what a step changes, told apart from the state that it is done in. No condition. -/
import Derived.Test.YtphkoklgdkimmaaAL22
namespace AL
open Go
set_option linter.unusedVariables false
set_option linter.unusedSimpArgs false

def delAll : List Nat → (Nat → Option AObj) → Nat → Option AObj
  | [], obj => obj
  | id :: r, obj => delAll r (delObj id obj)

theorem delObj_mono {obj obj' : Nat → Option AObj} (id : Nat) (ho : ∀ id o, obj id = some o → obj' id = some o) : ∀ i o, delObj id obj i = some o → delObj id obj' i = some o := by
  intro i o h
  unfold delObj at h ⊢
  cases hb : Nat.beq i id
  · rw [hb] at h; exact ho _ _ h
  · rw [hb] at h; cases h

theorem delAll_mono : ∀ (fz : List Nat) {obj obj' : Nat → Option AObj}, (∀ id o, obj id = some o → obj' id = some o) → ∀ i o, delAll fz obj i = some o → delAll fz obj' i = some o
  | [], _, _, ho => ho
  | id :: r, _, _, ho => delAll_mono r (delObj_mono id ho)

theorem delAll_none {obj : Nat → Option AObj} {i : Nat} : ∀ (fz : List Nat) {obj}, obj i = none → delAll fz obj i = none
  | [], _, h => h
  | id :: r, obj, h => by
    refine delAll_none r (obj := delObj id obj) ?_
    unfold delObj
    cases Nat.beq i id <;> simp [h]

theorem delAll_eq {i : Nat} : ∀ (fz : List Nat) {obj obj' : Nat → Option AObj}, obj' i = obj i → delAll fz obj' i = delAll fz obj i
  | [], _, _, h => h
  | id :: r, obj, obj', h => delAll_eq r (by unfold delObj; cases Nat.beq i id <;> simp [h])

theorem evFreeze_at : ∀ (fz : List Nat) {obj obj' args obj1 args1}, (∀ id o, obj id = some o → obj' id = some o) → evFreeze obj args fz = some (obj1, args1) → obj1 = delAll fz obj ∧ evFreeze obj' args fz = some (delAll fz obj', args1)
  | [], obj, obj', args, obj1, args1, ho, h => by
    simp only [evFreeze, Option.some.injEq, Prod.mk.injEq] at h
    obtain ⟨rfl, rfl⟩ := h
    exact ⟨rfl, rfl⟩
  | id :: r, obj, obj', args, obj1, args1, ho, h => by
    simp only [evFreeze] at h ⊢
    split at h
    · rename_i o hx
      simp only [ho _ _ hx]
      split at h
      · rename_i z hz
        (try simp only [hz])
        exact evFreeze_at r (delObj_mono id ho) h
      · cases h
    · cases h

theorem restr_at {obj obj' : Nat → Option AObj} : ∀ (l : List Nat), (∀ i ∈ l, obj' i = obj i) → restr obj' l = restr obj l
  | [], _ => rfl
  | i :: l, h => by
    unfold restr
    rw [h i (List.mem_cons_self ..), restr_at l fun j hj => h j (List.mem_cons_of_mem _ hj)]

def fzOf : Option CE → List Nat
  | some (.call fz _ _ _) => fz
  | _ => []
def hinOf : Option CE → List Nat
  | some (.call _ hin _ _) => hin
  | _ => []

theorem evCall_at {P : Program} {obj obj' : Nat → Option AObj} {val val' : Operand → AV} {c : Call} {ce f} (ho : ∀ id o, obj id = some o → obj' id = some o) (hh : (hinOf ce).all (fun i => (obj i).isSome) = true)
    (hv : ∀ x ∈ (Op.call c).operands.toList, val' x = val x) (h : evCall P obj val c ce = some f) : evCall P obj' val' c ce = some ⟨f.conds, f.res, delAll (fzOf ce) obj', f.hin, f.new⟩ := by
  unfold evCall at h ⊢
  split at h
  · rename_i fo fz hin res new hcal
    have hm : c.args.toList.map val' = c.args.toList.map val := List.map_congr_left fun x hx => hv x (by simp only [Op.operands, Call.operands, Array.toList_append]; exact List.mem_append_right _ hx)
    have hf : val' fo = val fo := hv fo (by simp [Op.operands, Call.operands, hcal])
    simp only [hcal, hm, hf]
    split at h
    · rename_i fid caps args hfo hargs
      (try simp only [hfo, hargs])
      split at h
      · rename_i obj1 args1 hfr
        obtain ⟨rfl, h2⟩ := evFreeze_at fz ho hfr
        simp only [h2]
        split at h
        · rename_i hp
          (try rw [if_pos hp])
          cases h
          have : restr (delAll fz obj') hin = restr (delAll fz obj) hin := restr_at hin fun i hi => by
            refine delAll_eq fz ?_
            have := List.all_eq_true.1 hh i hi
            cases hx : obj i with
            | none => rw [hx] at this; cases this
            | some o => exact ho i o hx
          simp only [this, fzOf]
        · cases h
      · cases h
    · cases h
  · cases h

/-- What a step changes. -/
structure Dl where
  res : AV
  fz : List Nat
  hin : List (Nat × AObj)
  new : List (Nat × AObj)

def Dl.v (x : AV) : Dl := ⟨x, [], [], []⟩

def app (dst : Option Tmp) (d : Dl) (S : AS) : AS := effSt' S dst ⟨[], d.res, delAll d.fz S.obj, d.hin, d.new⟩

theorem app_v (dst : Option Tmp) (x : AV) (S : AS) : app dst (Dl.v x) S = S.set dst x := rfl

def evD1 (P : Program) (s : AS) (o : Oper) (ce : Option CE) : Option (List Prop × Dl) :=
  if okDst s o then
    match o.op with
    | .move x | .assign x => some ([], Dl.v (s.val x))
    | .pick c a b => (evPick s c a b).map fun r => (r.1, Dl.v r.2)
    | .store T a x => match o.dst with
      | none => match evStore P s.obj T (s.val a).strip (s.val x).strip ce with
        | some f => if effIds s f then some (condsOf s o.op ++ f.conds, ⟨.any, [], f.hin, f.new⟩) else none
        | none => none
      | some _ => none
    | op =>
      match evV P s.obj (fun x => (s.val x).strip) op with
      | some r => some (condsOf s op ++ r.1, Dl.v r.2)
      | none =>
        match evE P s.obj (fun x => (s.val x).strip) o ce with
        | some f => if effIds s f then some (condsOf s op ++ f.conds, ⟨f.res, [], f.hin, f.new⟩) else none
        | none => match op with
          | .call c => match evCall P s.obj (fun x => (s.val x).strip) c ce with
            | some f => if effIds s f then some (condsOf s op ++ f.conds, ⟨f.res, fzOf ce, f.hin, f.new⟩) else none
            | none => none
          | _ => none
  else none

def evD1g (P : Program) (ops : Array Oper) (s : AS) (o : Oper) (ce : Option CE) (j : Nat) (want : Bool) : Option (List Prop × Dl) :=
  if okDst s o then
    match guardP ops s j want with
    | some p =>
      match evGv P s o.op with
      | some r => some ([p → allP r.1], Dl.v (.whn p r.2))
      | none => match o.op, ce with
        | .call c, some (.call [] [] res []) => match evCall P s.obj (fun x => (s.val x).strip) c (some (.call [] [] res [])) with
          | some f => some ([p → allP (condsOf s o.op ++ f.conds)], Dl.v (.whn p f.res))
          | none => none
        | _, _ => none
    | none => none
  else none

def evD (P : Program) (ops : Array Oper) (s : AS) (o : Oper) (ce : Option CE) : Option (List Prop × Dl) :=
  match o.guard with
  | none => evD1 P s o ce
  | some (j, want) => evD1g P ops s o ce j want

/-- What an operation looks at is in S as in s. -/
structure Looks (ops : Array Oper) (o : Oper) (ce : Option CE) (s S : AS) : Prop where
  n : S.n = s.n
  reg : ∀ t ∈ o.looksAt ops, S.reg t = s.reg t
  obj : ∀ id o, s.obj id = some o → S.obj id = some o
  hin : (hinOf ce).all (fun i => (s.obj i).isSome) = true

theorem Looks.val {ops : Array Oper} {o : Oper} {ce s S} (h : Looks ops o ce s S) : ∀ x ∈ o.op.operands.toList, S.val x = s.val x := by
  intro x hx
  cases x with
  | tmp t => exact h.reg t (List.mem_append_left _ (List.mem_filterMap.2 ⟨.tmp t, hx, rfl⟩))
  | _ => rfl

theorem pick_at {s S : AS} {c a b r} (h : evPick s c a b = some r) (hv : ∀ x ∈ (Op.pick c a b).operands.toList, S.val x = s.val x) : evPick S c a b = some r := by
  have h1 := hv c (by simp [Op.operands])
  have h2 := hv a (by simp [Op.operands])
  have h3 := hv b (by simp [Op.operands])
  unfold evPick at h ⊢
  rw [h1]
  split at h
  · rename_i cb hcb
    (try simp only [hcb])
    split at h
    · (try simp only [h3]); exact h
    · (try simp only [h2]); exact h
    · cases h
  · cases h

theorem conds_at {s S : AS} {op : Op} (hv : ∀ x ∈ op.operands.toList, S.val x = s.val x) : condsOf S op = condsOf s op := by
  unfold condsOf
  generalize op.operands.toList = l at hv
  induction l with
  | nil => rfl
  | cons x l ih => rw [List.flatMap_cons, List.flatMap_cons, hv x (List.mem_cons_self ..), ih fun y hy => hv y (List.mem_cons_of_mem _ hy)]

theorem evE0_none {P : Program} {obj obj' : Nat → Option AObj} {val val' : Operand → AV} {o : Oper} {ce f} (hv : ∀ x ∈ o.op.operands.toList, val' x = val x) (h : evE0 P obj val o ce = some f) : evV P obj' val' o.op = none := by
  unfold evE0 at h
  split at h
  · rename_i e; rw [e]; rfl
  · rename_i e; rw [e]; rfl
  · rename_i e; rw [e]; rfl
  · rename_i e; rw [e]; rfl
  · rename_i c e
    rw [e]
    split at h
    · rename_i hcal; simp only [evV, hcal]
    · rename_i hcal; simp only [evV, hcal]
    · cases h
  · rename_i T x lo hi mx e
    rw [e]
    have hx := hv x (by simp [e, Op.operands])
    cases mx with
    | some m => rfl
    | none =>
      simp only [evV, hx]
      unfold evCutOwn at h
      split at h
      · rename_i e1 e2 e3 e4
        rw [e1]
        unfold evSlice
        split
        · split <;> first | rfl | (rename_i heq; cases heq)
        · rfl
      · cases h
  · cases h

theorem evE_none {P : Program} {obj obj' : Nat → Option AObj} {val val' : Operand → AV} {o : Oper} {ce f} (hv : ∀ x ∈ o.op.operands.toList, val' x = val x) (h : evE P obj val o ce = some f) : evV P obj' val' o.op = none := by
  unfold evE at h
  split at h
  · simp only [Option.bind_eq_some_iff] at h
    obtain ⟨f0, h1, h2⟩ := h
    exact evE0_none hv h1
  · exact evE0_none hv h

theorem evCall_none {P : Program} {obj obj' : Nat → Option AObj} {val val' : Operand → AV} {o : Oper} {c : Call} {ce ce' f} (he : o.op = .call c) (h : evCall P obj val c ce = some f) : evV P obj' val' (.call c) = none ∧ evE P obj' val' o ce' = none := by
  unfold evCall at h
  split at h
  · rename_i hcal
    have h0 : ∀ ce', evE0 P obj' val' o ce' = none := fun ce' => by unfold evE0; rw [he]; simp only [hcal]
    refine ⟨?_, ?_⟩
    · simp only [evV, hcal]
    · unfold evE
      split
      · rw [h0]; rfl
      · exact h0 _
  · cases h

theorem evD1_at {P : Program} {ops : Array Oper} {s S : AS} {o : Oper} {ce cs d} (h : evD1 P s o ce = some (cs, d)) (hl : Looks ops o ce s S) : ev1 P S o ce = some (cs, app o.dst d S) := by
  have hv := hl.val
  have hok : okDst S o = okDst s o := by unfold okDst; rw [hl.n]
  unfold evD1 at h
  unfold ev1
  rw [hok]
  split at h
  · rename_i hd
    rw [if_pos hd]
    have hids : ∀ f g : Eff, f.hin = g.hin → f.new = g.new → effIds S f = effIds s g := fun f g h1 h2 => by unfold effIds; rw [h1, h2, hl.n]
    split at h
    · rename_i x e
      cases h
      simp only [e, hv x (by simp [e, Op.operands])]
      rfl
    · rename_i x e
      cases h
      simp only [e, hv x (by simp [e, Op.operands])]
      rfl
    · rename_i c x y e
      simp only [Option.map_eq_some_iff, Prod.mk.injEq] at h
      obtain ⟨r, hp, rfl, rfl⟩ := h
      simp only [e, pick_at hp (by rw [← e]; exact hv), Option.map_some]
      rfl
    · rename_i T ad x e
      split at h
      · rename_i hdst
        split at h
        case h_2 => cases h
        rename_i f hf
        split at h
        case isFalse => cases h
        rename_i hi
        simp only [Option.some.injEq, Prod.mk.injEq] at h
        obtain ⟨rfl, rfl⟩ := h
        have h1 := hv ad (by simp [e, Op.operands])
        have h2 := hv x (by simp [e, Op.operands])
        simp only [e, hdst, h1, h2, evStore_at hl.obj hf]
        rw [if_pos ((hids (f.at S.obj) f rfl rfl).trans hi), conds_at (by rw [← e]; exact hv)]
        rfl
      · cases h
    · rename_i hn1 hn2 hn3 hn4
      have hs : ∀ x ∈ o.op.operands.toList, (S.val x).strip = (s.val x).strip := fun x hx => by rw [hv x hx]
      have hcond := conds_at hv
      split
      · rename_i e; exact (hn1 _ e).elim
      · rename_i e; exact (hn2 _ e).elim
      · rename_i e; exact (hn3 _ _ _ e).elim
      · rename_i e; exact (hn4 _ _ _ e).elim
      split at h
      · rename_i r hev
        simp only [Option.some.injEq, Prod.mk.injEq] at h
        obtain ⟨rfl, rfl⟩ := h
        rw [evV_mono hl.obj hev hs, hcond]
        rfl
      · split at h
        · rename_i f hf
          split at h
          case isFalse => cases h
          rename_i hi
          simp only [Option.some.injEq, Prod.mk.injEq] at h
          obtain ⟨rfl, rfl⟩ := h
          rw [evE_none hs hf, evE_at hl.obj hf hs]
          simp only []
          rw [if_pos ((hids (f.at S.obj) f rfl rfl).trans hi), hcond]
          rfl
        · split at h
          · rename_i c e
            split at h
            case h_2 => cases h
            rename_i f hf
            split at h
            case isFalse => cases h
            rename_i hi
            simp only [Option.some.injEq, Prod.mk.injEq] at h
            obtain ⟨rfl, rfl⟩ := h
            obtain ⟨n1, n2⟩ := evCall_none (obj' := S.obj) (val' := fun x => (S.val x).strip) (ce' := ce) e hf
            rw [n2]
            simp only [e, n1, evCall_at hl.obj hl.hin (by rw [← e]; exact hs) hf]
            rw [if_pos ((hids ⟨f.conds, f.res, delAll (fzOf ce) S.obj, f.hin, f.new⟩ f rfl rfl).trans hi), ← e, hcond]
            rfl
          · cases h
  · cases h

theorem evD1g_at {P : Program} {ops : Array Oper} {s S : AS} {o : Oper} {ce cs d j want} (hg : o.guard = some (j, want)) (h : evD1g P ops s o ce j want = some (cs, d)) (hl : Looks ops o ce s S) :
    ev1g P ops S o ce j want = some (cs, app o.dst d S) := by
  have hv := hl.val
  have hok : okDst S o = okDst s o := by unfold okDst; rw [hl.n]
  have hs : ∀ x ∈ o.op.operands.toList, (S.val x).strip = (s.val x).strip := fun x hx => by rw [hv x hx]
  have hgd : guardP ops S j want = guardP ops s j want := by
    unfold guardP
    cases ht : (ops[j]?).bind (·.dst) with
    | none => rfl
    | some t => simp only [hl.reg t (List.mem_append_right _ (by simp [hg, ht]))]
  unfold evD1g at h
  unfold ev1g
  rw [hok, hgd]
  split at h
  · rename_i hd
    rw [if_pos hd]
    split at h
    · rename_i p hp
      simp only [hp]
      split at h
      · rename_i r hev
        simp only [Option.some.injEq, Prod.mk.injEq] at h
        obtain ⟨rfl, rfl⟩ := h
        have : evGv P S o.op = some r := by
          unfold evGv at hev ⊢
          split at hev
          · rename_i e; exact pick_at hev (by rw [← e]; exact hv)
          · rename_i hn
            split at hev
            · rename_i r' hev'
              cases hev
              rw [evV_mono hl.obj hev' hs, conds_at hv]
            · cases hev
        rw [this]
        rfl
      · split at h
        · rename_i c res e
          split at h
          · rename_i f hf
            simp only [Option.some.injEq, Prod.mk.injEq] at h
            obtain ⟨rfl, rfl⟩ := h
            have hn : evGv P S o.op = none := by
              rw [e]
              unfold evGv
              simp only [(evCall_none (obj' := S.obj) (val' := fun x => (S.val x).strip) (ce' := none) e hf).1]
            rw [hn]
            simp only [e]
            rw [evCall_at hl.obj rfl (by rw [← e]; exact hs) hf]
            simp only [← e, conds_at hv]
            rfl
          · cases h
        · cases h
    · cases h
  · cases h

theorem evD_at {P : Program} {ops : Array Oper} {s S : AS} {o : Oper} {ce cs d} (h : evD P ops s o ce = some (cs, d)) (hl : Looks ops o ce s S) : evOp P ops S o ce = some (cs, app o.dst d S) := by
  unfold evD at h
  unfold evOp
  split at h
  · rename_i hg; simp only [hg]; exact evD1_at h hl
  · rename_i j want hg; simp only [hg]; exact evD1g_at hg h hl
end AL
