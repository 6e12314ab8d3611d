/- An abstract logic, 22: a step looks at its operands and the objects that it names, and at nothing else. No condition. An abstract logic, 23: what a step changes, told apart from the state that it is done in. No condition. An abstract logic, 24: steps that may be done in either order. No condition. An abstract logic, 25: regions whose order is drawn. No condition. An abstract logic, 41: the rules in short, for printed proofs. No condition.  -/
import Derived.Test.YtbfhmgbgehenoaaALc
import Derived.Orders
namespace AL
open Go
set_option linter.unusedVariables false
set_option linter.unusedSimpArgs false

theorem evV_congr {P : Program} {obj : Nat → Option AObj} {val val' : Operand → AV} {op : Op} (hv : ∀ x ∈ op.operands.toList, val' x = val x) : evV P obj val' op = evV P obj val op := by
  cases op
  case call c =>
    have ha : ∀ x ∈ c.args.toList, val' x = val x := fun x hx => hv x (by simp only [Op.operands, Call.operands, Array.toList_append]; exact List.mem_append_right _ hx)
    have hm : c.args.toList.map val' = c.args.toList.map val := List.map_congr_left ha
    unfold evV
    simp only [hm]
    split <;> try rfl
    split <;> try rfl
    rename_i x T e1 e2
    rw [ha x (by rw [e1]; simp)]
  case build t ps =>
    have : (ps.toList.map fun p => (p.1, val' p.2)) = ps.toList.map fun p => (p.1, val p.2) := List.map_congr_left fun p hp => by
      rw [hv p.2 (by simp only [Op.operands, Array.toList_map]; exact List.mem_map.2 ⟨p, hp, rfl⟩)]
    simp only [evV, this]
  case makeFunc f first caps =>
    have : caps.toList.map val' = caps.toList.map val := List.map_congr_left fun x hx => hv x (by simp [Op.operands, hx])
    simp only [evV, this]
  case slice t x lo hi mx => cases lo <;> cases hi <;> cases mx <;> simp_all [evV, Op.operands]
  all_goals first | rfl | (simp_all [evV, Op.operands]; done)

section
variable {P : Program} {obj obj' : Nat → Option AObj} (ho : ∀ id o, obj id = some o → obj' id = some o)
include ho

theorem evIndexAddr_mono {T v ix r} (h : evIndexAddr P obj T v ix = some r) : evIndexAddr P obj' T v ix = some r := by
  unfold evIndexAddr at h ⊢
  split at h
  · split at h
    · rename_i e hu
      (try simp only [hu])
      split at h
      · exact h
      · split at h
        · rename_i id _ _ _ _ _ _ ho'
          simp only [ho _ _ ho']; exact h
        · rename_i ho'
          simp only [ho _ _ ho']; exact h
        · cases h
      · cases h
    · rename_i N e hu
      (try simp only [hu])
      split at h
      · split at h
        · rename_i ho'; simp only [ho _ _ ho']; exact h
        · rename_i ho'; simp only [ho _ _ ho']; exact h
        · cases h
      · first | exact h | cases h
      · cases h
    · cases h
  · cases h

theorem evLoad_mono {T v r} (h : evLoad P obj T v = some r) : evLoad P obj' T v = some r := by
  unfold evLoad at h ⊢
  split at h
  · split at h
    · split at h
      · rename_i ho'; simp only [ho _ _ ho']; exact h
      · rename_i ho'; simp only [ho _ _ ho']; exact h
      · cases h
    · exact h
    · split at h
      · rename_i ho'; simp only [ho _ _ ho']; exact h
      · rename_i ho'; simp only [ho _ _ ho']; exact h
      · rename_i ho'; simp only [ho _ _ ho']; exact h
      · cases h
    · cases h
  · cases h

theorem evLen_mono {T v r} (h : evLen P obj T v = some r) : evLen P obj' T v = some r := by
  unfold evLen at h ⊢
  split at h
  · rename_i hu; (try simp only [hu]); exact h
  · rename_i hu; (try simp only [hu]); exact h
  · rename_i hu; (try simp only [hu]); exact h
  · rename_i hu
    (try simp only [hu])
    split at h
    · rename_i ho'; simp only [ho _ _ ho']; exact h
    · cases h
  · rename_i hu; (try simp only [hu]); exact h
  · cases h

theorem evV_obj {val : Operand → AV} {op r} (h : evV P obj val op = some r) : evV P obj' val op = some r := by
  cases op
  case indexAddr T x i => exact evIndexAddr_mono ho h
  case load T x => exact evLoad_mono ho h
  case call c =>
    simp only [evV] at h ⊢
    split at h
    · split at h
      · exact evLen_mono ho h
      · cases h
    · exact h
    · exact h
    · exact h
    · cases h
  all_goals exact h

theorem evV_mono {val val' : Operand → AV} {op r} (h : evV P obj val op = some r) (hv : ∀ x ∈ op.operands.toList, val' x = val x) : evV P obj' val' op = some r := by
  rw [evV_congr hv]; exact evV_obj ho h

theorem evSrc_mono {k v r} (h : evSrc obj k v = some r) : evSrc obj' k v = some r := by
  unfold evSrc at h ⊢
  split at h
  · exact h
  · split at h
    · rename_i ho'; simp only [ho _ _ ho']; exact h
    · cases h
  · exact h
  · exact h
  · cases h

/-- An effect, told over other owned objects. -/
def Eff.at (f : Eff) (obj : Nat → Option AObj) : Eff := ⟨f.conds, f.res, obj, f.hin, f.new⟩

omit ho in
theorem evNew_at {dst cells ce f} (h : evNew obj dst cells ce = some f) : evNew obj' dst cells ce = some (f.at obj') := by
  unfold evNew at h ⊢
  split at h
  · split at h
    · cases h
    · rename_i hd
      (try rw [if_neg hd])
      split at h
      · cases h; rfl
      · cases h; rfl
      · cases h
  · cases h

theorem evAppend_at {dst t u s x ce f} (h : evAppend P obj dst t u s x ce = some f) : evAppend P obj' dst t u s x ce = some (f.at obj') := by
  unfold evAppend at h ⊢
  split at h
  · rename_i d e du o hu1 hu2
    (try simp only [hu1, hu2])
    split at h
    · rename_i i hi
      split at h
      · cases h
      · rename_i hn
        (try simp only [hn, if_false])
        split at h
        · rename_i cells n hsrc
          simp only [evSrc_mono ho hsrc]
          split at h
          · cases h; rfl
          · split at h
            · rename_i ho'
              simp only [ho _ _ ho']
              split at h
              · rename_i hc; (try rw [if_pos hc]); cases h; rfl
              · cases h
            · cases h
          · cases h
        · cases h
    · cases h
  · cases h

theorem evCopy_at {t s x ce f} (h : evCopy P obj t s x ce = some f) : evCopy P obj' t s x ce = some (f.at obj') := by
  unfold evCopy at h ⊢
  split at h
  · split at h
    · rename_i hu hob
      simp only [hu, ho _ _ hob]
      split at h
      · rename_i hi
        (try simp only [hi])
        split at h
        · rename_i hsrc
          simp only [evSrc_mono ho hsrc]
          split at h
          · rename_i hc; rw [if_pos hc]; cases h; rfl
          · cases h
        · cases h
      · cases h
    · cases h
  · cases h

theorem evConv_at {src dst x ce f} (h : evConv P obj src dst x ce = some f) : evConv P obj' src dst x ce = some (f.at obj') := by
  unfold evConv at h ⊢
  split at h
  · rename_i hs hd
    (try simp only [hs, hd])
    split at h
    · cases h
    · rename_i hn hu
      (try simp only [hu])
      split at h
      · rename_i hsrc
        simp only [evSrc_mono ho hsrc]
        cases h; rfl
      · cases h
    · cases h
  · rename_i hs hd
    (try simp only [hs, hd])
    split at h
    · rename_i hu; (try simp only [hu]); cases h; rfl
    · cases h
  · cases h

theorem evE0_at {val val' : Operand → AV} {o : Oper} {ce f} (h : evE0 P obj val o ce = some f) (hv : ∀ x ∈ o.op.operands.toList, val' x = val x) : evE0 P obj' val' o ce = some (f.at obj') := by
  unfold evE0 at h ⊢
  split at h
  · rename_i T e
    (try simp only [e])
    unfold evAlloc at h ⊢
    split at h
    · exact evNew_at h
    · cases h
  · rename_i T x e
    (try simp only [e])
    rw [hv x (by simp [e, Op.operands])]
    unfold evBox at h ⊢
    split at h
    · rename_i heq
      (try simp only [heq])
      split at h
      · cases h; rfl
      · cases h
    · split at h
      · exact evNew_at h
      · cases h
  · rename_i T len parts e
    have : (parts.toList.map fun p => (p.1, val' p.2)) = parts.toList.map fun p => (p.1, val p.2) := List.map_congr_left fun p hp => by
      rw [hv p.2 (by simp only [e, Op.operands, Array.toList_map]; exact List.mem_map.2 ⟨p, hp, rfl⟩)]
    simp only [e, this]
    unfold evBuildSlice at h ⊢
    split at h
    · rename_i hu
      (try simp only [hu])
      split at h
      · rename_i h1 h2
        (try simp only [h1, h2])
        split at h
        · rename_i hc
          (try rw [if_pos hc])
          split at h
          · rename_i hf; (try simp only [hf]); cases h; rfl
          · cases h
        · cases h
      · cases h
    · cases h
  · rename_i T l c e
    (try simp only [e])
    rw [hv l (by simp [e, Op.operands]), hv c (by simp [e, Op.operands])]
    unfold evMakeSlice at h ⊢
    split at h
    · rename_i hu
      (try simp only [hu])
      split at h
      · rename_i h1 h2 h3 h4
        (try simp only [h1, h2, h3, h4])
        split at h
        · rename_i hc; (try rw [if_pos hc]); cases h; rfl
        · cases h
      · cases h
    · cases h
  · rename_i c e
    (try simp only [e])
    split at h
    · rename_i hcal
      (try simp only [hcal])
      split at h
      · rename_i s x t u e1 e2
        (try simp only [e1, e2])
        rw [hv s (by simp [e, Op.operands, Call.operands, hcal, e1]), hv x (by simp [e, Op.operands, Call.operands, hcal, e1])]
        split at h
        · rename_i hu
          (try simp only [hu])
          unfold evAppZero at h ⊢
          split at h
          · rename_i q1 q2 q3 q4
            (try simp only [q1, q2, q3, q4])
            split at h
            · rename_i q5 q6
              (try simp only [q5, q6])
              split at h
              · rename_i q7; (try rw [if_pos q7]); cases h; rfl
              · cases h
            · cases h
          · cases h
        · exact evAppend_at ho h
      · cases h
    · rename_i hcal
      (try simp only [hcal])
      split at h
      · rename_i s x t u e1 e2
        (try simp only [e1, e2])
        rw [hv s (by simp [e, Op.operands, Call.operands, hcal, e1]), hv x (by simp [e, Op.operands, Call.operands, hcal, e1])]
        exact evCopy_at ho h
      · cases h
    · cases h
  · rename_i T x lo hi mx e
    (try simp only [e])
    have hm : ∀ (q : Option Operand), (∀ y, q = some y → y ∈ o.op.operands.toList) → q.map val' = q.map val := fun q hq => by
      cases q with
      | none => rfl
      | some y => simp only [Option.map_some, hv y (hq y rfl)]
    rw [hv x (by simp [e, Op.operands]), hm lo fun y hy => by simp [e, Op.operands, hy], hm hi fun y hy => by simp [e, Op.operands, hy], hm mx fun y hy => by simp [e, Op.operands, hy]]
    unfold evCutOwn at h ⊢
    split at h
    · rename_i e1 e2 e3 e4
      (try simp only [e1, e2, e3, e4])
      split at h
      · rename_i hu hx
        simp only [hu, ho _ _ hx]
        split at h
        · cases h
        · rename_i hn
          rw [if_neg hn]
          split at h
          · rename_i hq; rw [if_pos hq]; cases h; rfl
          · cases h
      · cases h
    · cases h
  · rename_i T x e
    (try simp only [e])
    rw [hv x (by simp [e, Op.operands])]
    unfold evRange at h ⊢
    split at h
    · rename_i e1 e2
      (try simp only [e1, e2])
      split at h
      · rename_i hu; (try simp only [hu]); cases h; rfl
      · cases h
    · cases h
  · rename_i x e
    (try simp only [e])
    rw [hv x (by simp [e, Op.operands])]
    unfold evNext at h ⊢
    split at h
    · rename_i e1
      (try simp only [e1])
      split at h
      · rename_i hx
        simp only [ho _ _ hx]
        split at h
        · cases h; rfl
        · cases h; rfl
        · cases h
      · cases h
    · cases h
  · rename_i src dst x e
    (try simp only [e])
    rw [hv x (by simp [e, Op.operands])]
    exact evConv_at ho h
  · cases h

omit ho in
theorem shr_at {f f'} (h : shr f = some f') : shr (f.at obj') = some (f'.at obj') := by
  unfold shr at h
  split at h
  · rename_i d o d' e1 e2
    split at h
    · rename_i hd
      split at h
      · rename_i hz
        cases h
        unfold shr
        simp only [Eff.at, e1, e2, hd, hz, if_true]
      · cases h
    · cases h
  · rename_i d o d' e1 e2
    split at h
    · rename_i hd
      split at h
      · rename_i hz
        cases h
        unfold shr
        simp only [Eff.at, e1, e2, hd, hz, if_true]
      · cases h
    · cases h
  · cases h

theorem evE_at {val val' : Operand → AV} {o : Oper} {ce f} (h : evE P obj val o ce = some f) (hv : ∀ x ∈ o.op.operands.toList, val' x = val x) : evE P obj' val' o ce = some (f.at obj') := by
  unfold evE at h ⊢
  split at h
  · simp only [Option.bind_eq_some_iff] at h ⊢
    obtain ⟨f0, h1, h2⟩ := h
    exact ⟨_, evE0_at ho h1 hv, shr_at h2⟩
  · exact evE0_at ho h hv

theorem evStore_at {T a x ce f} (h : evStore P obj T a x ce = some f) : evStore P obj' T a x ce = some (f.at obj') := by
  unfold evStore at h ⊢
  split at h
  · rename_i i l h1 h2
    (try simp only [h1, h2])
    split at h
    · rename_i hc
      (try rw [if_pos hc])
      split at h
      · split at h
        · rename_i ho'
          simp only [ho _ _ ho']
          split at h
          · rename_i hc; (try rw [if_pos hc]); cases h; rfl
          · cases h
        · cases h
      · split at h
        · rename_i ho'
          simp only [ho _ _ ho']
          split at h
          · rename_i hc; (try rw [if_pos hc]); cases h; rfl
          · cases h
        · cases h
      · cases h
    · cases h
  · cases h
end
end AL
namespace AL
open Go
set_option linter.unusedVariables false
set_option linter.unusedSimpArgs false

def delAll : List Nat → (Nat → Option AObj) → Nat → Option AObj
  | [], obj => obj
  | id :: r, obj => delAll r (delObj id obj)

theorem delObj_mono {obj obj' : Nat → Option AObj} (id : Nat) (ho : ∀ id o, obj id = some o → obj' id = some o) : ∀ i o, delObj id obj i = some o → delObj id obj' i = some o := by
  intro i o h
  unfold delObj at h ⊢
  cases hb : Nat.beq i id
  · rw [hb] at h; exact ho _ _ h
  · rw [hb] at h; cases h

theorem delAll_mono : ∀ (fz : List Nat) {obj obj' : Nat → Option AObj}, (∀ id o, obj id = some o → obj' id = some o) → ∀ i o, delAll fz obj i = some o → delAll fz obj' i = some o
  | [], _, _, ho => ho
  | id :: r, _, _, ho => delAll_mono r (delObj_mono id ho)

theorem delAll_none {obj : Nat → Option AObj} {i : Nat} : ∀ (fz : List Nat) {obj}, obj i = none → delAll fz obj i = none
  | [], _, h => h
  | id :: r, obj, h => by
    refine delAll_none r (obj := delObj id obj) ?_
    unfold delObj
    cases Nat.beq i id <;> simp [h]

theorem delAll_eq {i : Nat} : ∀ (fz : List Nat) {obj obj' : Nat → Option AObj}, obj' i = obj i → delAll fz obj' i = delAll fz obj i
  | [], _, _, h => h
  | id :: r, obj, obj', h => delAll_eq r (by unfold delObj; cases Nat.beq i id <;> simp [h])

theorem evFreeze_at : ∀ (fz : List Nat) {obj obj' args obj1 args1}, (∀ id o, obj id = some o → obj' id = some o) → evFreeze obj args fz = some (obj1, args1) → obj1 = delAll fz obj ∧ evFreeze obj' args fz = some (delAll fz obj', args1)
  | [], obj, obj', args, obj1, args1, ho, h => by
    simp only [evFreeze, Option.some.injEq, Prod.mk.injEq] at h
    obtain ⟨rfl, rfl⟩ := h
    exact ⟨rfl, rfl⟩
  | id :: r, obj, obj', args, obj1, args1, ho, h => by
    simp only [evFreeze] at h ⊢
    split at h
    · rename_i o hx
      simp only [ho _ _ hx]
      split at h
      · rename_i z hz
        (try simp only [hz])
        exact evFreeze_at r (delObj_mono id ho) h
      · cases h
    · cases h

theorem restr_at {obj obj' : Nat → Option AObj} : ∀ (l : List Nat), (∀ i ∈ l, obj' i = obj i) → restr obj' l = restr obj l
  | [], _ => rfl
  | i :: l, h => by
    unfold restr
    rw [h i (List.mem_cons_self ..), restr_at l fun j hj => h j (List.mem_cons_of_mem _ hj)]

def fzOf : Option CE → List Nat
  | some (.call fz _ _ _) => fz
  | _ => []
def hinOf : Option CE → List Nat
  | some (.call _ hin _ _) => hin
  | _ => []

theorem evCall_at {P : Program} {obj obj' : Nat → Option AObj} {val val' : Operand → AV} {c : Call} {ce f} (ho : ∀ id o, obj id = some o → obj' id = some o) (hh : (hinOf ce).all (fun i => (obj i).isSome) = true)
    (hv : ∀ x ∈ (Op.call c).operands.toList, val' x = val x) (h : evCall P obj val c ce = some f) : evCall P obj' val' c ce = some ⟨f.conds, f.res, delAll (fzOf ce) obj', f.hin, f.new⟩ := by
  unfold evCall at h ⊢
  split at h
  · rename_i fo fz hin res new hcal
    have hm : c.args.toList.map val' = c.args.toList.map val := List.map_congr_left fun x hx => hv x (by simp only [Op.operands, Call.operands, Array.toList_append]; exact List.mem_append_right _ hx)
    have hf : val' fo = val fo := hv fo (by simp [Op.operands, Call.operands, hcal])
    simp only [hcal, hm, hf]
    split at h
    · rename_i fid caps args hfo hargs
      (try simp only [hfo, hargs])
      split at h
      · rename_i obj1 args1 hfr
        obtain ⟨rfl, h2⟩ := evFreeze_at fz ho hfr
        simp only [h2]
        split at h
        · rename_i hp
          (try rw [if_pos hp])
          cases h
          have : restr (delAll fz obj') hin = restr (delAll fz obj) hin := restr_at hin fun i hi => by
            refine delAll_eq fz ?_
            have := List.all_eq_true.1 hh i hi
            cases hx : obj i with
            | none => rw [hx] at this; cases this
            | some o => exact ho i o hx
          simp only [this, fzOf]
        · cases h
      · cases h
    · cases h
  · cases h

/-- What a step changes. -/
structure Dl where
  res : AV
  fz : List Nat
  hin : List (Nat × AObj)
  new : List (Nat × AObj)

def Dl.v (x : AV) : Dl := ⟨x, [], [], []⟩

def app (dst : Option Tmp) (d : Dl) (S : AS) : AS := effSt' S dst ⟨[], d.res, delAll d.fz S.obj, d.hin, d.new⟩

theorem app_v (dst : Option Tmp) (x : AV) (S : AS) : app dst (Dl.v x) S = S.set dst x := rfl

def evD1 (P : Program) (s : AS) (o : Oper) (ce : Option CE) : Option (List Prop × Dl) :=
  if okDst s o then
    match o.op with
    | .move x | .assign x => some ([], Dl.v (s.val x))
    | .pick c a b => (evPick s c a b).map fun r => (r.1, Dl.v r.2)
    | .store T a x => match o.dst with
      | none => match evStore P s.obj T (s.val a).strip (s.val x).strip ce with
        | some f => if effIds s f then some (condsOf s o.op ++ f.conds, ⟨.any, [], f.hin, f.new⟩) else none
        | none => none
      | some _ => none
    | op =>
      match evV P s.obj (fun x => (s.val x).strip) op with
      | some r => some (condsOf s op ++ r.1, Dl.v r.2)
      | none =>
        match evE P s.obj (fun x => (s.val x).strip) o ce with
        | some f => if effIds s f then some (condsOf s op ++ f.conds, ⟨f.res, [], f.hin, f.new⟩) else none
        | none => match op with
          | .call c => match evCall P s.obj (fun x => (s.val x).strip) c ce with
            | some f => if effIds s f then some (condsOf s op ++ f.conds, ⟨f.res, fzOf ce, f.hin, f.new⟩) else none
            | none => none
          | _ => none
  else none

def evD1g (P : Program) (ops : Array Oper) (s : AS) (o : Oper) (ce : Option CE) (j : Nat) (want : Bool) : Option (List Prop × Dl) :=
  if okDst s o then
    match guardP ops s j want with
    | some p =>
      match evGv P s o.op with
      | some r => some (gp p r.1, Dl.v (.whn p r.2))
      | none => match o.op, ce with
        | .call c, some (.call [] [] res []) => match evCall P s.obj (fun x => (s.val x).strip) c (some (.call [] [] res [])) with
          | some f => some (gp p (condsOf s o.op ++ f.conds), Dl.v (.whn p f.res))
          | none => none
        | _, _ => none
    | none => none
  else none

def evD (P : Program) (ops : Array Oper) (s : AS) (o : Oper) (ce : Option CE) : Option (List Prop × Dl) :=
  match o.guard with
  | none => evD1 P s o ce
  | some (j, want) => evD1g P ops s o ce j want

/-- What an operation looks at is in S as in s. -/
structure Looks (ops : Array Oper) (o : Oper) (ce : Option CE) (s S : AS) : Prop where
  n : S.n = s.n
  reg : ∀ t ∈ o.looksAt ops, S.reg t = s.reg t
  obj : ∀ id o, s.obj id = some o → S.obj id = some o
  hin : (hinOf ce).all (fun i => (s.obj i).isSome) = true

theorem Looks.val {ops : Array Oper} {o : Oper} {ce s S} (h : Looks ops o ce s S) : ∀ x ∈ o.op.operands.toList, S.val x = s.val x := by
  intro x hx
  cases x with
  | tmp t => exact h.reg t (List.mem_append_left _ (List.mem_filterMap.2 ⟨.tmp t, hx, rfl⟩))
  | _ => rfl

theorem pick_at {s S : AS} {c a b r} (h : evPick s c a b = some r) (hv : ∀ x ∈ (Op.pick c a b).operands.toList, S.val x = s.val x) : evPick S c a b = some r := by
  have h1 := hv c (by simp [Op.operands])
  have h2 := hv a (by simp [Op.operands])
  have h3 := hv b (by simp [Op.operands])
  unfold evPick at h ⊢
  rw [h1]
  split at h
  · rename_i cb hcb
    (try simp only [hcb])
    split at h
    · (try simp only [h3]); exact h
    · (try simp only [h2]); exact h
    · cases h
  · cases h

theorem conds_at {s S : AS} {op : Op} (hv : ∀ x ∈ op.operands.toList, S.val x = s.val x) : condsOf S op = condsOf s op := by
  unfold condsOf
  generalize op.operands.toList = l at hv
  induction l with
  | nil => rfl
  | cons x l ih => rw [List.flatMap_cons, List.flatMap_cons, hv x (List.mem_cons_self ..), ih fun y hy => hv y (List.mem_cons_of_mem _ hy)]

theorem evE0_none {P : Program} {obj obj' : Nat → Option AObj} {val val' : Operand → AV} {o : Oper} {ce f} (hv : ∀ x ∈ o.op.operands.toList, val' x = val x) (h : evE0 P obj val o ce = some f) : evV P obj' val' o.op = none := by
  unfold evE0 at h
  split at h
  · rename_i e; rw [e]; rfl
  · rename_i e; rw [e]; rfl
  · rename_i e; rw [e]; rfl
  · rename_i e; rw [e]; rfl
  · rename_i c e
    rw [e]
    split at h
    · rename_i hcal; simp only [evV, hcal]
    · rename_i hcal; simp only [evV, hcal]
    · cases h
  · rename_i T x lo hi mx e
    rw [e]
    have hx := hv x (by simp [e, Op.operands])
    cases mx with
    | some m => rfl
    | none =>
      simp only [evV, hx]
      unfold evCutOwn at h
      split at h
      · rename_i e1 e2 e3 e4
        rw [e1]
        unfold evSlice
        split
        · split <;> first | rfl | (rename_i heq; cases heq)
        · rfl
      · cases h
  · rename_i e; rw [e]; rfl
  · rename_i e; rw [e]; rfl
  · rename_i src dst x e
    rw [e]
    have hx := hv x (by simp [e, Op.operands])
    simp only [evV, hx]
    unfold evConv at h
    unfold evConvert
    split at h
    · rename_i hs hd
      split at h
      · cases h
      · rename_i hn
        split
        · rename_i q1 q2; rw [hd] at q1; cases q1
        · rename_i q1 q2; exact (hn _ q2).elim
        · rfl
      · cases h
    · rename_i hs hd
      split
      · rename_i q1 q2; rw [hd] at q1; cases q1
      · rename_i q1 q2; rw [hd] at q1; cases q1
      · rfl
    · cases h
  · cases h

theorem evE_none {P : Program} {obj obj' : Nat → Option AObj} {val val' : Operand → AV} {o : Oper} {ce f} (hv : ∀ x ∈ o.op.operands.toList, val' x = val x) (h : evE P obj val o ce = some f) : evV P obj' val' o.op = none := by
  unfold evE at h
  split at h
  · simp only [Option.bind_eq_some_iff] at h
    obtain ⟨f0, h1, h2⟩ := h
    exact evE0_none hv h1
  · exact evE0_none hv h

theorem evCall_none {P : Program} {obj obj' : Nat → Option AObj} {val val' : Operand → AV} {o : Oper} {c : Call} {ce ce' f} (he : o.op = .call c) (h : evCall P obj val c ce = some f) : evV P obj' val' (.call c) = none ∧ evE P obj' val' o ce' = none := by
  unfold evCall at h
  split at h
  · rename_i hcal
    have h0 : ∀ ce', evE0 P obj' val' o ce' = none := fun ce' => by unfold evE0; rw [he]; simp only [hcal]
    refine ⟨?_, ?_⟩
    · simp only [evV, hcal]
    · unfold evE
      split
      · rw [h0]; rfl
      · exact h0 _
  · cases h

theorem evD1_at {P : Program} {ops : Array Oper} {s S : AS} {o : Oper} {ce cs d} (h : evD1 P s o ce = some (cs, d)) (hl : Looks ops o ce s S) : ev1 P S o ce = some (cs, app o.dst d S) := by
  have hv := hl.val
  have hok : okDst S o = okDst s o := by unfold okDst; rw [hl.n]
  unfold evD1 at h
  unfold ev1
  rw [hok]
  split at h
  · rename_i hd
    rw [if_pos hd]
    have hids : ∀ f g : Eff, f.hin = g.hin → f.new = g.new → effIds S f = effIds s g := fun f g h1 h2 => by unfold effIds; rw [h1, h2, hl.n]
    split at h
    · rename_i x e
      cases h
      simp only [e, hv x (by simp [e, Op.operands])]
      rfl
    · rename_i x e
      cases h
      simp only [e, hv x (by simp [e, Op.operands])]
      rfl
    · rename_i c x y e
      simp only [Option.map_eq_some_iff, Prod.mk.injEq] at h
      obtain ⟨r, hp, rfl, rfl⟩ := h
      simp only [e, pick_at hp (by rw [← e]; exact hv), Option.map_some]
      rfl
    · rename_i T ad x e
      split at h
      · rename_i hdst
        split at h
        case h_2 => cases h
        rename_i f hf
        split at h
        case isFalse => cases h
        rename_i hi
        simp only [Option.some.injEq, Prod.mk.injEq] at h
        obtain ⟨rfl, rfl⟩ := h
        have h1 := hv ad (by simp [e, Op.operands])
        have h2 := hv x (by simp [e, Op.operands])
        simp only [e, hdst, h1, h2, evStore_at hl.obj hf]
        rw [if_pos ((hids (f.at S.obj) f rfl rfl).trans hi), conds_at (by rw [← e]; exact hv)]
        rfl
      · cases h
    · rename_i hn1 hn2 hn3 hn4
      have hs : ∀ x ∈ o.op.operands.toList, (S.val x).strip = (s.val x).strip := fun x hx => by rw [hv x hx]
      have hcond := conds_at hv
      split
      · rename_i e; exact (hn1 _ e).elim
      · rename_i e; exact (hn2 _ e).elim
      · rename_i e; exact (hn3 _ _ _ e).elim
      · rename_i e; exact (hn4 _ _ _ e).elim
      split at h
      · rename_i r hev
        simp only [Option.some.injEq, Prod.mk.injEq] at h
        obtain ⟨rfl, rfl⟩ := h
        rw [evV_mono hl.obj hev hs, hcond]
        rfl
      · split at h
        · rename_i f hf
          split at h
          case isFalse => cases h
          rename_i hi
          simp only [Option.some.injEq, Prod.mk.injEq] at h
          obtain ⟨rfl, rfl⟩ := h
          rw [evE_none hs hf, evE_at hl.obj hf hs]
          simp only []
          rw [if_pos ((hids (f.at S.obj) f rfl rfl).trans hi), hcond]
          rfl
        · split at h
          · rename_i c e
            split at h
            case h_2 => cases h
            rename_i f hf
            split at h
            case isFalse => cases h
            rename_i hi
            simp only [Option.some.injEq, Prod.mk.injEq] at h
            obtain ⟨rfl, rfl⟩ := h
            obtain ⟨n1, n2⟩ := evCall_none (obj' := S.obj) (val' := fun x => (S.val x).strip) (ce' := ce) e hf
            rw [n2]
            simp only [e, n1, evCall_at hl.obj hl.hin (by rw [← e]; exact hs) hf]
            rw [if_pos ((hids ⟨f.conds, f.res, delAll (fzOf ce) S.obj, f.hin, f.new⟩ f rfl rfl).trans hi), ← e, hcond]
            rfl
          · cases h
  · cases h

theorem evD1g_at {P : Program} {ops : Array Oper} {s S : AS} {o : Oper} {ce cs d j want} (hg : o.guard = some (j, want)) (h : evD1g P ops s o ce j want = some (cs, d)) (hl : Looks ops o ce s S) :
    ev1g P ops S o ce j want = some (cs, app o.dst d S) := by
  have hv := hl.val
  have hok : okDst S o = okDst s o := by unfold okDst; rw [hl.n]
  have hs : ∀ x ∈ o.op.operands.toList, (S.val x).strip = (s.val x).strip := fun x hx => by rw [hv x hx]
  have hgd : guardP ops S j want = guardP ops s j want := by
    unfold guardP
    cases ht : (ops[j]?).bind (·.dst) with
    | none => rfl
    | some t => simp only [hl.reg t (List.mem_append_right _ (by simp [hg, ht]))]
  unfold evD1g at h
  unfold ev1g
  rw [hok, hgd]
  split at h
  · rename_i hd
    rw [if_pos hd]
    split at h
    · rename_i p hp
      simp only [hp]
      split at h
      · rename_i r hev
        simp only [Option.some.injEq, Prod.mk.injEq] at h
        obtain ⟨rfl, rfl⟩ := h
        have : evGv P S o.op = some r := by
          unfold evGv at hev ⊢
          split at hev
          · rename_i e; exact pick_at hev (by rw [← e]; exact hv)
          · rename_i hn
            split at hev
            · rename_i r' hev'
              cases hev
              rw [evV_mono hl.obj hev' hs, conds_at hv]
            · cases hev
        rw [this]
        rfl
      · split at h
        · rename_i c res e
          split at h
          · rename_i f hf
            simp only [Option.some.injEq, Prod.mk.injEq] at h
            obtain ⟨rfl, rfl⟩ := h
            have hn : evGv P S o.op = none := by
              rw [e]
              unfold evGv
              simp only [(evCall_none (obj' := S.obj) (val' := fun x => (S.val x).strip) (ce' := none) e hf).1]
            rw [hn]
            simp only [e]
            rw [evCall_at hl.obj rfl (by rw [← e]; exact hs) hf]
            simp only [← e, conds_at hv]
            rfl
          · cases h
        · cases h
    · cases h
  · cases h

theorem evD_at {P : Program} {ops : Array Oper} {s S : AS} {o : Oper} {ce cs d} (h : evD P ops s o ce = some (cs, d)) (hl : Looks ops o ce s S) : evOp P ops S o ce = some (cs, app o.dst d S) := by
  unfold evD at h
  unfold evOp
  split at h
  · rename_i hg; simp only [hg]; exact evD1_at h hl
  · rename_i j want hg; simp only [hg]; exact evD1g_at hg h hl
end AL
namespace AL
open Go
set_option linter.unusedVariables false
set_option linter.unusedSimpArgs false

def Dl.ids (d : Dl) : List Nat := keysNew (ofH d.hin) d.new
/-- d wipes what is known by v. -/
def Dl.wipes (d : Dl) (v : AV) : Bool := d.ids.any (fun i => v.has i) || oelIn (ofH d.hin) v
def Dl.kills (d : Dl) (i : Nat) : Bool := d.fz.any (Nat.beq i) || (ofH d.hin i).isSome
def Dl.hits (d : Dl) (o : AObj) : Bool := d.ids.any fun i => o.has i

theorem delAll_val (obj : Nat → Option AObj) (j : Nat) : ∀ (fz : List Nat) (obj : Nat → Option AObj), delAll fz obj j = bif fz.any (Nat.beq j) then none else obj j
  | [], _ => rfl
  | i :: r, obj => by
    simp only [delAll, List.any_cons]
    rw [delAll_val obj j r]
    unfold delObj
    cases h1 : Nat.beq j i <;> cases h2 : r.any (Nat.beq j) <;> rfl

theorem app_n (dst : Option Tmp) (d : Dl) (S : AS) : (app dst d S).n = S.n := by
  unfold app; rw [effSt_eq]; unfold effSt AS.set; cases dst <;> rfl

theorem app_reg (dst : Option Tmp) (d : Dl) (S : AS) (t : Nat) : (app dst d S).reg t = if dst = some t then d.res else bif d.wipes (S.reg t) then .any else S.reg t := by
  unfold app; rw [effSt_eq]; unfold effSt AS.set
  cases dst with
  | none => rfl
  | some e =>
    simp only [Option.some.injEq]
    by_cases h : t = e
    · subst h; rw [Nat.beq_refl, if_pos rfl]; rfl
    · rw [beq_false h, if_neg (Ne.symm h)]; rfl

theorem app_obj (dst : Option Tmp) (d : Dl) (S : AS) (j : Nat) : (app dst d S).obj j = match ofH d.new j with
    | some o => some o
    | none => bif d.kills j then none else match S.obj j with
      | some o => bif d.hits o then none else some o
      | none => none := by
  unfold app; rw [effSt_eq]; unfold effSt AS.set
  refine Eq.trans (b := afterObj (delAll d.fz S.obj) (ofH d.hin) (ofH d.new) (keysNew (ofH d.hin) d.new) j) (by cases dst <;> rfl) ?_
  unfold afterObj
  rw [delAll_val S.obj]
  unfold Dl.kills Dl.hits Dl.ids
  cases ofH d.new j with
  | some o => rfl
  | none =>
    simp only []
    cases d.fz.any (Nat.beq j) <;> cases (ofH d.hin j).isSome <;> simp <;> (cases S.obj j <;> rfl)

def newOk (a b : Dl) : Bool := a.new.all fun p => !(b.kills p.1) && ((ofH b.new p.1).isNone && !(b.hits p.2))
def dstOk : Option Tmp → Option Tmp → Bool
  | some a, some b => !(Nat.beq a b)
  | _, _ => true

/-- Both orders lead to the same. -/
def commB (x : Option Tmp) (a : Dl) (y : Option Tmp) (b : Dl) : Bool :=
  dstOk x y && (!(b.wipes a.res) && (!(a.wipes b.res) && (newOk a b && newOk b a)))

theorem ofH_mem : ∀ {l : List (Nat × AObj)} {i o}, ofH l i = some o → (i, o) ∈ l
  | [], i, o, h => by cases h
  | (k, p) :: l, i, o, h => by
    simp only [ofH] at h
    by_cases hk : i = k
    · subst hk; rw [Nat.beq_refl] at h; cases h; exact List.mem_cons_self ..
    · rw [beq_false hk] at h; exact List.mem_cons_of_mem _ (ofH_mem h)

theorem newOk_of {a b : Dl} (h : newOk a b = true) {j o} (hj : ofH a.new j = some o) : b.kills j = false ∧ ofH b.new j = none ∧ b.hits o = false := by
  have := List.all_eq_true.1 h _ (ofH_mem hj)
  simp only [Bool.and_eq_true, Bool.not_eq_true', Option.isNone_iff_eq_none] at this
  exact ⟨this.1, this.2.1, this.2.2⟩

theorem wipes_any (d : Dl) : d.wipes .any = false := by
  unfold Dl.wipes
  have : d.ids.any (fun i => AV.any.has i) = false := by
    induction d.ids with
    | nil => rfl
    | cons i l ih => rw [List.any_cons, ih]; rfl
  rw [this]; rfl

theorem app_comm {x y : Option Tmp} {a b : Dl} (h : commB x a y b = true) (S : AS) : app x a (app y b S) = app y b (app x a S) := by
  unfold commB at h
  simp only [Bool.and_eq_true, Bool.not_eq_true'] at h
  obtain ⟨h1, h2, h3, h4, h5⟩ := h
  have hn : (app x a (app y b S)).n = (app y b (app x a S)).n := by simp only [app_n]
  have hr : (app x a (app y b S)).reg = (app y b (app x a S)).reg := by
    funext t
    simp only [app_reg]
    by_cases hx : x = some t
    · have hy : y ≠ some t := fun hy => by subst hx hy; simp [dstOk] at h1
      simp only [if_pos hx, if_neg hy, h2, cond_false]
    · by_cases hy : y = some t
      · simp only [if_neg hx, if_pos hy, h3, cond_false]
      · simp only [if_neg hx, if_neg hy]
        cases e1 : a.wipes (S.reg t) <;> cases e2 : b.wipes (S.reg t) <;> simp only [cond_true, cond_false, e1, e2, wipes_any]
  have ho : (app x a (app y b S)).obj = (app y b (app x a S)).obj := by
    funext j
    simp only [app_obj]
    cases ha : ofH a.new j with
    | some o =>
      obtain ⟨q1, q2, q3⟩ := newOk_of h4 ha
      simp only [q1, q2, q3, cond_false]
    | none =>
      cases hb : ofH b.new j with
      | some o =>
        obtain ⟨q1, q2, q3⟩ := newOk_of h5 hb
        simp only [q1, q3, cond_false]
      | none =>
        simp only []
        cases a.kills j <;> cases b.kills j <;> simp only [cond_true, cond_false]
        cases S.obj j with
        | none => rfl
        | some o => cases e1 : a.hits o <;> cases e2 : b.hits o <;> simp only [cond_true, cond_false, e1, e2]
  cases hA : app x a (app y b S); cases hB : app y b (app x a S)
  rw [hA, hB] at hn hr ho
  cases hn; cases hr; cases ho; rfl

/-- A step of a region: what it changes, what it looks at. -/
structure It where
  dst : Option Tmp
  d : Dl
  rd : List (Nat × AV)
  ro : List (Nat × AObj)

structure Agr (it : It) (S : AS) : Prop where
  reg : ∀ p ∈ it.rd, S.reg p.1 = p.2
  obj : ∀ p ∈ it.ro, S.obj p.1 = some p.2

def isAny : AV → Bool
  | .any => true
  | _ => false

def dstNot (x : Option Tmp) (t : Nat) : Bool := match x with
  | some d => !(Nat.beq d t)
  | none => true

theorem dstNot_ok {x : Option Tmp} {t : Nat} (h : dstNot x t = true) : x ≠ some t := fun e => by subst e; simp [dstNot] at h

/-- What 'it' looks at stands behind the step (x, a) as it stood ahead. -/
def fwdB (x : Option Tmp) (a : Dl) (it : It) : Bool :=
  it.rd.all (fun p => dstNot x p.1 && !(a.wipes p.2)) && it.ro.all fun p => !(a.kills p.1) && ((ofH a.new p.1).isNone && !(a.hits p.2))

/-- What 'it' looks at stood ahead of the step (x, a) as it stands behind. -/
def backB (x : Option Tmp) (a : Dl) (it : It) : Bool :=
  it.rd.all (fun p => dstNot x p.1 && !(isAny p.2)) && it.ro.all fun p => (ofH a.new p.1).isNone

theorem agr_fwd {x a it S} (h : fwdB x a it = true) (hA : Agr it S) : Agr it (app x a S) := by
  unfold fwdB at h
  simp only [Bool.and_eq_true, List.all_eq_true, Bool.not_eq_true', Option.isNone_iff_eq_none] at h
  refine ⟨fun p hp => ?_, fun p hp => ?_⟩
  · obtain ⟨h1, h2⟩ := h.1 p hp
    rw [app_reg, if_neg (dstNot_ok h1), hA.reg p hp, h2]; rfl
  · obtain ⟨h1, h2, h3⟩ := h.2 p hp
    rw [app_obj, h1, h2, hA.obj p hp]; simp only [h3, cond_false]

theorem agr_back {x a it S} (h : backB x a it = true) (hA : Agr it (app x a S)) : Agr it S := by
  unfold backB at h
  simp only [Bool.and_eq_true, List.all_eq_true, Bool.not_eq_true', Option.isNone_iff_eq_none] at h
  refine ⟨fun p hp => ?_, fun p hp => ?_⟩
  · obtain ⟨h1, h2⟩ := h.1 p hp
    have := hA.reg p hp
    rw [app_reg, if_neg (dstNot_ok h1)] at this
    cases e : a.wipes (S.reg p.1)
    · rw [e] at this; exact this
    · rw [e] at this
      rw [← this] at h2
      cases h2
  · have h2 := h.2 p hp
    have := hA.obj p hp
    rw [app_obj, h2] at this
    simp only [] at this
    cases e : a.kills p.1
    · rw [e] at this
      simp only [cond_false] at this
      cases e2 : S.obj p.1 with
      | none => rw [e2] at this; cases this
      | some o =>
        rw [e2] at this
        simp only [] at this
        cases e3 : a.hits o
        · rw [e3] at this; exact this
        · rw [e3] at this; cases this
    · rw [e] at this; cases this

/-! ### Steps, of which some are done -/
def stp (its : List It) (i : Nat) (S : AS) : AS := match its[i]? with
  | some it => app it.dst it.d S
  | none => S

def foldM (its : List It) (m : Nat → Bool) : Nat → AS → AS
  | 0, s => s
  | k + 1, s => bif m k then stp its k (foldM its m k s) else foldM its m k s

theorem foldM_n (its : List It) (m : Nat → Bool) (s : AS) : ∀ k, (foldM its m k s).n = s.n
  | 0 => rfl
  | k + 1 => by
    have hs : ∀ S, (stp its k S).n = S.n := fun S => by unfold stp; cases its[k]? <;> simp [app_n]
    simp only [foldM]
    cases m k <;> simp [hs, foldM_n its m s k]

theorem foldM_congr (its : List It) {m m' : Nat → Bool} (s : AS) : ∀ k, (∀ j, j < k → m j = m' j) → foldM its m k s = foldM its m' k s
  | 0, _ => rfl
  | k + 1, h => by
    simp only [foldM]
    rw [h k (by omega), foldM_congr its s k fun j hj => h j (by omega)]

def setM (m : Nat → Bool) (i : Nat) : Nat → Bool := fun j => Nat.beq j i || m j

/-- Steps i and j: their order plays no part. -/
def Free2 (its : List It) (i j : Nat) : Prop := ∀ a b, its[i]? = some a → its[j]? = some b → commB a.dst a.d b.dst b.d = true ∧ backB a.dst a.d b = true ∧ fwdB b.dst b.d a = true

theorem stp_comm {its : List It} {i j : Nat} (h : Free2 its i j) (S : AS) : stp its i (stp its j S) = stp its j (stp its i S) := by
  unfold stp
  cases ha : its[i]? with
  | none => rfl
  | some a =>
    cases hb : its[j]? with
    | none => rfl
    | some b => exact app_comm (h a b ha hb).1 S

theorem foldM_ins (its : List It) {m : Nat → Bool} {i : Nat} (hi : m i = false) (s : AS) : ∀ k, i < k → (∀ j, i < j → j < k → m j = true → Free2 its i j) → foldM its (setM m i) k s = stp its i (foldM its m k s)
  | k + 1, hk, hf => by
    simp only [foldM]
    by_cases h : k = i
    · subst h
      have e : setM m k k = true := by simp [setM]
      rw [e, hi]
      simp only [cond_true, cond_false]
      rw [foldM_congr its (m' := m) s k fun j hj => by simp [setM, beq_false (Nat.ne_of_lt hj)]]
    · have e : setM m i k = m k := by simp [setM, beq_false h]
      rw [e, foldM_ins its hi s k (by omega) fun j h1 h2 h3 => hf j h1 (by omega) h3]
      cases hm : m k
      · rfl
      · exact (stp_comm (hf k (by omega) (by omega) hm) _).symm

theorem agr_down (its : List It) {m : Nat → Bool} {i : Nat} {a : It} (ha : its[i]? = some a) (s : AS) (hf : ∀ j, j < i → m j = false → Free2 its j i) (hff : ∀ j k, j < k → k < i → m j = false → m k = true → Free2 its j k)
    (h : Agr a (foldM its (fun _ => true) i s)) : ∀ k, k ≤ i → Agr a (foldM its (fun j => Nat.blt j (i - k) || m j) i s) := by
  intro k
  induction k with
  | zero =>
    intro _
    rw [foldM_congr its (m' := fun _ => true) s i fun j hj => by
      have : Nat.blt j (i - 0) = true := Nat.ble_eq_true_of_le hj
      rw [this]; rfl]
    exact h
  | succ k ih =>
    intro hk
    have ih := ih (by omega)
    let q := i - (k + 1)
    have hq : q < i := by omega
    have e1 : ∀ j, (Nat.blt j (i - k) || m j) = (Nat.beq j q || (Nat.blt j q || m j)) := fun j => by
      have : Nat.blt j (i - k) = (Nat.beq j q || Nat.blt j q) := by
        rw [Bool.eq_iff_iff]
        simp only [Nat.blt, Bool.or_eq_true, Nat.ble_eq, Nat.beq_eq]
        omega
      rw [this, Bool.or_assoc]
    by_cases hm : m q = true
    · refine (foldM_congr its s i fun j hj => ?_) ▸ ih
      rw [e1 j]
      by_cases hjq : j = q
      · rw [hjq, hm]; simp
      · rw [beq_false hjq]; rfl
    · have hm : m q = false := by simpa using hm
      have hqq : (fun j => Nat.blt j q || m j) q = false := by
        have : Nat.blt q q = false := by
          cases hb : Nat.blt q q with
          | false => rfl
          | true => exact absurd (Nat.le_of_ble_eq_true hb) (by omega)
        simp only [this, hm, Bool.or_false]
      have hins := foldM_ins its (m := fun j => Nat.blt j q || m j) (i := q) hqq s i hq (fun j h1 h2 h3 => hff q j h1 h2 hm (by
        have : Nat.blt j q = false := by
          cases hb : Nat.blt j q with
          | false => rfl
          | true => have := Nat.le_of_ble_eq_true hb; omega
        simpa [this] using h3))
      have e2 : foldM its (fun j => Nat.blt j (i - k) || m j) i s = foldM its (setM (fun j => Nat.blt j q || m j) q) i s := foldM_congr its s i fun j _ => e1 j
      rw [e2, hins] at ih
      unfold stp at ih
      split at ih
      · rename_i b hb
        exact agr_back (hf q hq hm b a hb ha).2.1 ih
      · exact ih

theorem agr_up (its : List It) {m : Nat → Bool} {i : Nat} {a : It} (ha : its[i]? = some a) (hi : m i = false) (s : AS) : ∀ k, i ≤ k → (∀ j, i < j → j < k → m j = true → Free2 its i j) → Agr a (foldM its m i s) → Agr a (foldM its m k s)
  | 0, hk, _, h => by obtain rfl : i = 0 := by omega
                      exact h
  | k + 1, hk, hf, h => by
    by_cases e : i = k + 1
    · subst e; exact h
    · have h' := agr_up its ha hi s k (by omega) (fun j h1 h2 h3 => hf j h1 (by omega) h3) h
      simp only [foldM]
      cases hm : m k
      · exact h'
      · have hne : i ≠ k := fun e => by subst e; rw [hi] at hm; cases hm
        simp only [cond_true]
        unfold stp
        split
        · rename_i b hb
          exact agr_fwd (hf k (by omega) (by omega) hm a b ha hb).2.2 h'
        · exact h'

/-- Whatever was done of the steps, downwards closed: step i finds what it looks at, and its place. -/
theorem at_any (its : List It) {m : Nat → Bool} {i : Nat} {a : It} (ha : its[i]? = some a) (hi : m i = false) (s : AS) {n : Nat} (hn : i < n) (h : Agr a (foldM its (fun _ => true) i s))
    (hf : ∀ j k, j < k → k < n → m j = false → (m k = true ∨ k = i) → Free2 its j k) :
    Agr a (foldM its m n s) ∧ foldM its (setM m i) n s = app a.dst a.d (foldM its m n s) := by
  have h1 := agr_down its ha s (fun j hj hm => hf j i hj hn hm (.inr rfl)) (fun j k h1 h2 h3 h4 => hf j k h1 (by omega) h3 (.inl h4)) h i (Nat.le_refl _)
  rw [foldM_congr its (m' := m) s i fun j _ => by simp [Nat.blt]] at h1
  refine ⟨agr_up its ha hi s n (by omega) (fun j q1 q2 q3 => hf i j q1 q2 hi (.inl q3)) h1, ?_⟩
  rw [foldM_ins its hi s n hn fun j q1 q2 q3 => hf i j q1 q2 hi (.inl q3)]
  unfold stp
  rw [ha]
end AL
namespace AL
open Go
set_option linter.unusedVariables false
set_option linter.unusedSimpArgs false

/-! ### What stands ahead of each operation, whatever is drawn -/
def preds (o : Oper) : List Nat := (o.after.toList.filter fun e => Region.binds .any e).map (·.on)
def ins1 (x : Nat) (l : List Nat) : List Nat := bif l.any (Nat.beq x) then l else x :: l
def unionN (a b : List Nat) : List Nat := a.foldr ins1 b
def addAll (acc : List (List Nat)) : List Nat → List Nat
  | [] => []
  | p :: ps => unionN (p :: acc.getD p []) (addAll acc ps)
def ancs : List Oper → List (List Nat) → List (List Nat)
  | [], acc => acc
  | o :: l, acc => ancs l (acc ++ [addAll acc (preds o)])

theorem mem_ins1 {x i : Nat} {l : List Nat} (h : i ∈ ins1 x l) : i = x ∨ i ∈ l := by
  unfold ins1 at h
  cases hb : l.any (Nat.beq x)
  · rw [hb] at h; simpa using h
  · rw [hb] at h; exact .inr h
theorem mem_unionN {i : Nat} : ∀ {a b : List Nat}, i ∈ unionN a b → i ∈ a ∨ i ∈ b
  | [], b, h => .inr h
  | x :: a, b, h => by
    rcases mem_ins1 (show i ∈ ins1 x (unionN a b) from h) with rfl | h
    · exact .inl (List.mem_cons_self ..)
    · rcases mem_unionN h with h | h
      · exact .inl (List.mem_cons_of_mem _ h)
      · exact .inr h
theorem mem_addAll {acc : List (List Nat)} {i : Nat} : ∀ {ps : List Nat}, i ∈ addAll acc ps → ∃ p ∈ ps, i = p ∨ i ∈ acc.getD p []
  | p :: ps, h => by
    rcases mem_unionN h with h | h
    · exact ⟨p, List.mem_cons_self .., List.mem_cons.1 h⟩
    · obtain ⟨q, h1, h2⟩ := mem_addAll h
      exact ⟨q, List.mem_cons_of_mem _ h1, h2⟩

/-- Done steps bring those that bind them. -/
def Dn (ops : Array Oper) (m : Nat → Bool) : Prop := ∀ j o, ops[j]? = some o → m j = true → ∀ p ∈ preds o, m p = true

def AncOk (ops : Array Oper) (acc : List (List Nat)) : Prop := ∀ j i, i ∈ acc.getD j [] → ∀ m, Dn ops m → m j = true → m i = true

theorem ancs_ok {ops : Array Oper} : ∀ (l : List Oper) (acc : List (List Nat)), (∀ j, l[j]? = ops[acc.length + j]?) → AncOk ops acc → AncOk ops (ancs l acc)
  | [], acc, _, h => h
  | o :: l, acc, hl, h => by
    refine ancs_ok l _ (fun j => by
      have := hl (j + 1)
      rw [List.getElem?_cons_succ] at this
      rw [this, List.length_append, List.length_singleton]; congr 1; omega) ?_
    intro j i hi m hm hj
    by_cases hlt : j < acc.length
    · rw [List.getD_eq_getElem?_getD, List.getElem?_append_left hlt, ← List.getD_eq_getElem?_getD] at hi
      exact h j i hi m hm hj
    · rw [List.getD_eq_getElem?_getD, List.getElem?_append_right (by omega)] at hi
      by_cases he : j = acc.length
      · subst he
        rw [Nat.sub_self] at hi
        have ho : ops[acc.length]? = some o := by have := hl 0; simpa using this.symm
        obtain ⟨p, hp, hx⟩ := mem_addAll (show i ∈ addAll acc (preds o) from hi)
        have hpm := hm _ o ho hj p hp
        rcases hx with rfl | hx
        · exact hpm
        · exact h p i hx m hm hpm
      · rw [List.getElem?_eq_none (by simp; omega)] at hi
        cases hi

/-! ### The trace in the order of the text -/
def rosAt : List (Nat × List Nat) → Nat → List Nat
  | [], _ => []
  | (i, c) :: l, j => bif Nat.beq j i then c else rosAt l j

def trace (P : Program) (ops : Array Oper) (ces : List (Nat × CE)) (ros : List (Nat × List Nat)) : Nat → List Oper → AS → Option (List Prop × List It × AS)
  | _, [], s => some ([], [], s)
  | i, o :: l, s =>
    let rd := projR s (o.looksAt ops)
    let ro := restr s.obj (rosAt ros i)
    match evD P ops (AS.lst s.n rd ro) o (ceAt ces i) with
    | some (cs, d) =>
      bif (hinOf (ceAt ces i)).all (fun j => (ofH ro j).isSome) then
        match trace P ops ces ros (i + 1) l (app o.dst d s) with
        | some (cs', its, s') => some (cs ++ cs', ⟨o.dst, d, rd, ro⟩ :: its, s')
        | none => none
      else none
    | none => none

theorem lkp_projR (s : AS) : ∀ {l : List Nat} {t : Nat}, t ∈ l → lkp (projR s l) t = s.reg t
  | k :: l, t, h => by
    simp only [projR, lkp]
    by_cases hk : t = k
    · subst hk; rw [Nat.beq_refl]; rfl
    · rw [beq_false hk]; exact lkp_projR s ((List.mem_cons.1 h).resolve_left hk)
theorem mem_projR (s : AS) : ∀ {l : List Nat} {t : Nat}, t ∈ l → (t, s.reg t) ∈ projR s l
  | k :: l, t, h => by
    rcases List.mem_cons.1 h with rfl | h
    · exact List.mem_cons_self ..
    · exact List.mem_cons_of_mem _ (mem_projR s h)
theorem projR_val (s : AS) : ∀ {l : List Nat} {p}, p ∈ projR s l → s.reg p.1 = p.2
  | k :: l, p, h => by
    rcases List.mem_cons.1 h with rfl | h
    · rfl
    · exact projR_val s h
theorem restr_val {obj : Nat → Option AObj} : ∀ (l : List Nat) {p}, p ∈ restr obj l → obj p.1 = some p.2
  | i :: l, p, h => by
    unfold restr at h
    split at h
    · rename_i o ho
      rcases List.mem_cons.1 h with rfl | h
      · exact ho
      · exact restr_val l h
    · exact restr_val l h

def GoodIt (P : Program) (ops : Array Oper) (ce : Option CE) (o : Oper) (n : Nat) (it : It) : Prop :=
  it.dst = o.dst ∧ ∀ S : AS, S.n = n → Agr it S → ∃ cs, allP cs ∧ evOp P ops S o ce = some (cs, app it.dst it.d S)

theorem trace_ok {P : Program} {ops : Array Oper} {ces ros} {full : List It} {s0 : AS} : ∀ (l : List Oper) (i : Nat) (s s' : AS) (cs : List Prop) (its : List It), trace P ops ces ros i l s = some (cs, its, s') → allP cs →
    (∀ j, full[i + j]? = its[j]?) → s = foldM full (fun _ => true) i s0 →
    s' = foldM full (fun _ => true) (i + l.length) s0 ∧ ∀ j o, l[j]? = some o → ∃ it, its[j]? = some it ∧ GoodIt P ops (ceAt ces (i + j)) o s0.n it ∧ Agr it (foldM full (fun _ => true) (i + j) s0)
  | [], i, s, s', cs, its, h, hc, hf, hs => by
    cases h
    exact ⟨hs, fun j o hj => by simp at hj⟩
  | o :: l, i, s, s', cs, its, h, hc, hf, hs => by
    unfold trace at h
    simp only [] at h
    split at h
    · rename_i cs1 d hd
      cases hh : (hinOf (ceAt ces i)).all (fun j => (ofH (restr s.obj (rosAt ros i)) j).isSome)
      · rw [hh] at h; cases h
      rw [hh] at h
      simp only [cond_true] at h
      split at h
      · rename_i cs2 its2 s2 ht
        simp only [Option.some.injEq, Prod.mk.injEq] at h
        obtain ⟨rfl, rfl, rfl⟩ := h
        rw [allP_append] at hc
        have h0 : full[i]? = some ⟨o.dst, d, projR s (o.looksAt ops), restr s.obj (rosAt ros i)⟩ := by have := hf 0; simpa using this
        have hstep : app o.dst d s = foldM full (fun _ => true) (i + 1) s0 := by
          simp only [foldM, cond_true, stp, h0, ← hs]
        obtain ⟨q1, q2⟩ := trace_ok l (i + 1) _ _ _ _ ht hc.2 (fun j => by
          have := hf (j + 1)
          rw [List.getElem?_cons_succ] at this
          rw [← this]; congr 1; omega) hstep
        refine ⟨by rw [q1, List.length_cons]; congr 1; omega, fun j o' hj => ?_⟩
        cases j with
        | zero =>
          simp only [List.getElem?_cons_zero, Option.some.injEq] at hj
          subst hj
          refine ⟨_, rfl, ⟨rfl, fun S hn hA => ⟨cs1, hc.1, ?_⟩⟩, ?_⟩
          · refine evD_at hd ⟨?_, fun t ht => ?_, fun id ob hob => ?_, hh⟩
            · rw [hn, hs]; exact (foldM_n full _ s0 i).symm
            · have := hA.reg _ (mem_projR s ht)
              rw [this]
              exact (lkp_projR s ht).symm
            · exact hA.obj _ (ofH_mem hob)
          · rw [Nat.add_zero, ← hs]
            exact ⟨fun p hp => projR_val s hp, fun p hp => restr_val _ hp⟩
        | succ j =>
          rw [List.getElem?_cons_succ] at hj
          obtain ⟨it, g1, g2, g3⟩ := q2 j o' hj
          refine ⟨it, by rw [List.getElem?_cons_succ]; exact g1, ?_, ?_⟩
          · rwa [show i + (j + 1) = i + 1 + j by omega]
          · rwa [show i + (j + 1) = i + 1 + j by omega]
      · cases h
    · cases h

/-! ### All pairs -/
def free2B (a b : It) : Bool := commB a.dst a.d b.dst b.d && (backB a.dst a.d b && fwdB b.dst b.d a)

def pairRow (an : List Nat) (b : It) : Nat → List It → Bool
  | _, [] => true
  | i, a :: l => (bif an.any (Nat.beq i) then true else free2B a b) && pairRow an b (i + 1) l

def pairB (its : List It) : Nat → List It → List (List Nat) → Bool
  | _, [], _ => true
  | _, _, [] => false
  | j, b :: l, an :: t => pairRow an b 0 (its.take j) && pairB its (j + 1) l t

theorem pairRow_ok {an : List Nat} {b : It} : ∀ (l : List It) (i : Nat), pairRow an b i l = true → ∀ j a, l[j]? = some a → (i + j) ∈ an ∨ free2B a b = true
  | [], i, _, j, a, hj => by simp at hj
  | x :: l, i, h, j, a, hj => by
    simp only [pairRow, Bool.and_eq_true] at h
    cases j with
    | zero =>
      simp only [List.getElem?_cons_zero, Option.some.injEq] at hj
      subst hj
      cases hb : an.any (Nat.beq i)
      · rw [hb] at h; exact .inr h.1
      · obtain ⟨y, hy, hby⟩ := List.any_eq_true.1 hb
        have := Nat.eq_of_beq_eq_true hby
        subst this
        exact .inl hy
    | succ j =>
      rw [List.getElem?_cons_succ] at hj
      have := pairRow_ok l (i + 1) h.2 j a hj
      rwa [show i + (j + 1) = i + 1 + j by omega]

theorem pairB_ok {its : List It} : ∀ (l : List It) (j : Nat) (t : List (List Nat)), pairB its j l t = true → ∀ q b, l[q]? = some b → ∀ i a, i < j + q → its[i]? = some a → i ∈ t.getD q [] ∨ free2B a b = true
  | [], j, t, _, q, b, hq => by simp at hq
  | x :: l, j, [], h, _, _, _ => by cases h
  | x :: l, j, an :: t, h, q, b, hq => by
    simp only [pairB, Bool.and_eq_true] at h
    intro i a hi ha
    cases q with
    | zero =>
      simp only [List.getElem?_cons_zero, Option.some.injEq] at hq
      subst hq
      have := pairRow_ok _ _ h.1 i a (by rw [List.getElem?_take_of_lt (by omega)]; exact ha)
      simpa using this
    | succ q =>
      rw [List.getElem?_cons_succ] at hq
      have := pairB_ok l (j + 1) t h.2 q b hq i a (by omega) ha
      simpa using this

def topoB : Nat → List Oper → Bool
  | _, [] => true
  | j, o :: l => (preds o).all (fun p => Nat.blt p j) && topoB (j + 1) l

theorem topo_ok : ∀ (l : List Oper) (j : Nat), topoB j l = true → ∀ q o, l[q]? = some o → ∀ p ∈ preds o, p < j + q
  | [], j, _, q, o, hq => by simp at hq
  | x :: l, j, h, q, o, hq => by
    simp only [topoB, Bool.and_eq_true] at h
    intro p hp
    cases q with
    | zero =>
      simp only [List.getElem?_cons_zero, Option.some.injEq] at hq
      subst hq
      have := Nat.le_of_ble_eq_true (List.all_eq_true.1 h.1 p hp)
      omega
    | succ q =>
      rw [List.getElem?_cons_succ] at hq
      have := topo_ok l (j + 1) h.2 q o hq p hp
      omega

/-- A region whose order is drawn, evaluated: its conditions; its end. -/
def evDraw (P : Program) (ops : Array Oper) (ces : List (Nat × CE)) (ros : List (Nat × List Nat)) (s : AS) (ks hs : List Nat) : Option (List Prop × AS) :=
  match trace P ops ces ros 0 ops.toList s with
  | some (cs, its, s') => bif topoB 0 ops.toList && pairB its 0 its (ancs ops.toList []) then some (cs, s'.proj ks hs) else none
  | none => none

def mOf (listed : Array Bool) (j : Nat) : Bool := listed.getD j false

theorem wpAny_ok {P : Program} {ops : Array Oper} {ces : List (Nat × CE)} {its : List It} {s0 : AS} {G : Gd} {Q : Exit → Act → World → Prop}
    (hit : ∀ j o, ops[j]? = some o → ∃ it, its[j]? = some it ∧ GoodIt P ops (ceAt ces j) o s0.n it ∧ Agr it (foldM its (fun _ => true) j s0)) (htop : ∀ j o, ops[j]? = some o → ∀ p ∈ preds o, p < j)
    (hpair : ∀ i j, i < j → j < ops.size → ∀ m, Dn ops m → m j = true → m i = false → Free2 its i j)
    (hQ : ∀ Γ a w, Conc G Γ (foldM its (fun _ => true) ops.size s0) a w → Q .normal a w) :
    ∀ (fuel : Nat) (listed : Array Bool) (rest : List Nat) (a : Act) (w : World), listed.size = ops.size → rest.length ≤ fuel → (∀ j, j < ops.size → mOf listed j = false → j ∈ rest) → Dn ops (mOf listed) →
      (∃ Γ, Conc G Γ (foldM its (mOf listed) ops.size s0) a w) → wpAny P .any ops Q fuel listed a w := by
  have done : ∀ (listed : Array Bool) (a : Act) (w : World), listed.size = ops.size → Region.ready .any ops listed = [] → (∃ Γ, Conc G Γ (foldM its (mOf listed) ops.size s0) a w) → Q .normal a w := by
    rintro listed a w hsz hr ⟨Γ, hC⟩
    have hall : ∀ k j, j < k → j < ops.size → mOf listed j = true := by
      intro k
      induction k with
      | zero => intro j h; omega
      | succ k ih =>
        intro j hj hjs
        cases hm : mOf listed j with
        | true => rfl
        | false =>
          exfalso
          have hmem : j ∈ Region.ready .any ops listed := by
            rw [mem_ready]
            refine ⟨?_, ops[j], Array.getElem?_eq_getElem hjs, fun e he hb => ?_⟩
            · have hlt : j < listed.size := by omega
              unfold mOf at hm
              simp only [Array.getD_eq_getD_getElem?, Array.getElem?_eq_getElem hlt, Option.getD_some] at hm ⊢
              exact hm
            · have hp : e.on ∈ preds ops[j] := List.mem_map.2 ⟨e, List.mem_filter.2 ⟨by simpa using he, by simpa using hb⟩, rfl⟩
              have := htop j _ (Array.getElem?_eq_getElem hjs) _ hp
              exact ih e.on (by omega) (by omega)
          rw [hr] at hmem
          cases hmem
    rw [foldM_congr its (m' := fun _ => true) s0 ops.size fun j hj => hall (j + 1) j (by omega) hj] at hC
    exact hQ Γ a w hC
  intro fuel
  induction fuel with
  | zero =>
    intro listed rest a w hsz hle hrest hdn hC
    have hnil : rest = [] := List.length_eq_zero_iff.1 (by omega)
    have hr : Region.ready .any ops listed = [] := by
      cases hx : Region.ready .any ops listed with
      | nil => rfl
      | cons j t =>
        exfalso
        have hj : j ∈ Region.ready .any ops listed := by rw [hx]; exact List.mem_cons_self ..
        obtain ⟨h0, o, ho, _⟩ := mem_ready.1 hj
        have hjs : j < ops.size := (Array.getElem?_eq_some_iff.1 ho).1
        have hlt : j < listed.size := by omega
        have : j ∈ rest := hrest j hjs (by
          unfold mOf
          simp only [Array.getD_eq_getD_getElem?, Array.getElem?_eq_getElem hlt, Option.getD_some] at h0 ⊢
          exact h0)
        rw [hnil] at this
        cases this
    exact ⟨hr, done listed a w hsz hr hC⟩
  | succ fuel ih =>
    intro listed rest a w hsz hle hrest hdn hC
    refine ⟨fun hr => done listed a w hsz hr hC, fun i hi => ?_⟩
    obtain ⟨h0, o, ho, hpre⟩ := mem_ready.1 hi
    have his : i < ops.size := (Array.getElem?_eq_some_iff.1 ho).1
    have hlt : i < listed.size := by omega
    have hm : mOf listed i = false := by
      unfold mOf
      simp only [Array.getD_eq_getD_getElem?, Array.getElem?_eq_getElem hlt, Option.getD_some] at h0 ⊢
      exact h0
    obtain ⟨it, g1, ⟨g2, g3⟩, g4⟩ := hit i o ho
    have hset : ∀ j, j < ops.size → mOf (listed.setIfInBounds i true) j = setM (mOf listed) i j := fun j hj => by
      unfold mOf setM
      by_cases hji : j = i
      · subst hji
        rw [Nat.beq_refl]
        simp [hlt]
      · rw [beq_false hji]
        simp only [Array.getD_eq_getD_getElem?, Array.getElem?_setIfInBounds_ne (Ne.symm hji)]
        rfl
    have hdn' : Dn ops (setM (mOf listed) i) := by
      intro j o' ho' hj p hp
      unfold setM at hj ⊢
      by_cases hji : j = i
      · subst hji
        rw [ho] at ho'
        cases ho'
        obtain ⟨e, he, rfl⟩ := List.mem_map.1 hp
        obtain ⟨he1, he2⟩ := List.mem_filter.1 he
        have := hpre e (by simpa using he1) he2
        unfold mOf
        rw [this]; simp
      · rw [beq_false hji] at hj
        have := hdn j o' ho' (by simpa using hj) p hp
        rw [this]; simp
    obtain ⟨q1, q2⟩ := at_any its g1 hm s0 his g4 fun j k hjk hk hmj hmk => by
      by_cases hji : j = i
      · subst hji
        rcases hmk with hmk | rfl
        · exact hpair j k hjk hk (mOf listed) hdn hmk hmj
        · exact absurd hjk (by omega)
      · refine hpair j k hjk hk (setM (mOf listed) i) hdn' ?_ (by unfold setM; rw [beq_false hji]; exact hmj)
        unfold setM
        rcases hmk with h | rfl
        · rw [h]; simp
        · rw [Nat.beq_refl]; rfl
    obtain ⟨Γ, hC⟩ := hC
    obtain ⟨cs, hcs, hev⟩ := g3 _ (foldM_n its _ s0 _) q1
    rw [wpO_eq ho]
    refine evOp_ok hev hcs G Γ a w Q _ hC fun Γ' a' w' hC' => ?_
    refine ih _ (rest.erase i) a' w' (by simp [hsz]) ?_ ?_ ?_ ⟨Γ', ?_⟩
    · have := List.length_erase_of_mem (hrest i his hm)
      omega
    · intro j hj hmj
      rw [hset j hj] at hmj
      unfold setM at hmj
      by_cases hji : j = i
      · subst hji; rw [Nat.beq_refl] at hmj; cases hmj
      · rw [beq_false hji] at hmj
        exact (List.mem_erase_of_ne hji).2 (hrest j hj (by simpa using hmj))
    · intro j o' ho' hj p hp
      have hjs : j < ops.size := (Array.getElem?_eq_some_iff.1 ho').1
      have hp' := htop j o' ho' p hp
      rw [hset p (by omega)]
      rw [hset j hjs] at hj
      exact hdn' j o' ho' hj p hp
    · rw [foldM_congr its s0 ops.size hset, q2]
      exact hC'

theorem Conc.drew {G Γ s a w} (h : Conc G Γ s a w) : Conc G Γ s a { w with drawn := w.drawn + 1 } := by
  have e : Ext (fun _ => False) Γ w Γ { w with drawn := w.drawn + 1 } := mk_ext fun _ _ => rfl
  refine ⟨h.size, h.defers, fun t => MV.ext e (fun id o _ ho => ⟨o, ho, rfl⟩) (fun d hd => hd.elim) (h.regs t), ⟨fun id ob ho => MO.ext e (fun h => h) (fun d hd => hd.elim) (fun _ _ => rfl) (h.heap.objs id ob ho), h.heap.lt, h.heap.inj, h.heap.ilt, h.heap.glob⟩,
    ⟨h.g.os, h.g.tape, h.g.output, h.g.size, h.g.prlt, h.g.keep, h.g.sub, h.g.bak, h.g.own⟩, h.ids⟩

theorem AMx.region_draw {P : Program} {R : Exit → AS → Prop} {k : List KI} {s : AS} {id : Nat} {ops : Array Oper} {ces : List (Nat × CE)} {ros : List (Nat × List Nat)} {ks hs : List Nat} {cs : List Prop} {s' : AS}
    (hm : P.follows .mixedOrders = true) (h : evDraw P ops ces ros s ks hs = some (cs, s')) (hc : allP cs) (hk : AMx P R k .normal s') : AMx P R (.code (.region id ops true) :: k) .normal s := by
  intro G Γ a w hC
  refine wp_region_any hm ?_
  unfold evDraw at h
  split at h
  case h_2 => cases h
  rename_i cs1 its s1 ht
  cases hB : topoB 0 ops.toList && pairB its 0 its (ancs ops.toList [])
  · rw [hB] at h; cases h
  rw [hB] at h
  simp only [cond_true, Option.some.injEq, Prod.mk.injEq] at h
  obtain ⟨rfl, rfl⟩ := h
  simp only [Bool.and_eq_true] at hB
  obtain ⟨h1, h2⟩ := trace_ok (full := its) (s0 := s) ops.toList 0 s s1 cs1 its ht hc (fun j => by rw [Nat.zero_add]) rfl
  have hanc : AncOk ops (ancs ops.toList []) := ancs_ok ops.toList [] (fun j => by simp) (fun j i hi => by simp at hi)
  refine wpAny_ok (its := its) (s0 := s) (ces := ces) (G := G) (fun j o ho => by
    have := h2 j o (by simpa using ho)
    rwa [Nat.zero_add] at this) (fun j o ho p hp => by
      have := topo_ok _ _ hB.1 j o (by simpa using ho) p hp
      omega) (fun i j hij hj m hdn hmj hmi x y hx hy => ?_) (fun Γ' a' w' hC' => ?_) ops.size _ (List.range ops.size) a _ (by simp) (by simp) (fun j hj _ => List.mem_range.2 hj) ?_ ⟨Γ, ?_⟩
  · rcases pairB_ok its 0 _ hB.2 j y hy i x (by omega) hx with h | h
    · have := hanc j i h m hdn hmj
      rw [hmi] at this; cases this
    · unfold free2B at h
      simp only [Bool.and_eq_true] at h
      exact h
  · refine ⟨_, Γ', hk, conc_le ?_ (le_proj _ _ _)⟩
    rw [h1]
    simpa using hC'
  · intro j o ho hj
    unfold mOf at hj
    simp only [Array.getD_eq_getD_getElem?, Array.getElem?_replicate] at hj
    split at hj <;> cases hj
  · have : foldM its (mOf (Array.replicate ops.size false)) ops.size s = s := by
      have e : ∀ k, foldM its (fun _ => false) k s = s := by
        intro k
        induction k with
        | zero => rfl
        | succ k ih => simpa [foldM] using ih
      rw [foldM_congr its (m' := fun _ => false) s ops.size fun j hj => by
        unfold mOf
        simp only [Array.getD_eq_getD_getElem?, Array.getElem?_replicate]
        split <;> rfl]
      exact e _
    rw [this]
    exact hC.drew
end AL
namespace AL
open Go
set_option linter.unusedVariables false

section
variable {P : Program} {R : Exit → AS → Prop} {k : List KI} {s : AS}
theorem gQ {x y : Code} (h : AMx P R (.code x :: .code y :: k) .normal s) : AMx P R (.code (.seq x y) :: k) .normal s := AMx.seq h
/-- A region. -/
theorem gR {id : Nat} {ops : Array Oper} (ces : List (Nat × CE)) (cs : List Prop) (n : Nat) (L : List (Nat × AV)) (H : List (Nat × AObj)) (hc : allP cs) (hk : AMx P R k .normal (AS.lst n L H))
    (h : evReg P ops ces s (L.map Prod.fst) (H.map Prod.fst) = some (cs, AS.lst n L H) := by kernel_rfl) : AMx P R (.code (.region id ops false) :: k) .normal s := AMx.region h hc hk
theorem gS {id : Nat} {ops : Array Oper} {y : Code} (ces : List (Nat × CE)) (cs : List Prop) (n : Nat) (L : List (Nat × AV)) (H : List (Nat × AObj)) (hc : allP cs) (hk : AMx P R (.code y :: k) .normal (AS.lst n L H))
    (h : evReg P ops ces s (L.map Prod.fst) (H.map Prod.fst) = some (cs, AS.lst n L H) := by kernel_rfl) : AMx P R (.code (.seq (.region id ops false) y) :: k) .normal s := AMx.seq (AMx.region h hc hk)
/-- A region whose order is drawn. -/
theorem gX {id : Nat} {ops : Array Oper} (ces : List (Nat × CE)) (ros : List (Nat × List Nat)) (cs : List Prop) (n : Nat) (L : List (Nat × AV)) (H : List (Nat × AObj)) (hm : P.follows .mixedOrders = true) (hc : allP cs) (hk : AMx P R k .normal (AS.lst n L H))
    (h : evDraw P ops ces ros s (L.map Prod.fst) (H.map Prod.fst) = some (cs, AS.lst n L H) := by kernel_rfl) : AMx P R (.code (.region id ops true) :: k) .normal s := AMx.region_draw hm h hc hk
theorem gY {id : Nat} {ops : Array Oper} {y : Code} (ces : List (Nat × CE)) (ros : List (Nat × List Nat)) (cs : List Prop) (n : Nat) (L : List (Nat × AV)) (H : List (Nat × AObj)) (hm : P.follows .mixedOrders = true) (hc : allP cs) (hk : AMx P R (.code y :: k) .normal (AS.lst n L H))
    (h : evDraw P ops ces ros s (L.map Prod.fst) (H.map Prod.fst) = some (cs, AS.lst n L H) := by kernel_rfl) : AMx P R (.code (.seq (.region id ops true) y) :: k) .normal s := AMx.seq (AMx.region_draw hm h hc hk)
/-- A test: of any bool, of a proposition, of what is not so. -/
theorem gB {c : Operand} {x y : Code} (b : Bool) (ht : b = true → AMx P R (.code x :: k) .normal s) (hf : b = false → AMx P R (.code y :: k) .normal s) (hb : s.val c = .t (.c (.s (.bool b))) := by kernel_rfl) :
    AMx P R (.code (.cond c x y) :: k) .normal s := AMx.cond hb ht hf
theorem gC {c : Operand} {x y : Code} (p : Prop) [Decidable p] (ht : p → AMx P R (.code x :: k) .normal s) (hf : ¬ p → AMx P R (.code y :: k) .normal s) (hb : s.val c = .t (.c (.s (.bool (decide p)))) := by kernel_rfl) :
    AMx P R (.code (.cond c x y) :: k) .normal s := AMx.cond hb (fun h => ht (of_decide_eq_true h)) (fun h => hf (of_decide_eq_false h))
theorem gN {c : Operand} {x y : Code} (p : Prop) [Decidable p] (ht : ¬ p → AMx P R (.code x :: k) .normal s) (hf : p → AMx P R (.code y :: k) .normal s) (hb : s.val c = .t (.c (.s (.bool (!decide p)))) := by kernel_rfl) :
    AMx P R (.code (.cond c x y) :: k) .normal s := AMx.cond hb (fun h => ht (fun q => by rw [decide_eq_true q] at h; cases h)) (fun h => hf (Classical.byContradiction fun q => by rw [decide_eq_false q] at h; cases h))
/-- A test that is known. -/
theorem gBt {c : Operand} {x y : Code} (ht : AMx P R (.code x :: k) .normal s) (hb : s.val c = .t (.c (.s (.bool true))) := by kernel_rfl) : AMx P R (.code (.cond c x y) :: k) .normal s := AMx.cond hb (fun _ => ht) (fun h => by cases h)
theorem gBf {c : Operand} {x y : Code} (hf : AMx P R (.code y :: k) .normal s) (hb : s.val c = .t (.c (.s (.bool false))) := by kernel_rfl) : AMx P R (.code (.cond c x y) :: k) .normal s := AMx.cond hb (fun h => by cases h) (fun _ => hf)
theorem gT {fn : Func} {res : AV} (r : AV) (hr : r = res) (h : evRes P fn s = some r := by kernel_rfl) : AMx P (RetP P fn res H0) (.code .ret :: k) .normal s := AMx.ret (RetP.mk h hr)
/-- Ways meet again in one state. -/
theorem gJ {c d : Code} (n : Nat) (L : List (Nat × AV)) (H : List (Nat × AObj)) (h1 : AMx P (fun e s => match e with | .normal => s.ent (AS.lst n L H) | e => AMx P R (.code d :: k) e s) [.code c] .normal s) (h2 : AMx P R (.code d :: k) .normal (AS.lst n L H)) : AMx P R (.code c :: .code d :: k) .normal s :=
  AMx.cut (fun s' => s'.ent (AS.lst n L H)) h1 fun s' hs => AMx.ent hs h2
theorem gE {d : Code} {n : Nat} {L : List (Nat × AV)} {H : List (Nat × AObj)} (h : s.ent (AS.lst n L H)) : AMx P (fun e s => match e with | .normal => s.ent (AS.lst n L H) | e => AMx P R (.code d :: k) e s) [] .normal s := h
end
theorem xT {p : Prop} [Decidable p] : (decide p = true) = p := decide_eq_true_eq
theorem xF {p : Prop} [Decidable p] : decide p = false ↔ ¬ p := decide_eq_false_iff_not
theorem xA : ∀ a b : Bool, ((a && b) = true) = (a = true ∧ b = true) := Bool.and_eq_true
theorem xB : ∀ a b : Bool, ((a && b) = false) ↔ (a = false ∨ b = false) := fun _ _ => Bool.and_eq_false_iff
theorem xO : ∀ a b : Bool, ((a || b) = true) ↔ (a = true ∨ b = true) := fun _ _ => Bool.or_eq_true_iff
theorem xP : ∀ a b : Bool, ((a || b) = false) ↔ (a = false ∧ b = false) := fun _ _ => Bool.or_eq_false_iff
theorem xN : ∀ b : Bool, ((!b) = true) = (b = false) := Bool.not_eq_true'
theorem xM : ∀ b : Bool, ((!b) = false) = (b = true) := Bool.not_eq_false'
end AL
