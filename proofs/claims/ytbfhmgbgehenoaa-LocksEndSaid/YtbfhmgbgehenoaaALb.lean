/- An abstract logic, 9: one step of a region: the operations that compute, and the calls. No condition. An abstract logic, 10: an owned slice given up; a call by its contract. No condition. An abstract logic, 11: the operations that make or write memory. No condition. An abstract logic, 12: append, stores, slices made. No condition. An abstract logic, 13: the steps with an effect, each with what it asks and what it leaves. No condition. An abstract logic, 14: all steps with an effect: what is asked, what is left. No condition. An abstract logic, 15: variables, slices made, stores, conversions of bytes, iterators. No condition. An abstract logic, 16: stores. No condition. An abstract logic, 16R: ranging over a text; bytes into a text, a text into bytes. No condition.  -/
import Derived.Test.YtbfhmgbgehenoaaALa
import Derived.Lib.AppendStr
import Derived.Great.BuildSlice
import Derived.Laws.RangeString
import Derived.Laws.IdiomStrings
import Derived.Lib.ConvBytes
namespace AL
open Go
set_option linter.unusedVariables false

def capOf : AV → Option Cap
  | .t (.c (.s c)) => some (.s c)
  | .t (.c (.ptr id off)) => some (.ptr id off)
  | _ => none
def capsOf : List AV → Option (List Cap)
  | [] => some []
  | x :: l => match capOf x, capsOf l with
    | some c, some cs => some (c :: cs)
    | _, _ => none

/-- A pointer to shared cells, as a value, is a pointer to shared cells. -/
def rof : AV → AV
  | .t (.c (.s (.ref n f))) => .ro n f
  | x => x
theorem rof_ok {Γ obj w} {x : AV} {v : Value} (h : MV Γ obj w x v) : MV Γ obj w (rof x) v := by
  unfold rof
  split
  · exact h
  · exact h

/-- The operations that compute or read. 'val': what the operands are. -/
def evV (P : Program) (obj : Nat → Option AObj) (val : Operand → AV) (op : Op) : Option (List Prop × AV) :=
  match op with
  | .move x | .assign x => some ([], val x)
  | .nilCheck x => match val x with
    | .t (.c (.ptr _ _)) | .ro _ _ | .oel _ _ _ => some ([], val x)
    | _ => none
  | .binOp op T x y _ => match val x, val y with
    | .t (.c (.s a)), .t (.c (.s b)) => match evBin op a b with
      | some r => some (r.1, .t (.c (.s r.2)))
      | none => evEq P op T (val x) (val y)
    | _, _ => evEq P op T (val x) (val y)
  | .unOp op _ x => evUn op (val x)
  | .convert src dst x => evConvert P src dst (val x)
  | .field T x f => evField P T f (val x)
  | .extract x i => match val x with
    | .tup l => (l[i]?).map fun c => ([], .t c)
    | _ => none
  | .build T parts => evBuild P T (parts.toList.map fun p => (p.1, val p.2))
  | .fieldAddr T x f => evFieldAddr P T f (rof (val x))
  | .indexAddr T x i => evIndexAddr P obj T (rof (val x)) (val i)
  | .index T x i => evIndex P T (val x) (val i)
  | .load T x => evLoad P obj T (rof (val x))
  | .slice T x lo hi mx => match mx with
    | none => evSlice P T (val x) (lo.map val) (hi.map val)
    | some _ => none
  | .makeFunc fn first caps => match fn, first.toList with
    | .func f, [] => (capsOf (caps.toList.map val)).map fun cs => ([], .t (.c (.fn f cs)))
    | _, _ => none
  | .call c => match c.callee with
    | .builtin .len => match c.args.toList, c.argTypes.toList with
      | [x], [T] => evLen P obj T (val x)
      | _, _ => none
    | .builtin .cap => match c.args.toList.map val, c.argTypes.toList with
      | [.t (.c (.s .nilsl))], [T] => match P.underlying T with
        | some (.slice _) => some ([], .t (.c (.s (.int .i64 0))))
        | _ => none
      | _, _ => none
    | .builtin .max => match c.args.toList.map val with
      | [.t (.c (.s (.int k a))), .t (.c (.s (.int k' b)))] => if k = k' then some ([], .t (.c (.s (.int k (max a b))))) else none
      | _ => none
    | .builtin .min => match c.args.toList.map val with
      | [.t (.c (.s (.int k a))), .t (.c (.s (.int k' b)))] => if k = k' then some ([], .t (.c (.s (.int k (min a b))))) else none
      | _ => none
    | _ => none
  | _ => none

theorem mparts_map {Γ obj w} {val : Operand → AV} {ρ : Operand → Value} :
    ∀ (l : List (Nat × Operand)), (∀ x ∈ l.map (·.2), MV Γ obj w (val x) (ρ x)) → MParts Γ obj w (l.map fun p => (p.1, val p.2)) (l.map fun p => (p.1, ρ p.2))
  | [], _ => trivial
  | (i, x) :: l, hv => ⟨rfl, hv x (by simp), mparts_map l fun y hy => hv y (by simp only [List.map_cons, List.mem_cons]; exact .inr hy)⟩

theorem mvo_map {Γ obj w} {val : Operand → AV} {ρ : Operand → Value} (o : Option Operand) (hv : ∀ x, o = some x → MV Γ obj w (val x) (ρ x)) : MVo Γ obj w (o.map val) (o.map ρ) := by
  cases o with
  | none => trivial
  | some x => exact hv x rfl

theorem capsOf_ok {Γ obj w} {val : Operand → AV} {ρ : Operand → Value} :
    ∀ (l : List Operand) (cs : List Cap), (∀ x ∈ l, MV Γ obj w (val x) (ρ x)) → capsOf (l.map val) = some cs → MCaps Γ w cs (l.map ρ)
  | [], cs, _, h => by cases h; trivial
  | x :: l, cs, hv, h => by
    simp only [List.map_cons, capsOf] at h
    split at h
    · rename_i c cs' h1 h2
      cases h
      refine ⟨?_, capsOf_ok l cs' (fun y hy => hv y (List.mem_cons_of_mem _ hy)) h2⟩
      have hx := hv x (by simp)
      unfold capOf at h1
      split at h1
      · rename_i e; cases h1; rw [e] at hx; exact hx
      · rename_i e; cases h1; rw [e] at hx; exact hx
      · cases h1
    · cases h

theorem evV_ok {P : Program} {Γ obj w} {val : Operand → AV} {ρ : Operand → Value} {o : Oper} {cs r} (h : evV P obj val o.op = some (cs, r))
    (hv : ∀ x ∈ o.op.operands.toList, MV Γ obj w (val x) (ρ x)) (hh : HeapOk Γ obj w) (hc : allP cs) :
    ∃ v, (execOp ρ o).run P w = .ok (.value v) w ∧ MV Γ obj w r v := by
  have lift : ∀ {s : Sem Value}, (∃ v, s.run P w = .ok v w ∧ MV Γ obj w r v) → ∃ v, (do pure (.value (← s)) : Sem Next).run P w = .ok (.value v) w ∧ MV Γ obj w r v := by
    rintro s ⟨v, h1, h2⟩
    exact ⟨v, by simp [h1], h2⟩
  unfold evV at h
  unfold execOp
  split at h
  · rename_i x e; simp only [e]; cases h; exact ⟨ρ x, rfl, hv x (by simp [e, Op.operands])⟩
  · rename_i x e; simp only [e]; cases h; exact ⟨ρ x, rfl, hv x (by simp [e, Op.operands])⟩
  · rename_i x e
    simp only [e]
    have hx := hv x (by simp [e, Op.operands])
    split at h
    · rename_i e2; rw [e2] at hx h; cases h; simp only [MV, MT, MC] at hx; rw [hx]; exact ⟨_, rfl, rfl⟩
    · rename_i e2
      rw [e2] at hx h
      cases h
      have hx' := hx
      obtain ⟨b, off, h1, _⟩ := hx
      rw [h1] at hx' ⊢
      exact ⟨_, rfl, hx'⟩
    · rename_i e2
      rw [e2] at hx h
      cases h
      have hx' := hx
      obtain ⟨k, h1, _⟩ := hx
      rw [h1] at hx' ⊢
      exact ⟨_, rfl, hx'⟩
    · cases h
  · rename_i op T x y T' e
    simp only [e]
    have hx := hv x (by simp [e, Op.operands])
    have hy := hv y (by simp [e, Op.operands])
    refine lift ?_
    split at h
    · rename_i a b ea eb
      split at h
      · rename_i r' hb
        simp only [Option.some.injEq, Prod.mk.injEq] at h
        obtain ⟨rfl, rfl⟩ := h
        rw [ea] at hx
        rw [eb] at hy
        obtain ⟨v, h1, h2⟩ := bin_ok (P := P) (T := T) hx hy hb hc
        exact ⟨v, by simp [guard_ok (P := P) (T := T) (ox := x) (oy := y) hx hy hb, h1], h2⟩
      · exact eq_ok h hx hy
    · exact eq_ok h hx hy
  · rename_i op T x e; simp only [e]; exact lift (un_ok h (hv x (by simp [e, Op.operands])) hc)
  · rename_i src dst x e; simp only [e]; exact lift (convert_ok h (hv x (by simp [e, Op.operands])) hc)
  · rename_i T x f e; simp only [e]; exact lift (field_ok h (hv x (by simp [e, Op.operands])))
  · rename_i x i e
    simp only [e]
    refine lift ?_
    have hx := hv x (by simp [e, Op.operands])
    split at h
    · rename_i l el
      simp only [Option.map_eq_some_iff, Prod.mk.injEq] at h
      obtain ⟨c, hc', rfl, rfl⟩ := h
      rw [el] at hx
      obtain ⟨vs, e1, hm⟩ := hx
      have get : ∀ (l : List TV) (vs : List Value) (i : Nat), MTs Γ w l vs → l[i]? = some c → ∃ v, vs[i]? = some v ∧ MT Γ w c v := by
        intro l
        induction l with
        | nil => intro vs i _ h; simp at h
        | cons a l ih =>
          intro vs i hm h
          cases vs with
          | nil => exact hm.elim
          | cons v vs =>
            cases i with
            | zero => simp at h; subst h; exact ⟨v, rfl, hm.1⟩
            | succ i => simp at h; obtain ⟨u, hu, hm'⟩ := ih vs i hm.2 h; exact ⟨u, by simpa using hu, hm'⟩
      obtain ⟨v, hv1, hv2⟩ := get l vs.toList i hm hc'
      refine ⟨v, ?_, hv2⟩
      rw [e1]
      simp at hv1
      simp [Instr.extract, hv1]
    · cases h
  · rename_i T parts e
    simp only [e]
    refine lift ?_
    have := build_ok (P := P) h (mparts_map parts.toList fun y hy => hv y (by simpa [e, Op.operands] using hy))
    rwa [show (parts.toList.map fun p => (p.1, ρ p.2)).toArray = parts.map fun (i, x) => (i, ρ x) by apply Array.ext'; simp] at this
  · rename_i T x f e; simp only [e]; exact lift (fieldAddr_ok h (rof_ok (hv x (by simp [e, Op.operands]))))
  · rename_i T x i e; simp only [e]; exact lift (indexAddr_ok h (rof_ok (hv x (by simp [e, Op.operands]))) (hv i (by simp [e, Op.operands])) hh hc)
  · rename_i T x i e; simp only [e]; exact lift (index_ok h (hv x (by simp [e, Op.operands])) (hv i (by simp [e, Op.operands])) hc)
  · rename_i T x e; simp only [e]; exact lift (load_ok h (rof_ok (hv x (by simp [e, Op.operands]))) hh hc)
  · rename_i T x lo hi mx e
    simp only [e]
    refine lift ?_
    cases mx with
    | none => exact slice_ok h (hv x (by simp [e, Op.operands])) (mvo_map lo fun y hy => hv y (by simp [e, Op.operands, hy])) (mvo_map hi fun y hy => hv y (by simp [e, Op.operands, hy])) hc
    | some _ => cases h
  · rename_i fn first caps e
    simp only [e]
    refine lift ?_
    split at h
    · rename_i f _ e1
      simp only [Option.map_eq_some_iff, Prod.mk.injEq] at h
      obtain ⟨cs', hcs, rfl, rfl⟩ := h
      refine ⟨_, rfl, caps.map ρ, ?_, ?_⟩
      · rw [show first = #[] by apply Array.ext'; simpa using e1]
        simp
      · rw [Array.toList_map]; exact capsOf_ok _ _ (fun y hy => hv y (by simp only [e, Op.operands, Array.toList_append]; exact List.mem_append_right _ hy)) hcs
    · cases h
  · rename_i c e
    simp only [e]
    have tl : ∀ {α : Type} {xs : Array α} {l : List α}, xs.toList = l → xs = l.toArray := fun h => by rw [← h]
    split at h
    · rename_i hcal
      split at h
      · rename_i x T e1 e2
        obtain ⟨v, h1, h2⟩ := len_ok (P := P) (rt := o.type) h (hv x (by simp [e, Op.operands, Call.operands, hcal, e1])) hh
        refine ⟨v, ?_, h2⟩
        simp [resolve, hcal, invoke, builtin, tl e1, tl e2, h1]
      · cases h
    · rename_i hcal
      split at h
      · rename_i T e1 e2
        split at h
        · rename_i e' hu
          simp only [Option.some.injEq, Prod.mk.injEq] at h
          obtain ⟨rfl, rfl⟩ := h
          obtain ⟨x, exx⟩ : ∃ x, c.args.toList = [x] := by
            have := congrArg List.length e1
            simp only [List.length_map, List.length_cons, List.length_nil] at this
            match hl : c.args.toList, this with
            | [x], _ => exact ⟨x, rfl⟩
          rw [exx] at e1
          simp only [List.map_cons, List.map_nil, List.cons.injEq, and_true] at e1
          have hx := hv x (by simp [e, Op.operands, Call.operands, hcal, exx])
          rw [e1] at hx
          have hx : ρ x = .slice none 0 0 := hx
          exact ⟨.int .i64 0, by simp [resolve, hcal, invoke, builtin, tl exx, tl e2, Builtin.cap_, run_underlying hu, goInt, hx], rfl, inR_len (Nat.zero_le _)⟩
        · cases h
      · cases h
    · rename_i hcal
      split at h
      · rename_i k p k' q e1
        split at h
        · rename_i hk
          subst hk
          simp only [Option.some.injEq, Prod.mk.injEq] at h
          obtain ⟨rfl, rfl⟩ := h
          obtain ⟨x, y, exy⟩ : ∃ x y, c.args.toList = [x, y] := by
            have := congrArg List.length e1
            simp only [List.length_map, List.length_cons, List.length_nil] at this
            match hl : c.args.toList, this with
            | [x, y], _ => exact ⟨x, y, rfl⟩
          rw [exy] at e1
          simp only [List.map_cons, List.map_nil, List.cons.injEq, and_true] at e1
          have hx := hv x (by simp [e, Op.operands, Call.operands, hcal, exy])
          have hy := hv y (by simp [e, Op.operands, Call.operands, hcal, exy])
          rw [e1.1] at hx
          rw [e1.2] at hy
          obtain ⟨h1, h2⟩ := hx
          obtain ⟨h3, h4⟩ := hy
          refine ⟨.int k (max p q), ?_, rfl, ?_⟩
          · simp [resolve, hcal, invoke, builtin, tl exy, Builtin.max_, h1, h3, Builtin.max2]
            split <;> omega
          · rcases (show max p q = p ∨ max p q = q by omega) with hm | hm <;> rw [hm] <;> assumption
        · cases h
      · cases h
    · rename_i hcal
      split at h
      · rename_i k p k' q e1
        split at h
        · rename_i hk
          subst hk
          simp only [Option.some.injEq, Prod.mk.injEq] at h
          obtain ⟨rfl, rfl⟩ := h
          obtain ⟨x, y, exy⟩ : ∃ x y, c.args.toList = [x, y] := by
            have := congrArg List.length e1
            simp only [List.length_map, List.length_cons, List.length_nil] at this
            match hl : c.args.toList, this with
            | [x, y], _ => exact ⟨x, y, rfl⟩
          rw [exy] at e1
          simp only [List.map_cons, List.map_nil, List.cons.injEq, and_true] at e1
          have hx := hv x (by simp [e, Op.operands, Call.operands, hcal, exy])
          have hy := hv y (by simp [e, Op.operands, Call.operands, hcal, exy])
          rw [e1.1] at hx
          rw [e1.2] at hy
          obtain ⟨h1, h2⟩ := hx
          obtain ⟨h3, h4⟩ := hy
          refine ⟨.int k (min p q), ?_, rfl, ?_⟩
          · simp [resolve, hcal, invoke, builtin, tl exy, Builtin.min_, h1, h3, Builtin.min2]
            split <;> omega
          · rcases (show min p q = p ∨ min p q = q by omega) with hm | hm <;> rw [hm] <;> assumption
        · cases h
      · cases h
    · cases h
  · cases h
end AL
namespace AL
open Go
set_option linter.unusedVariables false

def delObj (id : Nat) (obj : Nat → Option AObj) : Nat → Option AObj := fun j => bif Nat.beq j id then none else obj j

theorem delObj_some {id : Nat} {obj : Nat → Option AObj} {j o} (h : delObj id obj j = some o) : j ≠ id ∧ obj j = some o := by
  unfold delObj at h
  by_cases hj : j = id
  · subst hj; rw [Nat.beq_refl] at h; cases h
  · rw [beq_false hj] at h; exact ⟨hj, h⟩

theorem fp_lt {Γ obj w} (hh : HeapOk Γ obj w) {id o b} (ho : obj id = some o) (hb : fp Γ id o b) : b < w.heap.size := (hh.lt id o b ho hb).1

/-- What an object that is given up becomes: a shared slice; shared cells, that pointers name. -/
inductive FzV : Type 1
  | sl (c : SC)
  | row (l : List SC)

def rl (l : List SC) (i : Nat) : SC := l.getD i .any
def allS : List AC → Option (List SC)
  | [] => some []
  | .s c :: l => (allS l).map (c :: ·)
  | _ => none
theorem allS_ok : ∀ {l : List AC} {r}, allS l = some r → l = r.map .s
  | [], r, h => by cases h; rfl
  | .s c :: l, r, h => by
    simp only [allS, Option.map_eq_some_iff] at h
    obtain ⟨r', h, rfl⟩ := h
    rw [allS_ok h]; rfl
  | .ptr _ _ :: _, _, h => by cases h
  | .own _ :: _, _, h => by cases h
  | .fn _ _ :: _, _, h => by cases h

/-- What an object may be given up as. -/
def fzOb : AObj → Option FzV
  | .grow _ k α d row l => some (.sl (.sl k α d row l))
  | .row cells => (allS cells).map .row
  | _ => none

def FzOk (Γ : Ctx) (w : World) (id : Nat) : FzV → Prop
  | .sl c => MS Γ.I w c (Γ.η id)
  | .row l => ∀ off, MS Γ.I w (.ref (l.drop off).length (rl (l.drop off))) (.pointer (some ⟨Γ.ρ id, off, none⟩))

/-- An owned object is given up: from now on it is shared. -/
theorem freeze_ok {G Γ obj w} {id : Nat} {o : AObj} {z : FzV} (hh : HeapOk Γ obj w) (hg : GOk G Γ obj w) (ho : obj id = some o) (hz : fzOb o = some z) :
    ∃ Γ', HeapOk Γ' (delObj id obj) w ∧ GOk G Γ' (delObj id obj) w ∧ Ext (fun _ => False) Γ w Γ' w ∧ FzOk Γ' w id z ∧ Γ'.ρ = Γ.ρ ∧ Γ'.η = Γ.η ∧
      (∀ b, Γ'.I b → Γ.I b ∨ ∃ o, obj id = some o ∧ fp Γ id o b) := by
  let Γ' : Ctx := { I := fun b => Γ.I b ∨ fp Γ id o b, ρ := Γ.ρ, η := Γ.η }
  have hext : Ext (fun _ => False) Γ w Γ' w := ⟨fun b hb => .inl hb, fun b hb => rfl, fun _ _ => ⟨rfl, rfl⟩⟩
  refine ⟨Γ', ⟨fun j o hj => ?_, fun j o b hj hb => ?_, fun j o j' o' b hj hj' hb hb' => ?_, fun b hb => ?_, hh.glob.mono (fun b hb => .inl hb) (fun b hb => rfl)⟩,
    ⟨hg.os, hg.tape, hg.output, hg.size, hg.prlt, hg.keep, fun b hb => .inl (hg.sub b hb), fun b hb hi => ?_, fun j o b hj hb => ?_⟩, hext, ?_, rfl, rfl, fun b hb => ?_⟩
  · obtain ⟨hne, hj⟩ := delObj_some hj
    exact MO.ext hext (fun h => h) (fun d hd => hd.elim) (fun b _ => rfl) (hh.objs j o hj)
  · obtain ⟨hne, hj⟩ := delObj_some hj
    have hb' : fp Γ j o b := hb
    refine ⟨(hh.lt j o b hj hb').1, fun hi => ?_⟩
    rcases hi with hi | hi
    · exact (hh.lt j o b hj hb').2 hi
    · exact hne (hh.inj _ _ _ _ b hj ho hb' hi)
  · obtain ⟨_, hj⟩ := delObj_some hj
    obtain ⟨_, hj'⟩ := delObj_some hj'
    exact hh.inj _ _ _ _ b hj hj' hb hb'
  · rcases hb with hb | hb
    · exact hh.ilt b hb
    · exact fp_lt hh ho hb
  · rcases hi with hi | hi
    · exact hg.bak b hb hi
    · exact absurd hb (hg.own _ _ _ ho hi)
  · obtain ⟨_, hj⟩ := delObj_some hj
    exact hg.own _ _ _ hj hb
  · have hmo := hh.objs id _ ho
    cases o with
    | grow T k α d row l =>
      cases hz
      rcases hmo with ⟨h1, h2⟩ | ⟨cap, cur, h1, h2, h3, h4, h5, h6⟩
      · subst h2
        exact ⟨none, 0, h1, Nat.le_refl _, Nat.zero_le _, .inl ⟨rfl, fun _ => rfl⟩⟩
      · refine ⟨_, cap, h1, h3, h4, .inr ⟨Γ.ρ id, 0, rfl, .inr ⟨rfl, by rw [h1]; simp⟩, fun j x hx i hi => ?_⟩⟩
        obtain ⟨u, hu, hm⟩ := h6 j x hx i hi
        exact ⟨u, by rw [cell_of_heap h2, Nat.zero_add]; exact hu, MS.mono (fun b hb => .inl hb) (fun b hb => rfl) hm⟩
    | row cells =>
      simp only [fzOb, Option.map_eq_some_iff] at hz
      obtain ⟨l, hl, rfl⟩ := hz
      rw [allS_ok hl] at hmo
      obtain ⟨cs, T, h1, h2⟩ := hmo
      intro off
      refine ⟨Γ.ρ id, off, rfl, .inr ⟨rfl, trivial⟩, fun i hi => ?_⟩
      rw [List.length_drop] at hi
      have hg1 : (l.map AC.s)[off + i]? = some (AC.s (l.getD (off + i) .any)) := by
        rw [List.getElem?_map, List.getD_eq_getElem?_getD, List.getElem?_eq_getElem (by omega)]; rfl
      obtain ⟨u, hu, hm⟩ := h2.get hg1
      refine ⟨u, by rw [cell_of_heap h1, ← Array.getElem?_toList]; exact hu, ?_⟩
      have : rl (l.drop off) i = l.getD (off + i) .any := by simp [rl, List.getD_eq_getElem?_getD]
      rw [this]
      exact MS.mono (fun b hb => .inl hb) (fun b hb => rfl) hm
    | arr => cases hz
    | iter => cases hz
    | hole => cases hz
  · rcases hb with hb | hb
    · exact .inl hb
    · exact .inr ⟨_, ho, hb⟩

/-! ### An owned object handed to a call: it is given up -/
def subCap (id : Nat) (l : List SC) : Cap → Cap
  | .ptr i off => bif Nat.beq i id then .s (.ref (l.drop off).length (rl (l.drop off))) else .ptr i off
  | x => x
def subA (id : Nat) : FzV → AC → AC
  | .sl c, .own i => bif Nat.beq i id then .s c else .own i
  | .row l, .ptr i off => bif Nat.beq i id then .s (.ref (l.drop off).length (rl (l.drop off))) else .ptr i off
  | .row l, .fn f caps => .fn f (caps.map (subCap id l))
  | _, x => x
def subT (id : Nat) (c : FzV) : TV → TV
  | .c a => .c (subA id c a)
  | .agg l => .agg (l.map (subA id c))
  | x => x

theorem subCap_ok {Γ w id l a v} (hc : FzOk Γ w id (.row l)) (h : MCap Γ w a v) : MCap Γ w (subCap id l a) v := by
  unfold subCap
  split
  · rename_i i off
    by_cases hi : i = id
    · subst hi; rw [Nat.beq_refl]; subst h; exact hc off
    · rw [beq_false hi]; exact h
  · exact h
theorem subCaps_ok {Γ w id l} (hc : FzOk Γ w id (.row l)) : ∀ {caps : List Cap} {vs : List Value}, MCaps Γ w caps vs → MCaps Γ w (caps.map (subCap id l)) vs
  | [], [], _ => trivial
  | _ :: _, _ :: _, h => ⟨subCap_ok hc h.1, subCaps_ok hc h.2⟩
  | [], _ :: _, h => h.elim
  | _ :: _, [], h => h.elim

theorem subA_ok {Γ w id c a v} (hc : FzOk Γ w id c) (h : MC Γ w a v) : MC Γ w (subA id c a) v := by
  unfold subA
  split
  · rename_i i
    by_cases hi : i = id
    · subst hi; rw [Nat.beq_refl]; obtain ⟨rfl, _⟩ := h; exact hc
    · rw [beq_false hi]; exact h
  · rename_i l i off
    by_cases hi : i = id
    · subst hi; rw [Nat.beq_refl]; subst h; exact hc off
    · rw [beq_false hi]; exact h
  · obtain ⟨cs, rfl, hm⟩ := h
    exact ⟨cs, rfl, subCaps_ok hc hm⟩
  · exact h

theorem subAs_ok {Γ w id c} (hc : FzOk Γ w id c) : ∀ {l : List AC} {vs : List Value}, MCs Γ w l vs → MCs Γ w (l.map (subA id c)) vs
  | [], [], _ => trivial
  | _ :: _, _ :: _, h => ⟨subA_ok hc h.1, subAs_ok hc h.2⟩
  | [], _ :: _, h => h.elim
  | _ :: _, [], h => h.elim

theorem subT_ok {Γ w id c a v} (hc : FzOk Γ w id c) (h : MT Γ w a v) : MT Γ w (subT id c a) v := by
  cases a with
  | c a => exact subA_ok hc h
  | agg l => obtain ⟨cs, rfl, hm⟩ := h; exact ⟨cs, rfl, subAs_ok hc hm⟩
  | arr => exact h

theorem subTs_ok {Γ w id c} (hc : FzOk Γ w id c) : ∀ {l : List TV} {vs : List Value}, MTs Γ w l vs → MTs Γ w (l.map (subT id c)) vs
  | [], [], _ => trivial
  | _ :: _, _ :: _, h => ⟨subT_ok hc h.1, subTs_ok hc h.2⟩
  | [], _ :: _, h => h.elim
  | _ :: _, [], h => h.elim

def evFreeze (obj : Nat → Option AObj) (args : List TV) : List Nat → Option ((Nat → Option AObj) × List TV)
  | [] => some (obj, args)
  | id :: r => match obj id with
    | some o => match fzOb o with
      | some z => evFreeze (delObj id obj) (args.map (subT id z)) r
      | none => none
    | none => none

theorem evFreeze_ok {G w} {vs : List Value} : ∀ (fz : List Nat) {Γ obj args obj' args'}, evFreeze obj args fz = some (obj', args') → HeapOk Γ obj w → GOk G Γ obj w → MTs Γ w args vs →
    ∃ Γ', HeapOk Γ' obj' w ∧ GOk G Γ' obj' w ∧ MTs Γ' w args' vs ∧ Ext (fun _ => False) Γ w Γ' w ∧ Γ'.ρ = Γ.ρ ∧ Γ'.η = Γ.η ∧ (∀ id o, obj' id = some o → obj id = some o)
  | [], Γ, obj, args, obj', args', h, hh, hg, hm => by
    simp only [evFreeze, Option.some.injEq, Prod.mk.injEq] at h
    obtain ⟨rfl, rfl⟩ := h
    exact ⟨Γ, hh, hg, hm, ⟨fun _ h => h, fun _ _ => rfl, fun _ _ => ⟨rfl, rfl⟩⟩, rfl, rfl, fun _ _ h => h⟩
  | id :: r, Γ, obj, args, obj', args', h, hh, hg, hm => by
    simp only [evFreeze] at h
    split at h
    · rename_i o ho
      split at h
      · rename_i z hz
        obtain ⟨Γ1, h1, g1, e1, m1, r1, n1, _⟩ := freeze_ok hh hg ho hz
        have hm1 : MTs Γ1 w args vs := MTs.ext e1 (fun d hd => hd.elim) hm
        obtain ⟨Γ2, h2, g2, m2, e2, r2, n2, s2⟩ := evFreeze_ok r h h1 g1 (subTs_ok m1 hm1)
        exact ⟨Γ2, h2, g2, m2, ⟨fun b hb => e2.sub b (e1.sub b hb), fun _ _ => rfl, fun _ _ => by rw [r2, n2, r1, n1]; exact ⟨rfl, rfl⟩⟩, by rw [r2, r1], by rw [n2, n1],
          fun id o h => (delObj_some (s2 id o h)).2⟩
      · cases h
    · cases h

/-! ### The call -/
def ofH : List (Nat × AObj) → Nat → Option AObj
  | [] => H0
  | (i, o) :: l => fun j => bif Nat.beq j i then some o else ofH l j

def tvsOf : List AV → Option (List TV)
  | [] => some []
  | .t x :: l => (tvsOf l).map (x :: ·)
  | _ :: _ => none

theorem tvsOf_ok {Γ obj w} {val : Operand → AV} {ρ : Operand → Value} :
    ∀ (l : List Operand) (ts : List TV), (∀ x ∈ l, MV Γ obj w (val x) (ρ x)) → tvsOf (l.map val) = some ts → MTs Γ w ts (l.map ρ)
  | [], ts, _, h => by cases h; trivial
  | x :: l, ts, hv, h => by
    have hx := hv x (by simp)
    simp only [List.map_cons] at h
    cases e : val x with
    | t c =>
      rw [e] at h hx
      simp only [tvsOf, Option.map_eq_some_iff] at h
      obtain ⟨ts', h1, rfl⟩ := h
      exact ⟨hx, tvsOf_ok l ts' (fun y hy => hv y (List.mem_cons_of_mem _ hy)) h1⟩
    | _ => rw [e] at h; simp [tvsOf] at h

def capT : Cap → TV
  | .s c => .c (.s c)
  | .ptr id off => .c (.ptr id off)

theorem capsT_ok {Γ w} : ∀ {l : List Cap} {vs : List Value}, MCaps Γ w l vs → MTs Γ w (l.map capT) vs
  | [], [], _ => trivial
  | c :: l, v :: vs, h => ⟨by cases c <;> exact h.1, capsT_ok h.2⟩
  | [], _ :: _, h => h.elim
  | _ :: _, [], h => h.elim

theorem MTs.append {Γ w} : ∀ {l m : List TV} {vs us : List Value}, MTs Γ w l vs → MTs Γ w m us → MTs Γ w (l ++ m) (vs ++ us)
  | [], m, [], us, _, h => h
  | c :: l, m, v :: vs, us, h, h' => ⟨h.1, MTs.append h.2 h'⟩
  | [], _, _ :: _, _, h, _ => h.elim
  | _ :: _, _, [], _, h, _ => h.elim

/-- A value whose meaning does not hang on the owned objects. -/
def plainV : AV → Bool
  | .t _ | .tup _ => true
  | _ => false
theorem plain_obj {Γ obj obj' w r v} (hp : plainV r = true) (h : MV Γ obj w r v) : MV Γ obj' w r v := by
  cases r <;> first | exact h | cases hp

def restr (obj : Nat → Option AObj) : List Nat → List (Nat × AObj)
  | [] => []
  | id :: l => match obj id with
    | some o => (id, o) :: restr obj l
    | none => restr obj l

theorem restr_ok {obj : Nat → Option AObj} : ∀ (l : List Nat) {id o}, ofH (restr obj l) id = some o → obj id = some o
  | [], id, o, h => by cases h
  | i :: l, id, o, h => by
    unfold restr at h
    split at h
    · rename_i o' ho
      simp only [ofH] at h
      by_cases hi : id = i
      · subst hi; rw [Nat.beq_refl] at h; cases h; exact ho
      · rw [beq_false hi] at h; exact restr_ok l h
    · exact restr_ok l h

/-- The names that are new behind a call. -/
def isNew (H H' : Nat → Option AObj) (d : Nat) : Bool := (H' d).isSome && (H d).isNone

def keysNew (H : Nat → Option AObj) : List (Nat × AObj) → List Nat
  | [] => []
  | (i, _) :: l => if (H i).isNone then i :: keysNew H l else keysNew H l

def oelIn (H : Nat → Option AObj) : AV → Bool
  | .oel id _ _ => (H id).isSome
  | .whn _ x => oelIn H x
  | _ => false

def scrubV (H : Nat → Option AObj) (D : List Nat) (v : AV) : AV := bif D.any (fun d => v.has d) || oelIn H v then .any else v

def afterObj (obj H H' : Nat → Option AObj) (D : List Nat) : Nat → Option AObj := fun j =>
  match H' j with
  | some o => some o
  | none => bif (H j).isSome then none else match obj j with
    | some o => bif D.any (fun d => o.has d) then none else some o
    | none => none

theorem keysNew_ok {H : Nat → Option AObj} : ∀ {l : List (Nat × AObj)} {d}, (ofH l d ≠ none ∧ H d = none) → d ∈ keysNew H l
  | [], d, h => absurd rfl h.1
  | (i, o) :: l, d, h => by
    unfold keysNew
    by_cases hd : d = i
    · subst hd
      rw [if_pos (by simp [h.2])]
      exact List.mem_cons_self ..
    · have : ofH l d ≠ none := by
        have h1 := h.1
        simp only [ofH, beq_false hd] at h1
        exact h1
      have := keysNew_ok ⟨this, h.2⟩
      split
      · exact List.mem_cons_of_mem _ this
      · exact this

theorem scrub_spec {H : Nat → Option AObj} {D : List Nat} {v : AV} {Γ obj w u} (h : MV Γ obj w v u) : MV Γ obj w (scrubV H D v) u ∧ (∀ d ∈ D, (scrubV H D v).has d = false) ∧ oelIn H (scrubV H D v) = false := by
  unfold scrubV
  cases hb : D.any (fun d => v.has d) || oelIn H v with
  | true => exact ⟨trivial, fun _ _ => rfl, rfl⟩
  | false =>
    rw [Bool.or_eq_false_iff] at hb
    refine ⟨h, fun d hd => ?_, hb.2⟩
    have := hb.1
    rw [List.any_eq_false] at this
    simpa using this d hd

theorem MV.ext' {D : Nat → Prop} {Γ Γ' : Ctx} {w w' : World} (h : Ext D Γ w Γ' w') {H obj obj' : Nat → Option AObj} (ho : ∀ id o', ¬ D id → H id = none → obj' id = some o' → ∃ o, obj id = some o ∧ o'.width = o.width) :
    ∀ {c v}, (∀ d, D d → c.has d = false) → oelIn H c = false → MV Γ obj w c v → MV Γ' obj' w' c v := by
  intro c
  induction c with
  | oel id i j =>
    intro v hd ho' hm
    have hD : ¬ D id := fun hD => by have := hd id hD; simp [AV.has] at this
    have hn : H id = none := by simpa [oelIn] using ho'
    obtain ⟨k, rfl, hk⟩ := hm
    refine ⟨k, by rw [(h.agree id hD).1], fun o hob => ?_⟩
    obtain ⟨o1, h1, h2⟩ := ho id o hD hn hob
    rw [h2]; exact hk o1 h1
  | whn p x ih => intro v hd ho' hm; exact ⟨fun hp => ih hd ho' (hm.1 hp), hm.2⟩
  | any => intro v _ _ _; trivial
  | t x => intro v hd _ hm; exact MT.ext h hd hm
  | tup l => intro v hd _ hm; obtain ⟨vs, rfl, hv⟩ := hm; exact ⟨vs, rfl, MTs.ext h hd hv⟩
  | ro n f =>
    intro v hd _ hm
    obtain ⟨b, off, rfl, hb, hf⟩ := hm
    refine ⟨b, off, rfl, h.sub b hb, fun i hi => ?_⟩
    obtain ⟨u, hu, hm⟩ := hf i hi
    exact ⟨u, by rw [World.cell?_of_block (w := w) (h.keep b hb)]; exact hu, MS.mono h.sub h.keep hm⟩

/-- Behind a call: the state of the caller. -/
theorem call_ok {G Γ obj w n} {reg : Nat → AV} {a : Act} (hsz : a.tmps.size = n) (hdf : a.defers = G.df) (hr : ∀ t, MV Γ obj w (reg t) (a.tmps.getD t undef)) (hh : HeapOk Γ obj w) (hg : GOk G Γ obj w)
    {hin : Nat → Option AObj} {new : List (Nat × AObj)} (hsub : ∀ id o, hin id = some o → obj id = some o)
    {Γ' w'} (hh' : HeapOk Γ' (ofH new) w') (hg' : GOk ⟨w, prOf Γ hin w, Γ.I, Γ.ρ, Γ.η, []⟩ Γ' (ofH new) w') (ha : Agree (fun id => ofH new id ≠ none ∧ hin id = none) Γ Γ')
    (hids : ∀ id, n ≤ id → Γ.ρ id = G.ρ id ∧ Γ.η id = G.η id) (hnw : (keysNew hin new).all (fun d => Nat.blt d n) = true) :
    Conc G Γ' ⟨n, fun t => scrubV hin (keysNew hin new) (reg t), afterObj obj hin (ofH new) (keysNew hin new)⟩ a w' := by
  have hIpr : ∀ b, Γ.I b → prOf Γ hin w b := fun b hb => ⟨hh.ilt b hb, fun id o hid hf => (hh.lt id o b (hsub id o hid) hf).2 hb⟩
  have hext : Ext (fun id => ofH new id ≠ none ∧ hin id = none) Γ w Γ' w' := ⟨hg'.sub, fun b hb => hg'.keep b (hIpr b hb), ha⟩
  have hold : ∀ id o, ofH new id = none → afterObj obj hin (ofH new) (keysNew hin new) id = some o → obj id = some o ∧ hin id = none ∧ ∀ d ∈ keysNew hin new, o.has d = false := by
    intro id o h1 h2
    unfold afterObj at h2
    rw [h1] at h2
    simp only at h2
    cases h3 : hin id with
    | some o' => rw [h3] at h2; cases h2
    | none =>
      rw [h3] at h2
      cases h4 : obj id with
      | none => rw [h4] at h2; cases h2
      | some o' =>
        rw [h4] at h2
        simp only [Option.isSome_none, cond_false] at h2
        cases h5 : (keysNew hin new).any (fun d => o'.has d) with
        | true => rw [h5] at h2; cases h2
        | false =>
          rw [h5] at h2
          cases h2
          refine ⟨rfl, rfl, fun d hd => ?_⟩
          rw [List.any_eq_false] at h5
          simpa using h5 d hd
  have hnew : ∀ id o, ofH new id = some o → afterObj obj hin (ofH new) (keysNew hin new) id = some o := by
    intro id o h; unfold afterObj; rw [h]
  have hcase : ∀ id o, afterObj obj hin (ofH new) (keysNew hin new) id = some o → ofH new id = some o ∨ (ofH new id = none ∧ obj id = some o ∧ hin id = none ∧ ∀ d ∈ keysNew hin new, o.has d = false) := by
    intro id o h
    cases h1 : ofH new id with
    | some o' => rw [hnew id o' h1] at h; exact .inl h
    | none => exact .inr ⟨rfl, hold id o h1 h⟩
  have hrest : ∀ id o b, obj id = some o → hin id = none → fp Γ id o b → prOf Γ hin w b := fun id o b ho hi hf =>
    ⟨fp_lt hh ho hf, fun id' o' hid' hf' => by have := hh.inj _ _ _ _ b ho (hsub _ _ hid') hf hf'; subst this; rw [hi] at hid'; cases hid'⟩
  have hnD : ∀ id, ofH new id = none → ¬ (ofH new id ≠ none ∧ hin id = none) := fun id h h' => h'.1 h
  refine ⟨hsz, hdf, fun t => ?_, ⟨fun id o ho => ?_, fun id o b ho hf => ?_, fun id o id' o' b ho ho' hf hf' => ?_, hh'.ilt, hh'.glob⟩, ⟨?_, ?_, ?_, ?_, hg.prlt, ?_, ?_, ?_, ?_⟩, fun id hid => ?_⟩
  · obtain ⟨h1, h2, h3⟩ := scrub_spec (H := hin) (D := keysNew hin new) (hr t)
    refine MV.ext' hext (fun id o' hid hno ho' => ?_) (fun d hd => h2 d (keysNew_ok hd)) h3 h1
    rcases hcase id o' ho' with h | ⟨_, h, _⟩
    · exact absurd ⟨by rw [h]; simp, hno⟩ hid
    · exact ⟨o', h, rfl⟩
  · rcases hcase id o ho with h | ⟨h, h1, h2, h3⟩
    · exact hh'.objs id o h
    · exact MO.ext hext (hnD id h) (fun d hd => h3 d (keysNew_ok hd)) (fun b hb => hg'.keep b (hrest id o b h1 h2 hb)) (hh.objs id o h1)
  · rcases hcase id o ho with h | ⟨h, h1, h2, h3⟩
    · exact hh'.lt id o b h hf
    · have hf' := (fp.ext ha (hnD id h)).1 hf
      have hpr := hrest id o b h1 h2 hf'
      exact ⟨Nat.lt_of_lt_of_le hpr.1 hg'.size, fun hi => (hh.lt id o b h1 hf').2 (hg'.bak b hpr hi)⟩
  · rcases hcase id o ho with h | ⟨h, h1, h2, h3⟩
    · rcases hcase id' o' ho' with h' | ⟨h', h1', h2', h3'⟩
      · exact hh'.inj _ _ _ _ b h h' hf hf'
      · exact absurd (hrest id' o' b h1' h2' ((fp.ext ha (hnD id' h')).1 hf')) (hg'.own id o b h hf)
    · rcases hcase id' o' ho' with h' | ⟨h', h1', h2', h3'⟩
      · exact absurd (hrest id o b h1 h2 ((fp.ext ha (hnD id h)).1 hf)) (hg'.own id' o' b h' hf')
      · exact hh.inj _ _ _ _ b h1 h1' ((fp.ext ha (hnD id h)).1 hf) ((fp.ext ha (hnD id' h')).1 hf')
  · exact hg'.os.trans hg.os
  · exact hg'.tape.trans hg.tape
  · exact hg'.output.trans hg.output
  · exact Nat.le_trans hg.size hg'.size
  · intro b hb
    have hpr : prOf Γ hin w b := ⟨Nat.lt_of_lt_of_le (hg.prlt b hb) hg.size, fun id o hid hf => hg.own id o b (hsub id o hid) hf hb⟩
    exact (hg'.keep b hpr).trans (hg.keep b hb)
  · exact fun b hb => hg'.sub b (hg.sub b hb)
  · intro b hb hi
    have hpr : prOf Γ hin w b := ⟨Nat.lt_of_lt_of_le (hg.prlt b hb) hg.size, fun id o hid hf => hg.own id o b (hsub id o hid) hf hb⟩
    exact hg.bak b hb (hg'.bak b hpr hi)
  · intro id o b ho hf hb
    have hpr : prOf Γ hin w b := ⟨Nat.lt_of_lt_of_le (hg.prlt b hb) hg.size, fun id o hid hf => hg.own id o b (hsub id o hid) hf hb⟩
    rcases hcase id o ho with h | ⟨h, h1, h2, h3⟩
    · exact hg'.own id o b h hf hpr
    · exact hg.own id o b h1 ((fp.ext ha (hnD id h)).1 hf) hb
  · have hid : n ≤ id := hid
    have hn : ¬ (ofH new id ≠ none ∧ hin id = none) := fun hd => by
      have h1 := keysNew_ok hd
      rw [List.all_eq_true] at hnw
      have := Nat.le_of_ble_eq_true (hnw id h1)
      omega
    obtain ⟨e1, e2⟩ := ha id hn
    rw [e1, e2]
    exact hids id hid
end AL
namespace AL
open Go
set_option linter.unusedVariables false

def mkΓ (Γ : Ctx) (d g : Nat) (v : Value) : Ctx := ⟨Γ.I, fun j => bif Nat.beq j d then g else Γ.ρ j, fun j => bif Nat.beq j d then v else Γ.η j⟩

theorem mk_ρ (Γ d g v) : (mkΓ Γ d g v).ρ d = g := by simp [mkΓ, Nat.beq_refl]
theorem mk_η (Γ d g v) : (mkΓ Γ d g v).η d = v := by simp [mkΓ, Nat.beq_refl]
theorem mk_agree (Γ d g v) : Agree (fun id => id = d) Γ (mkΓ Γ d g v) := fun id h => by simp [mkΓ, beq_false h]

/-- Behind a step that makes one owned object, or writes one: 'hin': what it owned. -/
structure Post (Γ : Ctx) (hin : Nat → Option AObj) (w : World) (Γ' : Ctx) (new : List (Nat × AObj)) (w' : World) : Prop where
  heap : HeapOk Γ' (ofH new) w'
  g : GOk ⟨w, prOf Γ hin w, Γ.I, Γ.ρ, Γ.η, []⟩ Γ' (ofH new) w'
  agree : Agree (fun id => ofH new id ≠ none ∧ hin id = none) Γ Γ'

theorem ofH_one {d : Nat} {o : AObj} {j o'} : ofH [(d, o)] j = some o' ↔ j = d ∧ o' = o := by
  simp only [ofH, H0]
  by_cases h : j = d
  · subst h; rw [Nat.beq_refl]; simp [eq_comm]
  · rw [beq_false h]; simp [h]

theorem new_post {Γ hin w d o g v w'} (hh : HeapOk Γ hin w) (hn : hin d = none) (os : w'.os = w.os) (tp : w'.tape = w.tape) (ou : w'.output = w.output) (sz : w.heap.size ≤ w'.heap.size)
    (hk : ∀ b, prOf Γ hin w b → w'.heap[b]? = w.heap[b]?) (hm : MO (mkΓ Γ d g v) w' d o) (hb : ∀ b, fp (mkΓ Γ d g v) d o b → b < w'.heap.size ∧ ¬ Γ.I b ∧ ¬ prOf Γ hin w b) :
    Post Γ hin w (mkΓ Γ d g v) [(d, o)] w' := by
  refine ⟨⟨fun j o' hj => ?_, fun j o' b hj hf => ?_, fun j o1 j' o2 b hj hj' _ _ => ?_, fun b hb' => ?_, hh.glob.mono (fun b hb => hb) fun b hb => hk b ⟨hh.ilt b hb, fun id o hid hf => (hh.lt id o b hid hf).2 hb⟩⟩, ⟨os, tp, ou, sz, fun b hb' => hb'.1, hk, fun b hb' => hb', fun b _ hb' => hb', fun j o' b hj hf => ?_⟩, fun j hj => ?_⟩
  · obtain ⟨rfl, rfl⟩ := ofH_one.1 hj; exact hm
  · obtain ⟨rfl, rfl⟩ := ofH_one.1 hj; have := hb b hf; exact ⟨this.1, this.2.1⟩
  · obtain ⟨rfl, _⟩ := ofH_one.1 hj; obtain ⟨rfl, _⟩ := ofH_one.1 hj'; rfl
  · exact Nat.lt_of_lt_of_le (hh.ilt b hb') sz
  · obtain ⟨rfl, rfl⟩ := ofH_one.1 hj; exact (hb b hf).2.2
  · refine mk_agree Γ d g v j fun e => hj ⟨?_, by subst e; exact hn⟩
    subst e; rw [ofH_one.2 ⟨rfl, rfl⟩]; simp

theorem ext_of_post {Γ hin w d o g v w'} (hh : HeapOk Γ hin w) (p : Post Γ hin w (mkΓ Γ d g v) [(d, o)] w') : Ext (fun id => id = d) Γ w (mkΓ Γ d g v) w' :=
  ⟨p.g.sub, fun b hb => p.g.keep b ⟨hh.ilt b hb, fun id o hid hf => (hh.lt id o b hid hf).2 hb⟩, mk_agree Γ d g v⟩

theorem heap0 {Γ obj w} (hh : HeapOk Γ obj w) : HeapOk Γ H0 w := ⟨fun _ _ h => (by cases h), fun _ _ _ h => (by cases h), fun _ _ _ _ _ h => (by cases h), hh.ilt, hh.glob⟩

theorem heap_sub {Γ obj hin w} (hh : HeapOk Γ obj w) (hs : ∀ id o, hin id = some o → obj id = some o) : HeapOk Γ hin w :=
  ⟨fun id o h => hh.objs id o (hs id o h), fun id o b h => hh.lt id o b (hs id o h), fun id o id' o' b h h' => hh.inj id o id' o' b (hs _ _ h) (hs _ _ h'), hh.ilt, hh.glob⟩

theorem alloc_size (w : World) (o : Obj) : (w.alloc o).heap.size = w.heap.size + 1 := by simp
theorem alloc_new (w : World) (o : Obj) : (w.alloc o).heap[w.heap.size]? = some o := heap_alloc_new w o
theorem alloc_old (w : World) (o : Obj) {b : Nat} (h : b < w.heap.size) : (w.alloc o).heap[b]? = w.heap[b]? := by
  show (w.heap.push o)[b]? = _
  rw [Array.getElem?_push, if_neg (by omega)]

/-- A new block of cells. -/
theorem alloc_row {Γ w d T} {cells : List AC} {cs : Array Value} (hh : HeapOk Γ H0 w) (hm : MCs Γ w cells cs.toList) (hd : acsHas d cells = false) :
    Post Γ H0 w (mkΓ Γ d w.heap.size undef) [(d, .row cells)] (w.alloc (.cells cs T)) := by
  refine new_post hh rfl rfl rfl rfl (by rw [alloc_size]; omega) (fun b hb => alloc_old w _ hb.1) ?_ fun b hb => ?_
  · refine ⟨cs, T, by rw [mk_ρ]; exact alloc_new w _, ?_⟩
    have hx : Ext (fun id => id = d) Γ w (mkΓ Γ d w.heap.size undef) (w.alloc (.cells cs T)) := ⟨fun b hb => hb, fun b hb => alloc_old w _ (hh.ilt b hb), mk_agree Γ d _ _⟩
    exact MCs.ext hx (fun e he => by subst he; exact hd) hm
  · obtain ⟨h1, _⟩ := hb
    rw [mk_ρ] at h1
    subst h1
    refine ⟨by rw [alloc_size]; omega, fun hi => by have := hh.ilt _ hi; omega, fun hp => by have := hp.1; omega⟩

/-- The rows of a list, laid flat. -/
def flat (k : Nat) {α : Type} (row : α → Nat → SC) : List α → List AC
  | [] => []
  | x :: l => ofS k (row x) ++ flat k row l

theorem length_flat (k : Nat) {α : Type} (row : α → Nat → SC) (l : List α) : (flat k row l).length = l.length * k := by
  induction l with
  | nil => simp [flat]
  | cons x l ih => simp [flat, length_ofS, ih, Nat.add_mul, Nat.add_comm]

theorem get_flat {Γ w} (k : Nat) {α : Type} (row : α → Nat → SC) : ∀ (l : List α) (vs : List Value), MCs Γ w (flat k row l) vs → ∀ j x, l[j]? = some x → ∀ i, i < k → ∃ u, vs[j * k + i]? = some u ∧ MS Γ.I w (row x i) u
  | [], vs, _, j, x, hx, _, _ => by simp at hx
  | y :: l, vs, hm, 0, x, hx, i, hi => by
    simp at hx; subst hx
    have : (flat k row (y :: l))[i]? = some (.s (row y i)) := by
      simp only [flat]
      rw [List.getElem?_append_left (by rw [length_ofS]; exact hi)]
      simp [ofS, hi]
    obtain ⟨u, hu, hmu⟩ := hm.get this
    exact ⟨u, by simpa using hu, hmu⟩
  | y :: l, vs, hm, j + 1, x, hx, i, hi => by
    have h1 := hm.drop k
    have h2 : (flat k row (y :: l)).drop k = flat k row l := by
      simp only [flat]; rw [List.drop_append_of_le_length (by rw [length_ofS]; exact Nat.le_refl _), List.drop_of_length_le (by rw [length_ofS]; exact Nat.le_refl _)]; rfl
    rw [h2] at h1
    obtain ⟨u, hu, hmu⟩ := get_flat k row l _ h1 j x (by simpa using hx) i hi
    rw [List.getElem?_drop] at hu
    exact ⟨u, by rw [Nat.add_mul, Nat.one_mul]; rw [show j * k + k + i = k + (j * k + i) by omega]; exact hu, hmu⟩

theorem mk_flat {Γ w} (k : Nat) {α : Type} (row : α → Nat → SC) : ∀ (l : List α) (vs : List Value), vs.length = l.length * k → (∀ j x, l[j]? = some x → ∀ i, i < k → ∃ u, vs[j * k + i]? = some u ∧ MS Γ.I w (row x i) u) → MCs Γ w (flat k row l) vs
  | [], vs, hl, _ => by
    have : vs = [] := List.eq_nil_of_length_eq_zero (by simpa using hl)
    subst this; trivial
  | x :: l, vs, hl, h => by
    simp only [List.length_cons, Nat.add_mul, Nat.one_mul] at hl
    have e : vs = vs.take k ++ vs.drop k := (List.take_append_drop k vs).symm
    rw [e]
    simp only [flat]
    refine MCs.append (MCs.mk (by simp [length_ofS]; omega) fun i c v h1 h2 => ?_) (mk_flat k row l _ (by simp; omega) fun j y hy i hi => ?_)
    · obtain ⟨hi, rfl⟩ := get_ofS h1
      obtain ⟨u, hu, hm⟩ := h 0 x rfl i hi
      rw [List.getElem?_take_of_lt hi] at h2
      simp only [Nat.zero_mul, Nat.zero_add] at hu
      rw [hu] at h2; cases h2; exact hm
    · obtain ⟨u, hu, hm⟩ := h (j + 1) y (by simpa using hy) i hi
      refine ⟨u, ?_, hm⟩
      rw [List.getElem?_drop]
      rw [show k + (j * k + i) = (j + 1) * k + i by rw [Nat.add_mul]; omega]
      exact hu

/-- A new owned slice, of cap elements, in a new block. -/
theorem alloc_grow {Γ : Ctx} {w w1 : World} {d : Nat} {T : TypeId} {k cap : Nat} {α : Type} {dd : α} {row : α → Nat → SC} {l : List α} {cs : Array Value} (hh : HeapOk Γ H0 w) (hw : w1.heap = w.heap) (ho : w1.os = w.os) (ht : w1.tape = w.tape) (hou : w1.output = w.output)
    (hc : cs.size = cap * k) (hcap : l.length ≤ cap) (hmx : cap ≤ maxLen) (hm : ∀ j x, l[j]? = some x → ∀ i, i < k → ∃ u, cs[j * k + i]? = some u ∧ MS Γ.I w (row x i) u) :
    Post Γ H0 w (mkΓ Γ d w.heap.size (.slice (some ⟨w.heap.size, 0, none⟩) l.length cap)) [(d, .grow T k α dd row l)] (w1.alloc (.cells cs T)) := by
  have hs : (w1.alloc (.cells cs T)).heap.size = w.heap.size + 1 := by rw [alloc_size, hw]
  have hold : ∀ b, b < w.heap.size → (w1.alloc (.cells cs T)).heap[b]? = w.heap[b]? := fun b hb => by rw [alloc_old w1 _ (by rw [hw]; exact hb), hw]
  have hnew : (w1.alloc (.cells cs T)).heap[w.heap.size]? = some (.cells cs T) := by have := alloc_new w1 (.cells cs T); rw [hw] at this; exact this
  refine new_post hh rfl ho ht hou (by rw [hs]; omega) (fun b hb => hold b hb.1) ?_ fun b hb => ?_
  · refine .inr ⟨cap, cs, by rw [mk_η, mk_ρ], by rw [mk_ρ]; exact hnew, hcap, hmx, hc, fun j x hx i hi => ?_⟩
    obtain ⟨u, hu, hmu⟩ := hm j x hx i hi
    exact ⟨u, hu, MS.mono (fun b hb => hb) (fun b hb => hold b (hh.ilt b hb)) hmu⟩
  · obtain ⟨h1, _⟩ := hb
    rw [mk_ρ] at h1
    subst h1
    exact ⟨by rw [hs]; omega, fun hi => by have := hh.ilt _ hi; omega, fun hp => by have := hp.1; omega⟩
end AL
namespace AL
open Go
set_option linter.unusedVariables false

section
variable {P : Program} {w : World} {t u ty e : TypeId} {i : TypeInfo} {z : Value} {du : TypeDesc} {x : Value} {n : Nat} {news : List Value}
  (ht : P.underlying t = some (.slice e)) (hu : P.underlying u = some du) (hdu : ∀ k, du ≠ .int k) (hi : P.info? e = some i) (hz : i.zero = some z)
  (hn : ∀ w, (Builtin.lenOf x).run P w = Result.ok n w) (hx : ∀ w', w'.heap = w.heap → (Builtin.firstCells i.size n x).run P w' = Result.ok news.toArray w')
include ht hu hdu hi hn hx

theorem app_room (b : Option Addr) (sLen sCap : Nat) (hr : sLen + n ≤ sCap) :
    (b = none → (Builtin.append_ #[t, u] ty #[.slice b sLen sCap, x]).run P w = Result.ok (.slice none (sLen + n) sCap) w) ∧
    ∀ a w', b = some a → (storeCells (a.add (sLen * i.size)) news).run P w = Result.ok () w' → (Builtin.append_ #[t, u] ty #[.slice b sLen sCap, x]).run P w = Result.ok (.slice (some a) (sLen + n) sCap) w' := by
  have h1 := hx w rfl
  refine ⟨fun hb => ?_, fun a w' hb hst => ?_⟩
  · subst hb
    simp [Builtin.append_, run_underlying ht, run_underlying hu, run_sizeOf' hi, hn, hr, h1]
  · subst hb
    simp [Builtin.append_, run_underlying ht, run_underlying hu, run_sizeOf' hi, hn, hr, h1, hst]

include hz in
theorem app_grow (b : Option Addr) (sLen sCap : Nat) (olds : List Value) (ho : ∀ w', w'.heap = w.heap → (Builtin.firstCells i.size sLen (.slice b sLen sCap)).run P w' = Result.ok olds.toArray w')
    (hg : sCap < sLen + n) (h63 : sLen + n ≤ maxLen) (hfit : (sLen + n) * i.bytes ≤ 140737488355328) :
    (Builtin.append_ #[t, u] ty #[.slice b sLen sCap, x]).run P w = Result.ok (.slice (some ⟨w.heap.size, 0, none⟩) (sLen + n) (grownCap w (sLen + n) sCap e))
        (w.drew.alloc (.cells (olds.toArray ++ news.toArray ++ Builtin.zeroCells z.cells (grownCap w (sLen + n) sCap e - (sLen + n))) e)) := by
  have hn' : ¬ (sLen + n ≤ sCap) := by omega
  simp only [maxLen] at h63
  have h63' : ¬ (9223372036854775807 < ((sLen : Int) + (n : Int))) := by omega
  have hfit' := growslice_fits hg hfit
  have h48' : ¬ (281474976710656 < Builtin.nextslicecap (sLen + n) sCap * i.bytes) := by omega
  have h1 := hx w.drew rfl
  have h2 := ho w.drew rfl
  simp [Builtin.append_, run_underlying ht, run_underlying hu, run_sizeOf' hi, typeInfo, zeroValue, hi, hz, hn, hn', h63', h48', Question.forced, h1, h2, newRow, grownCap]
  congr 2
  apply Array.ext'
  simp
end

theorem setRow_size (w : World) (g : Nat) (cs : Array Value) : (w.setRow g cs).heap.size = w.heap.size := by simp [World.setRow]

/-- Append onto an owned slice (or onto nil: 'old = none'). -/
theorem append_post {P : Program} {Γ : Ctx} {w : World} {t u ty e : TypeId} {i : TypeInfo} {z : Value} {du : TypeDesc} {x s : Value} {news : List Value} {d k : Nat} {α : Type} {dd : α} {row : α → Nat → SC} {l xs : List α}
    {hin : Nat → Option AObj} (hh : HeapOk Γ hin w) (hd : hin d = none)
    (hs : (s = .slice none 0 0 ∧ l = []) ∨ ∃ id, hin id = some (.grow e k α dd row l) ∧ s = Γ.η id)
    (ht : P.underlying t = some (.slice e)) (hu : P.underlying u = some du) (hdu : ∀ k, du ≠ .int k) (hi : P.info? e = some i) (hz : i.zero = some z) (hzs : z.cells.size = i.size) (hk : i.size = k) (hk0 : 0 < k)
    (hn : ∀ w, (Builtin.lenOf x).run P w = Result.ok xs.length w) (hx : ∀ w', w'.heap = w.heap → (Builtin.firstCells i.size xs.length x).run P w' = Result.ok news.toArray w')
    (hm : MCs Γ w (flat k row xs) news) (hfit : (l.length + xs.length) * i.bytes ≤ 140737488355328) (h63 : l.length + xs.length ≤ maxLen) :
    ∃ v w' g, (Builtin.append_ #[t, u] ty #[s, x]).run P w = Result.ok v w' ∧ Post Γ hin w (mkΓ Γ d g v) [(d, .grow e k α dd row (l ++ xs))] w' ∧ v.oneCell' = true := by
  have hnl := hm.length
  rw [length_flat] at hnl
  -- what grows: a new block
  have grow : ∀ (b : Option Addr) (sCap : Nat) (olds : List Value), s = .slice b l.length sCap → olds.length = l.length * k → (∀ j y, l[j]? = some y → ∀ i, i < k → ∃ u, olds[j * k + i]? = some u ∧ MS Γ.I w (row y i) u) →
      (∀ w', w'.heap = w.heap → (Builtin.firstCells i.size l.length (.slice b l.length sCap)).run P w' = Result.ok olds.toArray w') → sCap < l.length + xs.length →
      ∃ v w' g, (Builtin.append_ #[t, u] ty #[s, x]).run P w = Result.ok v w' ∧ Post Γ hin w (mkΓ Γ d g v) [(d, .grow e k α dd row (l ++ xs))] w' ∧ v.oneCell' = true := by
    intro b sCap olds hsv hol hom hof hlt
    have hr := app_grow (ty := ty) ht hu hdu hi hz hn hx b l.length sCap olds hof hlt h63 hfit
    rw [hsv]
    refine ⟨_, _, w.heap.size, hr, ?_, rfl⟩
    have hge := grownCap_ge w (l.length + xs.length) sCap e
    have hcm := grownCap_le_maxLen w (l.length + xs.length) sCap e h63
    have hlen : (l ++ xs).length = l.length + xs.length := List.length_append
    have hpre : ∀ b, prOf Γ hin w b → (w.drew.alloc (.cells (olds.toArray ++ news.toArray ++ Builtin.zeroCells z.cells (grownCap w (l.length + xs.length) sCap e - (l.length + xs.length))) e)).heap[b]? = w.heap[b]? := fun b hb => alloc_old w.drew _ hb.1
    refine new_post hh hd rfl rfl rfl (by rw [alloc_size]; show w.heap.size ≤ w.heap.size + 1; omega) hpre (.inr ⟨grownCap w (l.length + xs.length) sCap e, olds.toArray ++ news.toArray ++ Builtin.zeroCells z.cells (grownCap w (l.length + xs.length) sCap e - (l.length + xs.length)),
      by rw [mk_η, mk_ρ, hlen], by rw [mk_ρ]; exact alloc_new w.drew _, by rw [hlen]; exact hge, hcm, ?_, fun j y hy i' hi' => ?_⟩) fun b hb => ?_
    · simp only [Array.size_append, List.size_toArray, size_zeroCells, hzs, hol, hnl, hk, ← Nat.add_mul]
      congr 1
      omega
    · have : ∃ u, (olds ++ news)[j * k + i']? = some u ∧ MS Γ.I w (row y i') u := by
        by_cases hj : j < l.length
        · rw [List.getElem?_append_left hj] at hy
          obtain ⟨u, h1, h2⟩ := hom j y hy i' hi'
          have : j * k + i' < olds.length := (List.getElem?_eq_some_iff.1 h1).1
          exact ⟨u, by rw [List.getElem?_append_left this]; exact h1, h2⟩
        · rw [List.getElem?_append_right (by omega)] at hy
          obtain ⟨u, h1, h2⟩ := get_flat k row xs news hm _ y hy i' hi'
          refine ⟨u, ?_, h2⟩
          have hge' : l.length * k ≤ j * k := Nat.mul_le_mul_right _ (by omega)
          rw [List.getElem?_append_right (by rw [hol]; omega), hol]
          rw [show j * k + i' - l.length * k = (j - l.length) * k + i' by rw [Nat.sub_mul]; omega]
          exact h1
      obtain ⟨u, h1, h2⟩ := this
      refine ⟨u, ?_, MS.mono (fun b hb => hb) (fun b hb => hpre b ⟨hh.ilt b hb, fun id o hid hf => (hh.lt id o b hid hf).2 hb⟩) h2⟩
      have hlt' : j * k + i' < (olds ++ news).length := (List.getElem?_eq_some_iff.1 h1).1
      rw [Array.getElem?_append_left (by simp at hlt' ⊢; omega)]
      rw [← h1]
      simp
    · obtain ⟨h1, _⟩ := hb
      rw [mk_ρ] at h1
      subst h1
      exact ⟨by rw [alloc_size]; show w.heap.size < w.heap.size + 1; omega, fun hi => by have := hh.ilt _ hi; omega, fun hp => by have := hp.1; omega⟩
  rcases hs with ⟨rfl, rfl⟩ | ⟨id, hid, rfl⟩
  · by_cases hx0 : xs = []
    · subst hx0
      have hr := (app_room (ty := ty) ht hu hdu hi hn hx none 0 0 (Nat.le_refl 0)).1 rfl
      refine ⟨_, w, 0, hr, ?_, rfl⟩
      refine new_post hh hd rfl rfl rfl (Nat.le_refl _) (fun b hb => rfl) (.inl ⟨by rw [mk_η]; rfl, rfl⟩) fun b hb => ?_
      obtain ⟨_, h2⟩ := hb
      simp only [mk_η] at h2
      exact absurd rfl h2
    · have hpos : 0 < xs.length := List.length_pos_iff.2 hx0
      exact grow none 0 [] rfl (by simp) (by simp) (fun w' _ => by simp [Builtin.firstCells]) (by simpa using hpos)
  · have hne : id ≠ d := fun e => by subst e; rw [hid] at hd; cases hd
    rcases hh.objs id _ hid with ⟨hη, rfl⟩ | ⟨cap, cur, hη, hb, hlc, hcm, hcs, hmm⟩
    · rw [hη]
      by_cases hx0 : xs = []
      · subst hx0
        have hr := (app_room (ty := ty) ht hu hdu hi hn hx none 0 0 (Nat.le_refl 0)).1 rfl
        refine ⟨_, w, 0, hr, ?_, rfl⟩
        refine new_post hh hd rfl rfl rfl (Nat.le_refl _) (fun b hb => rfl) (.inl ⟨by rw [mk_η]; rfl, rfl⟩) fun b hb => ?_
        obtain ⟨_, h2⟩ := hb
        simp only [mk_η] at h2
        exact absurd rfl h2
      · have hpos : 0 < xs.length := List.length_pos_iff.2 hx0
        have := grow none 0 [] hη (by simp) (by simp) (fun w' _ => by simp [Builtin.firstCells]) (by simpa using hpos)
        rwa [hη] at this
    · by_cases hroom : l.length + xs.length ≤ cap
      · have hmul : (l.length + xs.length) * k ≤ cap * k := Nat.mul_le_mul_right _ hroom
        rw [Nat.add_mul] at hmul
        have hst := run_storeCells_at P (Γ.ρ id) (l.length * i.size) e news 0 cur w hb (by rw [hk, hnl, hcs]; omega) hm.one
        simp only [Nat.add_zero, hk] at hst
        have hr := (app_room (ty := ty) ht hu hdu hi hn hx (some ⟨Γ.ρ id, 0, none⟩) l.length cap hroom).2 _ _ rfl (by rw [add_mk, Nat.zero_add, hk]; exact hst)
        rw [hη]
        refine ⟨_, _, Γ.ρ id, hr, ?_, rfl⟩
        have hlen : (l ++ xs).length = l.length + xs.length := List.length_append
        have hfpid : fp Γ id (.grow e k α dd row l) (Γ.ρ id) := ⟨rfl, by rw [hη]; simp⟩
        have hoth : ∀ b, b ≠ Γ.ρ id → (w.setRow (Γ.ρ id) (cur.toList.take (l.length * k) ++ news ++ cur.toList.drop (l.length * k + news.length)).toArray).heap[b]? = w.heap[b]? := fun b hb => setRow_other w _ b _ hb
        have hlk : l.length * k ≤ cur.size := by rw [hcs]; exact Nat.mul_le_mul_right _ hlc
        refine new_post hh hd rfl rfl rfl (by rw [setRow_size]; exact Nat.le_refl _) (fun b hb => hoth b fun e => hb.2 id _ hid (by rw [e]; exact hfpid)) (.inr ⟨cap, (cur.toList.take (l.length * k) ++ news ++ cur.toList.drop (l.length * k + news.length)).toArray,
          by rw [mk_η, mk_ρ, hlen], by rw [mk_ρ]; exact setRow_heap w _ cur _ e _ hb, by rw [hlen]; exact hroom, hcm, ?_, fun j y hy i' hi' => ?_⟩) fun b hb' => ?_
        · simp only [List.size_toArray, List.length_append, List.length_take, List.length_drop, Array.length_toList]
          omega
        · have : ∃ u, (cur.toList.take (l.length * k) ++ news)[j * k + i']? = some u ∧ MS Γ.I w (row y i') u := by
            by_cases hj : j < l.length
            · rw [List.getElem?_append_left hj] at hy
              obtain ⟨u, h1, h2⟩ := hmm j y hy i' hi'
              have hlt : j * k + i' < l.length * k := by
                have : (j + 1) * k ≤ l.length * k := Nat.mul_le_mul_right _ hj
                rw [Nat.add_mul] at this; omega
              exact ⟨u, by rw [List.getElem?_append_left (by simp; omega), List.getElem?_take_of_lt hlt, Array.getElem?_toList]; exact h1, h2⟩
            · rw [List.getElem?_append_right (by omega)] at hy
              obtain ⟨u, h1, h2⟩ := get_flat k row xs news hm _ y hy i' hi'
              refine ⟨u, ?_, h2⟩
              have hge' : l.length * k ≤ j * k := Nat.mul_le_mul_right _ (by omega)
              have htl : (cur.toList.take (l.length * k)).length = l.length * k := by simp; omega
              rw [List.getElem?_append_right (by rw [htl]; omega), htl]
              rw [show j * k + i' - l.length * k = (j - l.length) * k + i' by rw [Nat.sub_mul]; omega]
              exact h1
          obtain ⟨u, h1, h2⟩ := this
          have hlt' := (List.getElem?_eq_some_iff.1 h1).1
          refine ⟨u, ?_, MS.mono (fun b hb => hb) (fun b hb => hoth b fun e => (hh.lt id _ _ hid hfpid).2 (e ▸ hb)) h2⟩
          rw [List.getElem?_toArray, List.getElem?_append_left hlt']
          exact h1
        · obtain ⟨h1, _⟩ := hb'
          rw [mk_ρ] at h1
          subst h1
          exact ⟨by rw [setRow_size]; exact fp_lt hh hid hfpid, (hh.lt id _ _ hid hfpid).2, fun hp => hp.2 id _ hid hfpid⟩
      · have hη' := hη
        rw [← hη'] at *
        have holds : ∀ j v, (cur.toList.take (l.length * k))[j]? = some v → w.cell? ((⟨Γ.ρ id, 0, none⟩ : Addr).add j) = some v := fun j v hj => by
          rw [add_mk, Nat.zero_add, cell_of_heap hb]
          by_cases hjs : j < l.length * k
          · rw [List.getElem?_take_of_lt hjs, Array.getElem?_toList] at hj; exact hj
          · rw [List.getElem?_take, if_neg hjs] at hj; cases hj
        have hlk : l.length * k ≤ cur.size := by rw [hcs]; exact Nat.mul_le_mul_right _ hlc
        refine grow (some ⟨Γ.ρ id, 0, none⟩) cap (cur.toList.take (l.length * k)) hη (by simp; omega) (fun j y hy i' hi' => ?_) (fun w' hw' => ?_) (by omega)
        · obtain ⟨u, h1, h2⟩ := hmm j y hy i' hi'
          have hj : j < l.length := (List.getElem?_eq_some_iff.1 hy).1
          have hlt : j * k + i' < l.length * k := by
            have : (j + 1) * k ≤ l.length * k := Nat.mul_le_mul_right _ hj
            rw [Nat.add_mul] at this; omega
          exact ⟨u, by rw [List.getElem?_take_of_lt hlt, Array.getElem?_toList]; exact h1, h2⟩
        · exact run_firstCells_some w' i.size l.length _ l.length cap _ (by simp [hk]; omega) (fun j v hj => by
            have := holds j v hj
            unfold World.cell? at this ⊢
            rw [hw']; exact this)
end AL
namespace AL
open Go
set_option linter.unusedVariables false

/-- What a step is told: the result of a call; the object that it makes; the text that it yields. -/
inductive CE : Type 1
  | call (fz hin : List Nat) (res : AV) (new : List (Nat × AObj))
  | obj (o : AObj)
  | str (s : Bytes)
  | shr (o : Option AObj)

theorem post_refl {Γ w} (hh : HeapOk Γ H0 w) : Post Γ H0 w Γ [] w :=
  ⟨hh, ⟨rfl, rfl, rfl, Nat.le_refl _, fun b hb => hb.1, fun b hb => rfl, fun b hb => hb, fun b _ hb => hb, fun _ _ _ h => (by cases h)⟩, fun _ _ => ⟨rfl, rfl⟩⟩

/-- An owned object is written in place. -/
theorem upd_post {Γ w w'} {id : Nat} {o o' : AObj} (hh : HeapOk Γ (ofH [(id, o)]) w) (os : w'.os = w.os) (tp : w'.tape = w.tape) (ou : w'.output = w.output) (sz : w.heap.size ≤ w'.heap.size)
    (hk : ∀ b, (∀ c, fp Γ id o c → b ≠ c) → w'.heap[b]? = w.heap[b]?) (hf : ∀ b, fp Γ id o' b → fp Γ id o b) (hm : MO Γ w' id o') :
    Post Γ (ofH [(id, o)]) w Γ [(id, o')] w' := by
  have ho : ofH [(id, o)] id = some o := ofH_one.2 ⟨rfl, rfl⟩
  refine ⟨⟨fun j q hj => ?_, fun j q b hj hb => ?_, fun j q j' q' b hj hj' _ _ => ?_, fun b hb => Nat.lt_of_lt_of_le (hh.ilt b hb) sz, hh.glob.mono (fun b h => h) fun b hb => hk b fun c hc e => (hh.lt id o c ho hc).2 (e ▸ hb)⟩,
    ⟨os, tp, ou, sz, fun b hb => hb.1, fun b hb => hk b fun c hc e => hb.2 id o ho (e ▸ hc), fun b hb => hb, fun b _ hb => hb, fun j q b hj hb hp => ?_⟩, fun _ _ => ⟨rfl, rfl⟩⟩
  · obtain ⟨rfl, rfl⟩ := ofH_one.1 hj; exact hm
  · obtain ⟨rfl, rfl⟩ := ofH_one.1 hj
    have := hh.lt _ _ b ho (hf b hb)
    exact ⟨Nat.lt_of_lt_of_le this.1 sz, this.2⟩
  · obtain ⟨rfl, _⟩ := ofH_one.1 hj; obtain ⟨rfl, _⟩ := ofH_one.1 hj'; rfl
  · obtain ⟨rfl, rfl⟩ := ofH_one.1 hj; exact hp.2 _ _ ho (hf b hb)

theorem mk_ext {Γ : Ctx} {w w' : World} (hk : ∀ b, Γ.I b → w'.heap[b]? = w.heap[b]?) : Ext (fun _ => False) Γ w Γ w' := ⟨fun b hb => hb, hk, fun _ _ => ⟨rfl, rfl⟩⟩

/-! ### A store -/
def spl (L : List AC) (j : Nat) (c : List AC) : List AC := L.take j ++ (c ++ L.drop (j + c.length))

theorem run_store {P : Program} {w : World} {T e : TypeId} {i : TypeInfo} {g o : Nat} {cur : Array Value} {v : Value} (hi : P.info? T = some i) (hs : v.cells.size = i.size) (h1 : ∀ u ∈ v.cells.toList, u.oneCell' = true)
    (hg : w.heap[g]? = some (.cells cur e (0, 0))) (hl : o + i.size ≤ cur.size) :
    (Instr.storeAt T (.pointer (some ⟨g, o, none⟩)) v).run P w = Result.ok () (w.setRow g (cur.toList.take o ++ v.cells.toList ++ cur.toList.drop (o + v.cells.toList.length)).toArray) := by
  have := run_storeCells_at P g o e v.cells.toList 0 cur w hg (by simp; omega) h1
  simp only [Nat.add_zero] at this
  simp [Instr.storeAt, Instr.sureAddr, storeVar, run_sizeOf' hi, hs]
  simpa [hs] using this

theorem store_row {P : Program} {Γ w} {T : TypeId} {i : TypeInfo} {id off : Nat} {cells l : List AC} {v : Value} (hh : HeapOk Γ (ofH [(id, .row cells)]) w) (hi : P.info? T = some i)
    (hm : MCs Γ w l v.cells.toList) (hs : l.length = i.size) (hle : off + i.size ≤ cells.length) :
    ∃ w', (Instr.storeAt T (.pointer (some ⟨Γ.ρ id, off, none⟩)) v).run P w = Result.ok () w' ∧ Post Γ (ofH [(id, .row cells)]) w Γ [(id, .row (spl cells off l))] w' := by
  have ho : ofH [(id, AObj.row cells)] id = some (.row cells) := ofH_one.2 ⟨rfl, rfl⟩
  obtain ⟨cur, T', hb, hc⟩ := hh.objs id _ ho
  have hcl := hc.length
  have hvl := hm.length
  rw [Array.length_toList] at hcl
  have hfp : fp Γ id (.row cells) (Γ.ρ id) := ⟨rfl, trivial⟩
  have hnI := (hh.lt id _ _ ho hfp).2
  have hk : ∀ cs b, b ≠ Γ.ρ id → (w.setRow (Γ.ρ id) cs).heap[b]? = w.heap[b]? := fun cs b hb => setRow_other w _ b _ hb
  refine ⟨_, run_store (T := T) hi (by rw [← Array.length_toList]; omega) hm.one hb (by omega), ?_⟩
  refine upd_post hh rfl rfl rfl (by rw [setRow_size]; exact Nat.le_refl _) (fun b hb => hk _ b (hb _ hfp)) (fun b hb => hb) ⟨_, T', setRow_heap w _ _ _ _ _ hb, ?_⟩
  have hx : Ext (fun _ => False) Γ w Γ (w.setRow (Γ.ρ id) (cur.toList.take off ++ v.cells.toList ++ cur.toList.drop (off + v.cells.toList.length)).toArray) := mk_ext fun b hb => hk _ b fun e => hnI (e ▸ hb)
  have := MCs.ext hx (fun d hd => hd.elim) ((hc.take off).append (hm.append (hc.drop (off + l.length))))
  simpa [spl, hvl] using this

/-- A store into element i of an owned slice or array, at its cell j. -/
def StoreC (i j : Nat) (c : List AC) : AObj → AObj → Prop
  | .grow T k α d row l, o => ∃ x : α, o = .grow T k α d row (l.set i x) ∧ i < l.length ∧ spl (ofS k (row (l.getD i d))) j c = ofS k (row x)
  | .arr k n α d row l, o => ∃ x : α, o = .arr k n α d row (l.set i x) ∧ i < l.length ∧ spl (ofS k (row (l.getD i d))) j c = ofS k (row x)
  | .hole T k α d row l i' e, o => ∃ e', o = .hole T k α d row l i' e' ∧ i = i' ∧ j = 0 ∧ c = [.own e']
  | _, _ => False

theorem hole_ne {i j c k : Nat} (hc : c < k) (hn : ¬ (j = i ∧ c = 0)) : j * k + c ≠ i * k := by
  intro h
  rcases Nat.lt_trichotomy j i with hj | hj | hj
  · have := Nat.mul_le_mul_right k (show j + 1 ≤ i from hj)
    rw [Nat.add_mul] at this; omega
  · subst hj; exact hn ⟨rfl, by omega⟩
  · have := Nat.mul_le_mul_right k (show i + 1 ≤ j from hj)
    rw [Nat.add_mul] at this; omega

theorem elem_cells {Γ w k} {α : Type} {d : α} {row : α → Nat → SC} {l : List α} {i j : Nat} {x : α} {c : List AC} {cur us : List Value} (hlt : i < l.length) (hc : MCs Γ w c us) (hjk : j + c.length ≤ k)
    (hcur : l.length * k ≤ cur.length) (hm : ∀ j x, l[j]? = some x → ∀ i, i < k → ∃ u, cur[j * k + i]? = some u ∧ MS Γ.I w (row x i) u) (hs : spl (ofS k (row (l.getD i d))) j c = ofS k (row x)) :
    ∀ j' x', (l.set i x)[j']? = some x' → ∀ i', i' < k → ∃ u, (cur.take (i * k + j) ++ us ++ cur.drop (i * k + j + us.length))[j' * k + i']? = some u ∧ MS Γ.I w (row x' i') u := by
  intro j' x' hx' i' hi'
  have hul := hc.length
  have hik : (i + 1) * k ≤ l.length * k := Nat.mul_le_mul_right _ hlt
  rw [Nat.add_mul] at hik
  have htl : (cur.take (i * k + j)).length = i * k + j := by simp; omega
  by_cases hj : j' = i
  · subst hj
    rw [List.getElem?_set_self hlt] at hx'
    cases hx'
    have e : (ofS k (row x))[i']? = some (.s (row x i')) := by simp [ofS, hi']
    rw [← hs] at e
    obtain ⟨u0, h0, m0⟩ := hm j' (l.getD j' d) (by simp [List.getD, List.getElem?_eq_getElem hlt]) i' hi'
    unfold spl at e
    by_cases h1 : i' < j
    · rw [List.getElem?_append_left (by simp [length_ofS]; omega), List.getElem?_take_of_lt h1] at e
      obtain ⟨_, e2⟩ := get_ofS e
      injection e2 with e2
      refine ⟨u0, ?_, by rw [e2]; exact m0⟩
      rw [List.append_assoc, List.getElem?_append_left (by omega), List.getElem?_take_of_lt (by omega)]
      exact h0
    · by_cases h2 : i' < j + c.length
      · rw [List.getElem?_append_right (by simp [length_ofS]; omega), List.getElem?_append_left (by simp [length_ofS]; omega)] at e
        simp only [List.length_take, length_ofS] at e
        rw [show min j k = j by omega] at e
        obtain ⟨u, hu, hmu⟩ := hc.get e
        refine ⟨u, ?_, hmu⟩
        rw [List.append_assoc, List.getElem?_append_right (by omega), List.getElem?_append_left (by omega), htl]
        rw [show j' * k + i' - (j' * k + j) = i' - j by omega]
        exact hu
      · rw [List.getElem?_append_right (by simp [length_ofS]; omega), List.getElem?_append_right (by simp [length_ofS]; omega)] at e
        simp only [List.length_take, length_ofS, List.getElem?_drop] at e
        rw [show min j k = j by omega, show j + c.length + (i' - j - c.length) = i' by omega] at e
        obtain ⟨_, e2⟩ := get_ofS e
        injection e2 with e2
        refine ⟨u0, ?_, by rw [e2]; exact m0⟩
        rw [List.append_assoc, List.getElem?_append_right (by omega), List.getElem?_append_right (by omega), List.getElem?_drop, htl]
        rw [show j' * k + j + us.length + (j' * k + i' - (j' * k + j) - us.length) = j' * k + i' by omega]
        exact h0
  · rw [List.getElem?_set_ne (Ne.symm hj)] at hx'
    obtain ⟨u, h0, m0⟩ := hm j' x' hx' i' hi'
    refine ⟨u, ?_, m0⟩
    by_cases hlt' : j' < i
    · have : (j' + 1) * k ≤ i * k := Nat.mul_le_mul_right _ hlt'
      rw [Nat.add_mul] at this
      rw [List.append_assoc, List.getElem?_append_left (by omega), List.getElem?_take_of_lt (by omega)]
      exact h0
    · have : (i + 1) * k ≤ j' * k := Nat.mul_le_mul_right _ (by omega)
      rw [Nat.add_mul] at this
      rw [List.append_assoc, List.getElem?_append_right (by omega), List.getElem?_append_right (by omega), List.getElem?_drop, htl]
      rw [show i * k + j + us.length + (j' * k + i' - (i * k + j) - us.length) = j' * k + i' by omega]
      exact h0

theorem store_elem {P : Program} {Γ w} {T : TypeId} {inf : TypeInfo} {id i j : Nat} {o o' : AObj} {c : List AC} {v : Value} (hh : HeapOk Γ (ofH [(id, o)]) w) (hi : P.info? T = some inf)
    (hm : MCs Γ w c v.cells.toList) (hs : c.length = inf.size) (hle : j + inf.size ≤ o.width) (hc : StoreC i j c o o') :
    ∃ w', (Instr.storeAt T (.pointer (some ⟨Γ.ρ id, i * o.width + j, none⟩)) v).run P w = Result.ok () w' ∧ Post Γ (ofH [(id, o)]) w Γ [(id, o')] w' := by
  have ho : ofH [(id, o)] id = some o := ofH_one.2 ⟨rfl, rfl⟩
  have hvl := hm.length
  have hobj := hh.objs id _ ho
  have hk : ∀ cs b, b ≠ Γ.ρ id → (w.setRow (Γ.ρ id) cs).heap[b]? = w.heap[b]? := fun cs b hb => setRow_other w _ b _ hb
  cases o with
  | grow T' k α d row l =>
    obtain ⟨x, rfl, hlt, hsp⟩ := hc
    rcases hobj with ⟨_, rfl⟩ | ⟨cap, cur, hη, hb, hlc, hcm, hcs, hmm⟩
    · simp at hlt
    have hfp : fp Γ id (.grow T' k α d row l) (Γ.ρ id) := ⟨rfl, by rw [hη]; simp⟩
    have hnI := (hh.lt id _ _ ho hfp).2
    simp only [AObj.width] at hle ⊢
    have hik : (i + 1) * k ≤ l.length * k := Nat.mul_le_mul_right _ hlt
    have hlk : l.length * k ≤ cur.size := by rw [hcs]; exact Nat.mul_le_mul_right _ hlc
    rw [Nat.add_mul] at hik
    refine ⟨_, run_store (T := T) hi (by rw [← Array.length_toList]; omega) hm.one hb (by omega), ?_⟩
    refine upd_post hh rfl rfl rfl (by rw [setRow_size]; exact Nat.le_refl _) (fun b hb => hk _ b (hb _ hfp)) (fun b hb => hb)
      (.inr ⟨cap, _, by rw [List.length_set]; exact hη, setRow_heap w _ _ _ _ _ hb, by rw [List.length_set]; exact hlc, hcm, ?_, ?_⟩)
    · simp only [List.size_toArray, List.length_append, List.length_take, List.length_drop, Array.length_toList] at hvl ⊢
      omega
    · intro j' x' hx' i' hi'
      obtain ⟨u, h1, h2⟩ := elem_cells (cur := cur.toList) hlt hm (by omega) (by simpa using hlk) (by simpa using hmm) hsp j' x' hx' i' hi'
      exact ⟨u, by simpa using h1, MS.mono (fun b hb => hb) (fun b hb => hk _ b fun e => hnI (e ▸ hb)) h2⟩
  | arr k n α d row l =>
    obtain ⟨x, rfl, hlt, hsp⟩ := hc
    obtain ⟨cur, T', hb, hln, hcs, hmm⟩ := hobj
    have hfp : fp Γ id (.arr k n α d row l) (Γ.ρ id) := ⟨rfl, trivial⟩
    have hnI := (hh.lt id _ _ ho hfp).2
    simp only [AObj.width] at hle ⊢
    have hik : (i + 1) * k ≤ l.length * k := Nat.mul_le_mul_right _ hlt
    have hlk : l.length * k = cur.size := by rw [hcs, hln]
    rw [Nat.add_mul] at hik
    refine ⟨_, run_store (T := T) hi (by rw [← Array.length_toList]; omega) hm.one hb (by omega), ?_⟩
    refine upd_post hh rfl rfl rfl (by rw [setRow_size]; exact Nat.le_refl _) (fun b hb => hk _ b (hb _ hfp)) (fun b hb => hb)
      ⟨_, T', setRow_heap w _ _ _ _ _ hb, by rw [List.length_set]; exact hln, ?_, ?_⟩
    · simp only [List.size_toArray, List.length_append, List.length_take, List.length_drop, Array.length_toList] at hvl ⊢
      omega
    · intro j' x' hx' i' hi'
      obtain ⟨u, h1, h2⟩ := elem_cells (cur := cur.toList) hlt hm (by omega) (by simp; omega) (by simpa using hmm) hsp j' x' hx' i' hi'
      exact ⟨u, by simpa using h1, MS.mono (fun b hb => hb) (fun b hb => hk _ b fun e => hnI (e ▸ hb)) h2⟩
  | row cells => exact hc.elim
  | iter s p => exact hc.elim
  | hole T' k α d row l i0 e =>
    obtain ⟨e', rfl, rfl, rfl, rfl⟩ := hc
    obtain ⟨cap, cur, hη, hb, hlc, hcm, hcs, ⟨hz, _⟩, hmm⟩ := hobj
    have hfp : fp Γ id (.hole T' k α d row l i e) (Γ.ρ id) := ⟨rfl, trivial⟩
    have hnI := (hh.lt id _ _ ho hfp).2
    have hlt : i * k < cur.size := (Array.getElem?_eq_some_iff.1 hz).1
    obtain ⟨u, hu⟩ : ∃ u, v.cells.toList = [u] := List.length_eq_one_iff.1 hvl
    have hm1 : u = Γ.η e' ∧ u.oneCell' = true := by rw [hu] at hm; exact hm.1
    have hlen : v.cells.toList.length = 1 := hvl
    have hs1 : 1 = inf.size := hs
    simp only [AObj.width] at hle ⊢
    refine ⟨_, run_store (T := T) hi (by rw [← Array.length_toList]; omega) hm.one hb (by omega), ?_⟩
    refine upd_post hh rfl rfl rfl (by rw [setRow_size]; exact Nat.le_refl _) (fun b hb => hk _ b (hb _ hfp)) (fun b hb => hb)
      ⟨cap, _, hη, setRow_heap w _ _ _ _ _ hb, hlc, hcm, ?_, ⟨?_, hm1.1 ▸ hm1.2⟩, ?_⟩
    · simp only [List.size_toArray, List.length_append, List.length_take, List.length_drop, Array.length_toList] at hlen ⊢
      omega
    · rw [hu, ← hm1.1]
      simp only [List.getElem?_toArray, Nat.add_zero]
      have ht : (cur.toList.take (i * k)).length = i * k := by simp; omega
      rw [List.append_assoc, List.getElem?_append_right (by omega), ht, Nat.sub_self]
      rfl
    · intro j' x' hx' c' hc' hn'
      obtain ⟨u', h1, h2⟩ := hmm j' x' hx' c' hc' hn'
      refine ⟨u', ?_, MS.mono (fun b hb => hb) (fun b hb => hk _ b fun e => hnI (e ▸ hb)) h2⟩
      have hne := hole_ne hc' hn'
      rw [hu]
      simp only [List.getElem?_toArray, Nat.add_zero, List.length_cons, List.length_nil]
      by_cases hq : j' * k + c' < i * k
      · rw [List.append_assoc, List.getElem?_append_left (by simp; omega), List.getElem?_take_of_lt hq, Array.getElem?_toList]
        exact h1
      · rw [List.getElem?_append_right (by simp; omega)]
        simp only [List.length_append, List.length_take, Array.length_toList, List.length_cons, List.length_nil, List.getElem?_drop]
        rw [show i * k + (0 + 1) + (j' * k + c' - (min (i * k) cur.size + (0 + 1))) = j' * k + c' by omega, Array.getElem?_toList]
        exact h1
end AL
namespace AL
open Go
set_option linter.unusedVariables false

def rowU8 (b : UInt8) (_ : Nat) : SC := .int .u8 b.toNat

/-- What an effect comes to: what is asked; the value; the owned objects ahead of it (some were given up); those that it uses up or writes; those that it leaves. -/
structure Eff where
  conds : List Prop
  res : AV
  obj : Nat → Option AObj
  hin : List (Nat × AObj)
  new : List (Nat × AObj)

def zeroCellsOf (P : Program) (T : TypeId) : Option (List AC) :=
  match P.info? T with
  | some i =>
    match i.zero with
    | some z => if liftsOk z.cells.toList && decide (z.cells.size = i.size) then some (z.cells.toList.map fun v => .s (liftS v)) else none
    | none => none
  | none => none

/-- The object that a new block of cells is told to be. -/
def evNew (obj : Nat → Option AObj) (dst : Option Tmp) (cells : List AC) (ce : Option CE) : Option Eff :=
  match dst with
  | some d =>
    if acsHas d cells then none else
    match ce with
    | none => some ⟨[], .t (.c (.ptr d 0)), obj, [], [(d, .row cells)]⟩
    | some (.obj (.arr k n α dd row l)) => some ⟨[flat k row l = cells, l.length = n], .t (.c (.ptr d 0)), obj, [], [(d, .arr k n α dd row l)]⟩
    | _ => none
  | none => none

/-- The cells that are appended, and how many elements: of an owned slice, a shared one, a text, nil. -/
def evSrc (obj : Nat → Option AObj) (k : Nat) (v : AV) : Option (List AC × Nat) :=
  match v with
  | .t (.c (.s (.sl k' α d row l))) => if k' = k then some (flat k row l, l.length) else none
  | .t (.c (.own id)) => match obj id with
    | some (.grow _ k' α d row l) => if k' = k then some (flat k row l, l.length) else none
    | _ => none
  | .t (.c (.s .nilsl)) => some ([], 0)
  | .t (.c (.s (.str s))) => if k = 1 then some (flat 1 rowU8 s, s.length) else none
  | _ => none

def AppC (cells : List AC) (n : Nat) (bytes : Nat) : AObj → AObj → Prop
  | .grow T k α d row l, o => ∃ xs : List α, o = .grow T k α d row (l ++ xs) ∧ xs.length = n ∧ flat k row xs = cells ∧ (l.length + n) * bytes ≤ 140737488355328 ∧ l.length + n ≤ maxLen
  | _, _ => False

def nilObj : AObj → AObj
  | .grow T k α d row _ => .grow T k α d row []
  | o => o

def growFits (o : AObj) (e k : Nat) : Bool :=
  match o with
  | .grow T k' _ _ _ _ => Nat.beq T e && (Nat.beq k' k && Nat.blt 0 k)
  | _ => false

def notIntD : TypeDesc → Bool
  | .int _ => false
  | _ => true

def appOk (du : TypeDesc) (o : AObj) (e : TypeId) (i : TypeInfo) : Bool :=
  notIntD du && (growFits o e i.size && (match i.zero with | some z => decide (z.cells.size = i.size) | none => false))

def evAppend (P : Program) (obj : Nat → Option AObj) (dst : Option Tmp) (t u : TypeId) (s x : AV) (ce : Option CE) : Option Eff :=
  match dst, P.underlying t, P.underlying u, ce with
  | some d, some (.slice e), some du, some (.obj o) =>
    match P.info? e with
    | some i =>
      if appOk du o e i = false then none else
      match evSrc obj i.size x with
      | some (cells, n) =>
        match s with
        | .t (.c (.s .nilsl)) => some ⟨[AppC cells n i.bytes (nilObj o) o], .t (.c (.own d)), obj, [], [(d, o)]⟩
        | .t (.c (.own id)) => match obj id with
          | some (.grow T k α dd row l) => if Nat.beq T e && (Nat.beq k i.size && !(Nat.beq id d)) then some ⟨[AppC cells n i.bytes (.grow T k α dd row l) o], .t (.c (.own d)), obj, [(id, .grow T k α dd row l)], [(d, o)]⟩ else none
          | _ => none
        | _ => none
      | none => none
    | none => none
  | _, _, _, _ => none

theorem lenOf_src {P : Program} {Γ : Ctx} {obj : Nat → Option AObj} {w : World} {k : Nat} {x : AV} {vx : Value} {cells : List AC} {n : Nat} (hh : HeapOk Γ obj w) (h : evSrc obj k x = some (cells, n)) (hv : MV Γ obj w x vx) :
    (∀ w', (Builtin.lenOf vx).run P w' = Result.ok n w') ∧ ∃ news : List Value, MCs Γ w cells news ∧ news.length = n * k ∧ ∀ w', w'.heap = w.heap → (Builtin.firstCells k n vx).run P w' = Result.ok news.toArray w' := by
  unfold evSrc at h
  split at h
  · rename_i k' α d row l
    split at h
    · rename_i hk
      subst hk
      simp only [Option.some.injEq, Prod.mk.injEq] at h
      obtain ⟨rfl, rfl⟩ := h
      obtain ⟨a, cap, rfl, _, _, hl⟩ := hv
      refine ⟨fun w' => rfl, ?_⟩
      rcases hl with ⟨rfl, _⟩ | ⟨b, off, rfl, hb, hm⟩
      · refine ⟨[], trivial, by simp, fun w' hw' => ?_⟩
        cases a <;> simp [Builtin.firstCells, loadCells, loadCellsFrom]
      · have : ∃ vs : List Value, vs.length = l.length * k' ∧ ∀ j x, l[j]? = some x → ∀ i, i < k' → ∃ u, vs[j * k' + i]? = some u ∧ w.cell? ⟨b, off + j * k' + i, none⟩ = some u ∧ MS Γ.I w (row x i) u := by
          refine ⟨(List.range (l.length * k')).map fun q => (w.cell? ⟨b, off + q, none⟩).getD undef, by simp, fun j x hx i hi => ?_⟩
          obtain ⟨u, h1, h2⟩ := hm j x hx i hi
          have hj : j < l.length := (List.getElem?_eq_some_iff.1 hx).1
          have : (j + 1) * k' ≤ l.length * k' := Nat.mul_le_mul_right _ hj
          rw [Nat.add_mul] at this
          refine ⟨u, ?_, h1, h2⟩
          rw [List.getElem?_map, List.getElem?_range (by omega)]
          simp only [Option.map_some]
          rw [← Nat.add_assoc, h1]; rfl
        obtain ⟨vs, h1, h2⟩ := this
        refine ⟨vs, mk_flat k' row l vs h1 fun j x hx i hi => by obtain ⟨u, g1, _, g3⟩ := h2 j x hx i hi; exact ⟨u, g1, g3⟩, h1, fun w' hw' => ?_⟩
        refine run_firstCells_some w' k' l.length _ _ _ vs h1 fun j v hj => ?_
        have hjl : j < l.length * k' := by rw [← h1]; exact (List.getElem?_eq_some_iff.1 hj).1
        have hk0 : 0 < k' := by
          rcases Nat.eq_zero_or_pos k' with h0 | h0
          · subst h0; simp at hjl
          · exact h0
        have hdiv : j / k' < l.length := (Nat.div_lt_iff_lt_mul hk0).2 hjl
        obtain ⟨u, g1, g2, _⟩ := h2 (j / k') _ (List.getElem?_eq_getElem hdiv) (j % k') (Nat.mod_lt _ hk0)
        rw [Nat.add_assoc] at g2
        have e : j / k' * k' + j % k' = j := by rw [Nat.mul_comm]; exact Nat.div_add_mod j k'
        rw [e] at g1 g2
        rw [hj] at g1; cases g1
        rw [add_mk]
        unfold World.cell? at g2 ⊢
        rw [hw']; exact g2
    · cases h
  · rename_i id
    split at h
    · rename_i T k' α d row l hob
      split at h
      · rename_i hk
        subst hk
        simp only [Option.some.injEq, Prod.mk.injEq] at h
        obtain ⟨rfl, rfl⟩ := h
        obtain ⟨rfl, _⟩ := hv
        rcases hh.objs id _ hob with ⟨hη, rfl⟩ | ⟨cap, cur, hη, hb, hlc, hcm, hcs, hmm⟩
        · rw [hη]
          exact ⟨fun w' => rfl, [], trivial, by simp, fun w' hw' => by simp [Builtin.firstCells]⟩
        · rw [hη]
          have hlk : l.length * k' ≤ cur.size := by rw [hcs]; exact Nat.mul_le_mul_right _ hlc
          refine ⟨fun w' => rfl, cur.toList.take (l.length * k'), ?_, by simp; omega, fun w' hw' => ?_⟩
          · refine mk_flat k' row l _ (by simp; omega) fun j x hx i hi => ?_
            obtain ⟨u, h1, h2⟩ := hmm j x hx i hi
            have hj : j < l.length := (List.getElem?_eq_some_iff.1 hx).1
            have : (j + 1) * k' ≤ l.length * k' := Nat.mul_le_mul_right _ hj
            rw [Nat.add_mul] at this
            exact ⟨u, by rw [List.getElem?_take_of_lt (by omega), Array.getElem?_toList]; exact h1, h2⟩
          · refine run_firstCells_some w' k' l.length _ _ _ _ (by simp; omega) fun j v hj => ?_
            rw [add_mk, Nat.zero_add]
            have hb' : w'.heap[Γ.ρ id]? = some (.cells cur T (0, 0)) := by rw [hw']; exact hb
            rw [cell_of_heap hb']
            by_cases hjs : j < l.length * k'
            · rw [List.getElem?_take_of_lt hjs, Array.getElem?_toList] at hj; exact hj
            · rw [List.getElem?_take, if_neg hjs] at hj; cases hj
      · cases h
    · cases h
  · simp only [Option.some.injEq, Prod.mk.injEq] at h
    obtain ⟨rfl, rfl⟩ := h
    obtain rfl : vx = .slice none 0 0 := hv
    exact ⟨fun w' => rfl, [], trivial, by simp, fun w' hw' => by simp [Builtin.firstCells]⟩
  · rename_i s
    split at h
    · rename_i hk
      subst hk
      simp only [Option.some.injEq, Prod.mk.injEq] at h
      obtain ⟨rfl, rfl⟩ := h
      obtain ⟨rfl, _⟩ := hv
      refine ⟨fun w' => by simp [Builtin.lenOf, size_ba], Lib.strCells (ba s), ?_, by rw [Lib.strCells_length, size_ba]; simp, fun w' _ => by rw [← size_ba]; exact Lib.run_firstCells_string w' 1 (ba s)⟩
      refine mk_flat 1 rowU8 s _ (by rw [Lib.strCells_length, size_ba]; simp) fun j x hx i hi => ?_
      have hi0 : i = 0 := by omega
      subst hi0
      refine ⟨.int .u8 x.toNat, by simp [Lib.strCells, ba, hx], rfl, ?_⟩
      have := UInt8.toNat_lt x
      simp [InR, IntKind.min, IntKind.max, IntKind.signed, IntKind.bits]; omega
    · cases h
  · cases h

theorem append_ok {P : Program} {Γ : Ctx} {obj : Nat → Option AObj} {w : World} {dst t u ty s x ce f vs vx} (hh : HeapOk Γ obj w) (h : evAppend P obj dst t u s x ce = some f) (hs : MV Γ obj w s vs) (hx : MV Γ obj w x vx) (hc : allP f.conds) :
    f.obj = obj ∧ (∀ id o, ofH f.hin id = some o → obj id = some o) ∧ plainV f.res = true ∧
    ∃ v w' Γ', (Builtin.append_ #[t, u] ty #[vs, vx]).run P w = Result.ok v w' ∧ Post Γ (ofH f.hin) w Γ' f.new w' ∧ MV Γ' (ofH f.new) w' f.res v := by
  unfold evAppend at h
  split at h
  · rename_i d e du o hu1 hu2
    split at h
    · rename_i i hi
      split at h
      · cases h
      · rename_i hcond
        simp only [Bool.not_eq_false, appOk, Bool.and_eq_true] at hcond
        obtain ⟨hdu, hgf, hz⟩ := hcond
        have hdu' : ∀ k, du ≠ .int k := fun k hk => by subst hk; cases hdu
        cases hzz : i.zero with
        | none => simp [hzz] at hz
        | some z =>
        have hzs : z.cells.size = i.size := by simpa [hzz] using hz
        split at h
        · rename_i cells n hsrc
          obtain ⟨hlen, news, hm, hnl, hfc⟩ := lenOf_src (P := P) hh hsrc hx
          split at h
          · simp only [Option.some.injEq] at h
            subst h
            obtain rfl : vs = .slice none 0 0 := hs
            refine ⟨rfl, fun _ _ h => (by cases h), rfl, ?_⟩
            cases o with
            | grow T k α dd row l =>
              obtain ⟨xs, heq, hxl, hfl, hfit, h63⟩ := hc
              simp only [growFits, Bool.and_eq_true] at hgf
              have hT := Nat.eq_of_beq_eq_true hgf.1
              have hk := Nat.eq_of_beq_eq_true hgf.2.1
              have hk0 : 0 < i.size := Nat.lt_of_lt_of_le Nat.zero_lt_one (Nat.le_of_ble_eq_true hgf.2.2)
              subst hT hk
              simp only [List.nil_append, AObj.grow.injEq, heq_eq_eq, true_and] at heq
              subst heq
              subst hxl
              obtain ⟨v, w', g, h1, h2, h3⟩ := append_post (ty := ty) (d := d) (s := .slice none 0 0) (l := []) (xs := l) (dd := dd) (heap0 hh) rfl (.inl ⟨rfl, rfl⟩) hu1 hu2 hdu' hi hzz hzs rfl hk0 hlen hfc (by rw [hfl]; exact hm) (by simpa using hfit) (by simpa using h63)
              rw [List.nil_append] at h2
              exact ⟨v, w', _, h1, h2, by simp only [MV, MT, MC, mk_η]; exact ⟨trivial, h3⟩⟩
            | _ => simp [growFits] at hgf
          · rename_i id
            split at h
            · rename_i T k α dd row l hob
              split at h
              · rename_i hcc
                simp only [Bool.and_eq_true] at hcc
                have hT := Nat.eq_of_beq_eq_true hcc.1
                have hk := Nat.eq_of_beq_eq_true hcc.2.1
                have hne : id ≠ d := fun e => by subst e; simp [Nat.beq_refl] at hcc
                subst hT hk
                simp only [Option.some.injEq] at h
                subst h
                obtain ⟨rfl, _⟩ := hs
                have hsub : ∀ id' o', ofH [(id, AObj.grow T i.size α dd row l)] id' = some o' → obj id' = some o' := fun id' o' h => by obtain ⟨rfl, rfl⟩ := ofH_one.1 h; exact hob
                refine ⟨rfl, hsub, rfl, ?_⟩
                obtain ⟨xs, heq, hxl, hfl, hfit, h63⟩ := hc
                subst heq
                subst hxl
                simp only [growFits, Bool.and_eq_true] at hgf
                have hk0 : 0 < i.size := Nat.lt_of_lt_of_le Nat.zero_lt_one (Nat.le_of_ble_eq_true hgf.2.2)
                have hd : ofH [(id, AObj.grow T i.size α dd row l)] d = none := by
                  simp only [ofH, H0]; rw [beq_false (Ne.symm hne)]; rfl
                obtain ⟨v, w', g, h1, h2, h3⟩ := append_post (ty := ty) (d := d) (s := Γ.η id) (l := l) (xs := xs) (dd := dd) (heap_sub hh hsub) hd (.inr ⟨id, ofH_one.2 ⟨rfl, rfl⟩, rfl⟩) hu1 hu2 hdu' hi hzz hzs rfl hk0 hlen hfc (by rw [hfl]; exact hm) hfit h63
                exact ⟨v, w', _, h1, h2, by simp only [MV, MT, MC, mk_η]; exact ⟨trivial, h3⟩⟩
              · cases h
            · cases h
          · cases h
        · cases h
    · cases h
  · cases h
end AL
namespace AL
open Go
set_option linter.unusedVariables false

/-- What a step with an effect leaves. -/
def EffOk (P : Program) (Γ : Ctx) (obj : Nat → Option AObj) (w : World) (f : Eff) (run : Result Value) : Prop :=
  f.obj = obj ∧ (∀ id o, ofH f.hin id = some o → obj id = some o) ∧ plainV f.res = true ∧
    ∃ v w' Γ', run = Result.ok v w' ∧ Post Γ (ofH f.hin) w Γ' f.new w' ∧ MV Γ' (ofH f.new) w' f.res v

theorem new_ok {P : Program} {Γ : Ctx} {obj : Nat → Option AObj} {w : World} {dst cells ce f} {T : TypeId} {cs : Array Value} (hh : HeapOk Γ obj w) (h : evNew obj dst cells ce = some f) (hm : MCs Γ w cells cs.toList) (hc : allP f.conds) :
    EffOk P Γ obj w f (Result.ok (.pointer (some ⟨w.heap.size, 0, none⟩)) (w.alloc (.cells cs T))) := by
  unfold evNew at h
  split at h
  · rename_i d
    split at h
    · cases h
    · rename_i hd
      have hd : acsHas d cells = false := by simpa using hd
      split at h
      · cases h
        exact ⟨rfl, fun _ _ h => (by cases h), rfl, _, _, _, rfl, alloc_row (heap0 hh) hm hd, by simp only [MV, MT, MC, mk_ρ]⟩
      · rename_i k n α dd row l
        cases h
        obtain ⟨hfl, hln⟩ := hc
        have hfl : flat k row l = cells := hfl
        have hln : l.length = n := hln
        have h0 := heap0 hh
        have hlen := hm.length
        rw [← hfl, length_flat, Array.length_toList] at hlen
        refine ⟨rfl, fun _ _ h => (by cases h), rfl, _, _, mkΓ Γ d w.heap.size undef, rfl, ?_, by simp only [MV, MT, MC, mk_ρ]⟩
        refine new_post h0 rfl rfl rfl rfl (by rw [alloc_size]; omega) (fun b hb => alloc_old w _ hb.1) ?_ fun b hb => ?_
        · refine ⟨cs, T, by rw [mk_ρ]; exact alloc_new w _, hln, by rw [← hln]; exact hlen, fun j x hx i hi => ?_⟩
          rw [← hfl] at hm
          obtain ⟨u, hu, hmu⟩ := get_flat k row l _ hm j x hx i hi
          exact ⟨u, by simpa using hu, MS.mono (fun b hb => hb) (fun b hb => alloc_old w _ (hh.ilt b hb)) hmu⟩
        · obtain ⟨h1, _⟩ := hb
          rw [mk_ρ] at h1
          subst h1
          exact ⟨by rw [alloc_size]; omega, fun hi => by have := hh.ilt _ hi; omega, fun hp => by have := hp.1; omega⟩
      · cases h
  · cases h

theorem zero_ok {P : Program} {T : TypeId} {cells : List AC} (h : zeroCellsOf P T = some cells) : ∃ i z, P.info? T = some i ∧ i.zero = some z ∧ z.cells.size = i.size ∧ ∀ Γ w, MCs Γ w cells z.cells.toList := by
  unfold zeroCellsOf at h
  split at h
  · rename_i i hi
    split at h
    · rename_i z hz
      split at h
      · rename_i hc
        simp only [Bool.and_eq_true, decide_eq_true_eq] at hc
        cases h
        exact ⟨i, z, hi, hz, hc.2, fun Γ w => liftsOk_ok _ hc.1⟩
      · cases h
    · cases h
  · cases h

/-- 'alloc'. -/
def evAlloc (P : Program) (obj : Nat → Option AObj) (dst : Option Tmp) (T : TypeId) (ce : Option CE) : Option Eff :=
  match zeroCellsOf P T with
  | some cells => evNew obj dst cells ce
  | none => none

theorem alloc_ok {P : Program} {Γ : Ctx} {obj w dst T ce f} (hh : HeapOk Γ obj w) (h : evAlloc P obj dst T ce = some f) (hc : allP f.conds) : EffOk P Γ obj w f ((Instr.alloc T true (.tuple #[])).run P w) := by
  unfold evAlloc at h
  split at h
  · rename_i cells hz
    obtain ⟨i, z, hi, hzz, _, hm⟩ := zero_ok hz
    have : (Instr.alloc T true (.tuple #[])).run P w = Result.ok (.pointer (some ⟨w.heap.size, 0, none⟩)) (w.alloc (.cells z.cells T)) := by
      simp [Instr.alloc, zeroValue, typeInfo, hi, hzz, newVar, newRow]
    rw [this]
    exact new_ok hh h (hm Γ w) hc
  · cases h

/-- 'box'. -/
def evBox (obj : Nat → Option AObj) (dst : Option Tmp) (x : AV) (ce : Option CE) : Option Eff :=
  match x with
  | .t (.arr k n α dd row l) => match dst with
    | some d => some ⟨[], .t (.c (.ptr d 0)), obj, [], [(d, .arr k n α dd row l)]⟩
    | none => none
  | x => match cellsA x with
    | some cells => evNew obj dst cells ce
    | none => none

theorem box_ok {P : Program} {Γ : Ctx} {obj w dst T x v ce f} (hh : HeapOk Γ obj w) (h : evBox obj dst x ce = some f) (hx : MV Γ obj w x v) (hc : allP f.conds) : EffOk P Γ obj w f ((Instr.box T v).run P w) := by
  have hr : (Instr.box T v).run P w = Result.ok (.pointer (some ⟨w.heap.size, 0, none⟩)) (w.alloc (.cells v.cells T)) := by
    simp [Instr.box, newVar, newRow]
  rw [hr]
  unfold evBox at h
  split at h
  · rename_i k n α dd row l
    split at h
    · rename_i d
      cases h
      obtain ⟨cs, rfl, hl, hs, hm⟩ := hx
      refine ⟨rfl, fun _ _ h => (by cases h), rfl, _, _, mkΓ Γ d w.heap.size undef, rfl, ?_, by simp only [MV, MT, MC, mk_ρ]⟩
      refine new_post (heap0 hh) rfl rfl rfl rfl (by rw [alloc_size]; omega) (fun b hb => alloc_old w _ hb.1) ?_ fun b hb => ?_
      · refine ⟨cs, T, by rw [mk_ρ]; exact alloc_new w _, hl, hs, fun j x hx i hi => ?_⟩
        obtain ⟨u, hu, hmu⟩ := hm j x hx i hi
        exact ⟨u, hu, MS.mono (fun b hb => hb) (fun b hb => alloc_old w _ (hh.ilt b hb)) hmu⟩
      · obtain ⟨h1, _⟩ := hb
        rw [mk_ρ] at h1
        subst h1
        exact ⟨by rw [alloc_size]; omega, fun hi => by have := hh.ilt _ hi; omega, fun hp => by have := hp.1; omega⟩
    · cases h
  · split at h
    · rename_i cells hcl
      exact new_ok hh h (cellsA_ok hcl hx) hc
    · cases h

/-- 'buildSlice'. -/
def evBuildSlice (P : Program) (obj : Nat → Option AObj) (dst : Option Tmp) (T : TypeId) (len : Nat) (parts : List (Nat × AV)) (ce : Option CE) : Option Eff :=
  match dst, P.underlying T, ce with
  | some d, some (.slice e), some (.obj (.grow T' k α dd row l)) =>
    match P.info? e, zeroCellsOf P e with
    | some i, some zc =>
      if Nat.beq T' e && (Nat.beq k i.size && (Nat.blt 0 k && Nat.ble (len * k) 1000)) then
        match fillA (fun j => some (j * i.size, i.size)) ((List.replicate len zc).flatten) parts with
        | some cells => some ⟨[flat k row l = cells, l.length = len], .t (.c (.own d)), obj, [], [(d, .grow T' k α dd row l)]⟩
        | none => none
      else none
    | _, _ => none
  | _, _, _ => none

theorem rep_ok {Γ w} {zc : List AC} {z : List Value} (hm : MCs Γ w zc z) : ∀ n, MCs Γ w (List.replicate n zc).flatten (List.replicate n z).flatten
  | 0 => trivial
  | n + 1 => by simp only [List.replicate_succ, List.flatten_cons]; exact hm.append (rep_ok hm n)

theorem made_eq (z : Array Value) : ∀ n, ((Array.range (n * z.size)).map (z[· % z.size]!)).toList = (List.replicate n z.toList).flatten := by
  intro n
  apply List.ext_getElem?
  intro j
  by_cases hz : z.size = 0
  · have : z = #[] := Array.eq_empty_of_size_eq_zero hz
    subst this; simp
  · have hl : ((List.replicate n z.toList).flatten).length = n * z.size := by simp
    by_cases hj : j < n * z.size
    · have h1 : ((Array.range (n * z.size)).map (z[· % z.size]!)).toList[j]? = some (z[j % z.size]!) := by
        simp [hj]
      rw [h1]
      have hm : j % z.size < z.size := Nat.mod_lt _ (by omega)
      have : ∀ n j, j < n * z.size → (List.replicate n z.toList).flatten[j]? = some (z[j % z.size]!) := by
        intro n
        induction n with
        | zero => intro j hj; simp at hj
        | succ n ih =>
          intro j hj
          simp only [List.replicate_succ, List.flatten_cons]
          by_cases h : j < z.size
          · rw [List.getElem?_append_left (by simpa using h), Nat.mod_eq_of_lt h]
            simp [h]
          · rw [List.getElem?_append_right (by simpa using h)]
            have := ih (j - z.toList.length) (by simp; rw [Nat.add_mul] at hj; omega)
            rw [this]
            congr 2
            simp only [Array.length_toList]
            exact (Nat.mod_eq_sub_mod (by omega)).symm
      exact (this n j hj).symm
    · rw [List.getElem?_eq_none (by simp; omega), List.getElem?_eq_none (by rw [hl]; omega)]

theorem buildSlice_ok {P : Program} {Γ : Ctx} {obj w dst T len} {parts : List (Nat × AV)} {vp : List (Nat × Value)} {ce f} (hh : HeapOk Γ obj w) (h : evBuildSlice P obj dst T len parts ce = some f) (hv : MParts Γ obj w parts vp) (hc : allP f.conds) :
    EffOk P Γ obj w f ((Instr.buildSlice T len vp.toArray).run P w) := by
  unfold evBuildSlice at h
  split at h
  · rename_i d e T' k α dd row l hu
    split at h
    · rename_i i zc hi hz
      split at h
      · rename_i hcc
        simp only [Bool.and_eq_true] at hcc
        obtain ⟨h1, h2, h3, h4⟩ := hcc
        have e1 := Nat.eq_of_beq_eq_true h1
        have e2 := Nat.eq_of_beq_eq_true h2
        have hk0 : 0 < k := Nat.lt_of_lt_of_le Nat.zero_lt_one (Nat.le_of_ble_eq_true h3)
        have hle : len * k ≤ 1000 := Nat.le_of_ble_eq_true h4
        subst e1 e2
        split at h
        · rename_i cells hf
          cases h
          obtain ⟨hfl, hln⟩ := hc
          have hfl : flat i.size row l = cells := hfl
          have hln : l.length = len := hln
          obtain ⟨i', z, hi', hzz, hzs, hmz⟩ := zero_ok hz
          rw [hi] at hi'; cases hi'
          have hrep : MCs Γ w (List.replicate len zc).flatten ((Array.range (len * i.size)).map (z.cells[· % z.cells.size]!)).toList := by
            have := made_eq z.cells len
            rw [hzs] at this ⊢
            rw [this]
            exact rep_ok (hmz Γ w) len
          obtain ⟨cells', hf1, hf2⟩ := fill_ok _ parts vp _ _ _ hv hf hrep
          have hlen := hf2.length
          rw [← hfl, length_flat, Array.length_toList, hln] at hlen
          have hr : (Instr.buildSlice T len vp.toArray).run P w = Result.ok (.slice (some ⟨w.heap.size, 0, none⟩) len len) (w.alloc (.cells cells' T')) := by
            by_cases h0 : len * i.size = 0
            · have hl0 : len = 0 := by
                rcases Nat.mul_eq_zero.1 h0 with h | h
                · exact h
                · omega
              have hc0 : cells' = #[] := Array.eq_empty_of_size_eq_zero (by rw [hlen]; exact h0)
              have : vp = [] := by
                cases vp with
                | nil => rfl
                | cons p vp =>
                  cases parts with
                  | nil => exact hv.elim
                  | cons q parts =>
                    exfalso
                    unfold fillA at hf
                    split at hf
                    · rename_i off size l' e1 e2
                      split at hf
                      · rename_i hle'
                        simp only [Option.some.injEq, Prod.mk.injEq] at e1
                        have := hle'.2
                        simp [hl0] at this
                        omega
                      · cases hf
                    · cases hf
              subst this hc0 hl0
              have hr0 : ∀ f : Nat → Value, Array.map f (Array.range 0) = #[] := fun f => Array.eq_empty_of_size_eq_zero (by simp)
              simp [Instr.buildSlice, run_underlying hu, run_sizeOf' hi, Instr.fill, newRow, hr0]
            · have hle' : ¬ (len * i.size > 2 ^ 24) := by omega
              exact run_buildSlice w T T' len vp.toArray cells' i z hu hi hzz hle' h0 (by simpa using hf1)
          rw [hr]
          refine ⟨rfl, fun _ _ h => (by cases h), rfl, _, _, _, rfl, alloc_grow (k := i.size) (cap := len) (dd := dd) (row := row) (l := l) (heap0 hh) rfl rfl rfl rfl hlen (by omega) (by simp only [maxLen]; have : len ≤ len * i.size := Nat.le_mul_of_pos_right _ hk0; omega) fun j x hx i' hi' => ?_, ?_⟩
          · rw [← hfl] at hf2
            obtain ⟨u, hu, hmu⟩ := get_flat i.size row l _ hf2 j x hx i' hi'
            exact ⟨u, by simpa using hu, hmu⟩
          · simp only [MV, MT, MC, mk_η]
            exact ⟨by rw [hln], rfl⟩
        · cases h
      · cases h
    · cases h
  · cases h

/-- 'makeSlice': all elements zero. -/
def MakeC (n : Nat) (zc : List AC) : AObj → Prop
  | .grow _ k α _ row l => ∃ z : α, l = List.replicate n z ∧ ofS k (row z) = zc
  | _ => False

def evMakeSlice (P : Program) (obj : Nat → Option AObj) (dst : Option Tmp) (T : TypeId) (len cap : AV) (ce : Option CE) : Option Eff :=
  match dst, P.underlying T, ce with
  | some d, some (.slice e), some (.obj (.grow T' k α dd row l)) =>
    match P.info? e, zeroCellsOf P e, len, cap with
    | some i, some zc, .t (.c (.s (.int _ n))), .t (.c (.s (.int _ c))) =>
      if Nat.beq T' e && Nat.beq k i.size then
        some ⟨[0 ≤ n, n ≤ c, (i.bytes : Int) * c ≤ 281474976710656, c ≤ 9223372036854775807, MakeC n.toNat zc (.grow T' k α dd row l)], .t (.c (.own d)), obj, [], [(d, .grow T' k α dd row l)]⟩
      else none
    | _, _, _, _ => none
  | _, _, _ => none

theorem makeSlice_ok {P : Program} {Γ : Ctx} {obj w dst T len cap vl vc ce f} (hh : HeapOk Γ obj w) (h : evMakeSlice P obj dst T len cap ce = some f) (hl : MV Γ obj w len vl) (hcp : MV Γ obj w cap vc) (hc : allP f.conds) :
    EffOk P Γ obj w f ((Instr.makeSlice T vl vc).run P w) := by
  unfold evMakeSlice at h
  split at h
  · rename_i d e T' k α dd row l hu
    split at h
    · rename_i i zc k1 n k2 c hi hz
      split at h
      · rename_i hcc
        simp only [Bool.and_eq_true] at hcc
        have e1 := Nat.eq_of_beq_eq_true hcc.1
        have e2 := Nat.eq_of_beq_eq_true hcc.2
        subst e1 e2
        cases h
        obtain ⟨h0, h1, h2, h3, x, h4, h5⟩ := hc
        have h0 : 0 ≤ n := h0
        have h1 : n ≤ c := h1
        have h2 : (i.bytes : Int) * c ≤ 281474976710656 := h2
        have h3 : c ≤ 9223372036854775807 := h3
        obtain ⟨rfl, _⟩ := hl
        obtain ⟨rfl, _⟩ := hcp
        obtain ⟨i', z, hi', hzz, hzs, hmz⟩ := zero_ok hz
        rw [hi] at hi'; cases hi'
        have hr := run_make (P := P) w T T' i z hu hi hzz k1 k2 n c h0 h1 h2 h3
        rw [hr]
        have hln : l.length = n.toNat := by rw [h4]; simp
        refine ⟨rfl, fun _ _ h => (by cases h), rfl, _, _, _, rfl, alloc_grow (k := i.size) (cap := c.toNat) (dd := dd) (row := row) (l := l) (heap0 hh) rfl rfl rfl rfl (by simp [madeCells]) (by omega) (by simp only [maxLen]; omega) fun j y hy i' hi' => ?_, ?_⟩
        · have hy' : y = x := by
            rw [h4] at hy
            rw [List.getElem?_replicate] at hy
            split at hy
            · cases hy; rfl
            · cases hy
          subst hy'
          have hj : j < l.length := (List.getElem?_eq_some_iff.1 hy).1
          have hmm := hmz Γ w
          rw [← h5] at hmm
          have e : (ofS i.size (row y))[i']? = some (.s (row y i')) := by simp [ofS, hi']
          obtain ⟨u, hu1, hu2⟩ := hmm.get e
          refine ⟨u, ?_, hu2⟩
          have hlt : j * i.size + i' < c.toNat * i.size := by
            have : (j + 1) * i.size ≤ c.toNat * i.size := Nat.mul_le_mul_right _ (by omega)
            rw [Nat.add_mul] at this; omega
          have hmod : (j * i.size + i') % i.size = i' := by rw [Nat.mul_comm, Nat.mul_add_mod, Nat.mod_eq_of_lt hi']
          simp only [madeCells, Array.getElem?_map, Array.getElem?_range]
          rw [if_pos hlt]
          simp only [Option.map_some, hzs, hmod]
          have hi2 : i' < z.cells.size := by omega
          rw [Array.getElem?_toList] at hu1
          simp [getElem!_def, hu1]
        · simp only [MV, MT, MC, mk_η]
          exact ⟨by rw [hln], rfl⟩
      · cases h
    · cases h
  · cases h
end AL
namespace AL
open Go
set_option linter.unusedVariables false

/-- 'store': what it leaves (no value). -/
def evStore (P : Program) (obj : Nat → Option AObj) (T : TypeId) (a x : AV) (ce : Option CE) : Option Eff :=
  match P.info? T, cellsA x with
  | some i, some l =>
    if Nat.beq l.length i.size then
      match a with
      | .t (.c (.ptr id off)) => match obj id with
        | some (.row cells) => if Nat.ble (off + i.size) cells.length then some ⟨[], .t (.c (.s .any)), obj, [(id, .row cells)], [(id, .row (spl cells off l))]⟩ else none
        | _ => none
      | .oel id j o => match obj id, ce with
        | some ob, some (.obj ob') => if Nat.ble (o + i.size) ob.width then some ⟨[StoreC j o l ob ob'], .t (.c (.s .any)), obj, [(id, ob)], [(id, ob')]⟩ else none
        | _, _ => none
      | _ => none
    else none
  | _, _ => none

theorem evStore_ok {P : Program} {Γ : Ctx} {obj w T a x va vx ce f} (hh : HeapOk Γ obj w) (h : evStore P obj T a x ce = some f) (ha : MV Γ obj w a va) (hx : MV Γ obj w x vx) (hc : allP f.conds) :
    f.obj = obj ∧ (∀ id o, ofH f.hin id = some o → obj id = some o) ∧ ∃ w', (Instr.storeAt T va vx).run P w = Result.ok () w' ∧ Post Γ (ofH f.hin) w Γ f.new w' := by
  unfold evStore at h
  split at h
  · rename_i i l hi hl
    split at h
    · rename_i hli
      have hli := Nat.eq_of_beq_eq_true hli
      have hm := cellsA_ok hl hx
      split at h
      · rename_i id off
        split at h
        · rename_i cells hob
          split at h
          · rename_i hle
            have hle := Nat.le_of_ble_eq_true hle
            cases h
            have hsub : ∀ id' o', ofH [(id, AObj.row cells)] id' = some o' → obj id' = some o' := fun id' o' h => by obtain ⟨rfl, rfl⟩ := ofH_one.1 h; exact hob
            obtain rfl : va = .pointer (some ⟨Γ.ρ id, off, none⟩) := ha
            obtain ⟨w', h1, h2⟩ := store_row (P := P) (T := T) (heap_sub hh hsub) hi hm hli hle
            exact ⟨rfl, hsub, w', h1, h2⟩
          · cases h
        · cases h
      · rename_i id j o
        split at h
        · rename_i ob ob' hob
          split at h
          · rename_i hle
            have hle := Nat.le_of_ble_eq_true hle
            cases h
            have hsub : ∀ id' o', ofH [(id, ob)] id' = some o' → obj id' = some o' := fun id' o' h => by obtain ⟨rfl, rfl⟩ := ofH_one.1 h; exact hob
            obtain ⟨k, rfl, hk⟩ := ha
            obtain rfl := hk ob hob
            obtain ⟨w', h1, h2⟩ := store_elem (P := P) (T := T) (heap_sub hh hsub) hi hm hli hle hc
            exact ⟨rfl, hsub, w', h1, h2⟩
          · cases h
        · cases h
      · cases h
    · cases h
  · cases h

end AL
namespace AL
open Go
set_option linter.unusedVariables false
set_option linter.unusedSimpArgs false

/-- The rune at a place of a text, and of how many bytes it is. -/
def decS (s : Bytes) (pos : Nat) : Nat × Nat := Utf8.decode (ba s) pos

theorem valid_max {c : Int} (h : Utf8.valid c = true) : c ≤ 1114111 := by
  unfold Utf8.valid at h
  simp only [Bool.or_eq_true, Bool.and_eq_true, decide_eq_true_eq] at h
  omega
theorem dec_max (s : Bytes) (pos : Nat) : (decS s pos).1 ≤ 1114111 := by
  unfold decS Utf8.decode
  simp only []
  have hb : ∀ k, ((ba s).get! k).toNat < 256 := fun k => UInt8.toNat_lt _
  have := hb (pos + 0)
  repeat' split
  all_goals first
    | (simp only []; omega)
    | (rename_i h; simp only [Bool.and_eq_true] at h; have := valid_max h.2; simp only [] at this ⊢; omega)
    | (simp [Utf8.runeError])
    | (simp only []; have := hb (pos + 1); omega)
theorem dec_rune (s : Bytes) (pos : Nat) : InR .i32 ((decS s pos).1 : Int) := by
  have := dec_max s pos
  simp [InR, IntKind.min, IntKind.max, IntKind.signed, IntKind.bits]; omega

theorem inR_len' {n : Nat} (h : (n : Int) ≤ 9223372036854775807) : InR .i64 (n : Int) := by
  simp [InR, IntKind.min, IntKind.max, IntKind.signed, IntKind.bits]; omega
def evRange (P : Program) (obj : Nat → Option AObj) (dst : Option Tmp) (T : TypeId) (x : AV) : Option Eff :=
  match dst, x with
  | some d, .t (.c (.s (.str s))) => match P.underlying T with
    | some .string => some ⟨[], .t (.c (.ptr d 0)), obj, [], [(d, .iter s 0)]⟩
    | _ => none
  | _, _ => none

theorem range_ok {P : Program} {Γ : Ctx} {obj w dst T x v f} (hh : HeapOk Γ obj w) (h : evRange P obj dst T x = some f) (hx : MV Γ obj w x v) : EffOk P Γ obj w f ((Instr.range T v).run P w) := by
  unfold evRange at h
  split at h
  · rename_i d s
    split at h
    · rename_i hu
      cases h
      obtain ⟨rfl, hl⟩ := (show v = .string (ba s) ∧ s.length ≤ maxLen from hx)
      refine ⟨rfl, fun _ _ h => (by cases h), rfl, _, _, mkΓ Γ d w.heap.size undef, run_range_string w T (ba s) hu, ?_, by simp only [MV, MT, MC, mk_ρ]⟩
      refine new_post (heap0 hh) rfl rfl rfl rfl (by rw [World.iter, alloc_size]; omega) (fun b hb => alloc_old w _ hb.1) ?_ fun b hb => ?_
      · show (w.iter (ba s) 0).heap[_]? = _
        rw [mk_ρ]; exact World.iter_heap w (ba s) 0
      · obtain ⟨h1, _⟩ := hb
        rw [mk_ρ] at h1
        subst h1
        exact ⟨by rw [World.iter, alloc_size]; omega, fun hi => by have := hh.ilt _ hi; omega, fun hp => by have := hp.1; omega⟩
    · cases h
  · cases h

/-- One step: told 'str', there is a rune more; told nothing, there is none. -/
def evNext (obj : Nat → Option AObj) (x : AV) (ce : Option CE) : Option Eff :=
  match x with
  | .t (.c (.ptr id 0)) => match obj id with
    | some (.iter s pos) => match ce with
      | none => some ⟨[s.length ≤ pos], .tup [.c (.s (.bool false))], obj, [], []⟩
      | some (.str _) => some ⟨[pos < s.length, (pos : Int) ≤ 9223372036854775807], .tup [.c (.s (.bool true)), .c (.s (.int .i64 pos)), .c (.s (.int .i32 (decS s pos).1))], obj, [(id, .iter s pos)], [(id, .iter s (pos + (decS s pos).2))]⟩
      | _ => none
    | _ => none
  | _ => none

theorem next_ok {P : Program} {Γ : Ctx} {obj w x v ce f} {ty : TypeId} (hh : HeapOk Γ obj w) (h : evNext obj x ce = some f) (hx : MV Γ obj w x v) (hc : allP f.conds) : EffOk P Γ obj w f ((Instr.next v true ty).run P w) := by
  unfold evNext at h
  split at h
  · rename_i id
    split at h
    · rename_i s pos ho
      obtain rfl : v = .pointer (some ⟨Γ.ρ id, 0, none⟩) := hx
      have hb : w.heap[Γ.ρ id]? = some (.stringIter (ba s) pos) := hh.objs id _ ho
      split at h
      · cases h
        have hc : s.length ≤ pos := hc
        refine ⟨rfl, fun _ _ h => (by cases h), rfl, .tuple #[.bool false], w, Γ, ?_, post_refl (heap0 hh), #[.bool false], rfl, rfl, trivial⟩
        have : ¬ pos < (ba s).size := by rw [size_ba]; omega
        simp [Instr.next, getObj, Sem.run, hb, this]
      · cases h
        obtain ⟨h1, h2⟩ := (show pos < s.length ∧ (pos : Int) ≤ 9223372036854775807 from hc)
        have hlt : pos < (ba s).size := by rw [size_ba]; exact h1
        have hin : ∀ j o, ofH [(id, AObj.iter s pos)] j = some o → obj j = some o := fun j o hj => by
          obtain ⟨rfl, rfl⟩ := ofH_one.1 hj; exact ho
        have hfp : fp Γ id (.iter s pos) (Γ.ρ id) := ⟨rfl, trivial⟩
        have hsz := (hh.lt id _ _ ho hfp).1
        refine ⟨rfl, hin, rfl, .tuple #[.bool true, .int .i64 pos, .int .i32 (decS s pos).1], { w with heap := w.heap.setIfInBounds (Γ.ρ id) (.stringIter (ba s) (pos + (decS s pos).2)) }, Γ, ?_, ?_, #[.bool true, .int .i64 pos, .int .i32 (decS s pos).1], rfl, rfl, ⟨rfl, inR_len' h2⟩, ⟨rfl, dec_rune s pos⟩, trivial⟩
        · simp only [Instr.next, getObj, setObj, Sem.run_bind, Sem.run, hb, Result.andThen, hlt, if_true]
          simp [goInt, Sem.run, hb, decS]
        · refine upd_post (heap_sub hh hin) rfl rfl rfl (by simp) (fun b hb' => ?_) (fun b hb' => hb') ?_
          · have : Γ.ρ id ≠ b := fun e => hb' _ hfp e.symm
            simp [Array.getElem?_setIfInBounds, this]
          · show (w.heap.setIfInBounds (Γ.ρ id) _)[Γ.ρ id]? = _
            rw [Array.getElem?_setIfInBounds_self]
            simp [hsz]
      · cases h
    · cases h
  · cases h

/-- Bytes into a text (told: which); a text into bytes, shared at once. -/
def evConv (P : Program) (obj : Nat → Option AObj) (src dst : TypeId) (x : AV) (ce : Option CE) : Option Eff :=
  match P.underlying src, P.underlying dst with
  | some (.slice e), some .string => match x, ce, P.underlying e with
    | .t (.c (.s (.str _))), _, _ => none
    | x, some (.str s), some (.int .u8) => match evSrc obj 1 x with
      | some (cells, n) => some ⟨[cells = flat 1 rowU8 s, n = s.length, (s.length : Int) ≤ 140737488355328], .t (.c (.s (.str s))), obj, [], []⟩
      | none => none
    | _, _, _ => none
  | some .string, some (.slice e) => match x, P.underlying e with
    | .t (.c (.s (.str s))), some (.int .u8) => some ⟨[], .t (.c (.s (.sl 1 UInt8 0 rowU8 s))), obj, [], []⟩
    | _, _ => none
  | _, _ => none

theorem cells_u8 {Γ : Ctx} {w : World} : ∀ {s : Bytes} {vs : List Value}, MCs Γ w (flat 1 rowU8 s) vs → vs = s.map fun b => Value.int .u8 (b.toNat : Int)
  | [], [], _ => rfl
  | b :: s, v :: vs, h => by
    obtain ⟨h1, h2⟩ := h
    obtain ⟨rfl, _⟩ := (show v = .int .u8 b.toNat ∧ _ from h1)
    rw [cells_u8 (s := s) (vs := vs) h2]; rfl
  | [], _ :: _, h => h.elim
  | _ :: _, [], h => h.elim

theorem bytes_back {P : Program} (w : World) (x : Value) (s : Bytes) (hx : (∃ a c, x = .slice (some a) s.length c) ∨ (∃ n c, x = .slice none n c ∧ s = []))
    (h : (Builtin.firstCells 1 s.length x).run P w = Result.ok (s.map fun b => Value.int .u8 (b.toNat : Int)).toArray w) : (Conv.bytesToString x).run P w = Result.ok (.string (ba s)) w := by
  rcases hx with ⟨a, c, rfl⟩ | ⟨n, c, rfl, rfl⟩
  · have h2 : (loadCells a s.length).run P w = .ok ((s.map fun b => (b.toNat : Int)).map (Value.int .u8)).toArray w := by
      have h1 : (loadCells a (s.length * 1)).run P w = Result.ok (s.map fun b => Value.int .u8 (b.toNat : Int)).toArray w := h
      rw [Nat.mul_one] at h1
      rw [h1, List.map_map]; rfl
    rw [run_bytesToString w a s.length c _ h2, foldl_push_byteCells]
    simp [ba]
  · rfl

theorem conv_ok {P : Program} {Γ : Ctx} {obj w src dst x v ce f} (hh : HeapOk Γ obj w) (h : evConv P obj src dst x ce = some f) (hx : MV Γ obj w x v) (hc : allP f.conds) : EffOk P Γ obj w f ((convert src dst v).run P w) := by
  unfold evConv at h
  split at h
  · rename_i e hs hd
    split at h
    · cases h
    · rename_i x s hns he
      split at h
      · rename_i cells n hsrc
        cases h
        obtain ⟨rfl, rfl, h3⟩ := (show cells = flat 1 rowU8 s ∧ n = s.length ∧ (s.length : Int) ≤ 140737488355328 from hc)
        obtain ⟨hlen, news, hm, hnl, hfc⟩ := lenOf_src (P := P) hh hsrc hx
        have hn := cells_u8 hm
        subst hn
        have hv : (∃ a c, v = .slice (some a) s.length c) ∨ (∃ n c, v = .slice none n c ∧ s = []) := by
          unfold evSrc at hsrc
          split at hsrc
          · rename_i k' α d row l
            split at hsrc
            · rename_i hk
              subst hk
              simp only [Option.some.injEq, Prod.mk.injEq] at hsrc
              obtain ⟨a, cap, rfl, _, _, hl⟩ := hx
              cases a with
              | some a => exact .inl ⟨a, cap, by rw [hsrc.2]⟩
              | none =>
                refine .inr ⟨_, cap, rfl, ?_⟩
                rcases hl with ⟨hl, _⟩ | ⟨b, off, hl, _⟩
                · rw [hl] at hsrc; exact List.eq_nil_of_length_eq_zero hsrc.2.symm
                · cases hl
            · cases hsrc
          · rename_i id
            split at hsrc
            · rename_i T k' α d row l hob
              split at hsrc
              · simp only [Option.some.injEq, Prod.mk.injEq] at hsrc
                obtain ⟨rfl, _⟩ := (show v = Γ.η id ∧ _ from hx)
                rcases hh.objs id _ hob with ⟨hη, hl⟩ | ⟨cap, cur, hη, _⟩
                · rw [hη]; rw [hl] at hsrc; exact .inr ⟨_, _, rfl, List.eq_nil_of_length_eq_zero hsrc.2.symm⟩
                · rw [hη, hsrc.2]; exact .inl ⟨_, _, rfl⟩
              · cases hsrc
            · cases hsrc
          · simp only [Option.some.injEq, Prod.mk.injEq] at hsrc
            obtain rfl : v = .slice none 0 0 := hx
            exact .inr ⟨_, _, rfl, List.eq_nil_of_length_eq_zero hsrc.2.symm⟩
          · exact (hns _ rfl).elim
          · cases hsrc
        have hconv : (convert src dst v).run P w = (Conv.bytesToString v).run P w := by
          rcases hv with ⟨a, c, rfl⟩ | ⟨n, c, rfl, _⟩
          · exact run_convert_bytes_string w src dst e _ _ _ hs he hd
          · exact run_convert_bytes_string w src dst e _ _ _ hs he hd
        refine ⟨rfl, fun _ _ h => (by cases h), rfl, .string (ba s), w, Γ, ?_, post_refl (heap0 hh), rfl, by simp only [maxLen]; omega⟩
        rw [hconv]
        exact bytes_back w v s hv (hfc w rfl)
      · cases h
    · cases h
  · rename_i e hs hd
    split at h
    · rename_i s he
      cases h
      obtain ⟨rfl, hl⟩ := (show v = .string (ba s) ∧ s.length ≤ maxLen from hx)
      have h0 := heap0 hh
      have hold : ∀ b, b < w.heap.size → (Lib.bytesWorld w e (ba s)).heap[b]? = w.heap[b]? := fun b hb => Lib.bytesWorld_at_old w e (ba s) b hb
      have hsz := Lib.bytesWorld_size w e (ba s)
      refine ⟨rfl, fun _ _ h => (by cases h), rfl, _, Lib.bytesWorld w e (ba s), ⟨fun b => Γ.I b ∨ b = w.heap.size, Γ.ρ, Γ.η⟩, Lib.run_convert_string_bytes w src dst e (ba s) hs hd he, ?_, ?_⟩
      · refine ⟨⟨fun _ _ h => (by cases h), fun _ _ _ h => (by cases h), fun _ _ _ _ _ h => (by cases h), fun b hb => ?_, h0.glob.mono (fun b hb => .inl hb) fun b hb => hold b (hh.ilt b hb)⟩, ⟨rfl, rfl, rfl, by show w.heap.size ≤ _; rw [hsz]; omega, fun b hb => hb.1, fun b hb => hold b hb.1, fun b hb => .inl hb, fun b hp hb => ?_, fun _ _ _ h => (by cases h)⟩, fun _ _ => ⟨rfl, rfl⟩⟩
        · rw [hsz]
          rcases hb with hb | hb
          · have := hh.ilt b hb; omega
          · omega
        · rcases hb with hb | hb
          · exact hb
          · have := hp.1; omega
      · rw [size_ba]
        refine ⟨_, _, rfl, grownCap_ge w _ 0 e, grownCap_le_maxLen w _ 0 e hl, .inr ⟨w.heap.size, 0, rfl, .inr rfl, fun j x hj i hi => ?_⟩⟩
        obtain rfl : i = 0 := by omega
        have hjl : j < s.length := (List.getElem?_eq_some_iff.1 hj).1
        refine ⟨_, by rw [Nat.zero_add, Nat.mul_one, Nat.add_zero]; exact Lib.bytesWorld_cell w e (ba s) j (by rw [size_ba]; exact hjl), ?_⟩
        have e1 : (ba s).data.toList.getD j 0 = x := by simp [ba, List.getD_eq_getElem?_getD, hj]
        rw [e1]
        refine ⟨rfl, ?_⟩
        have := UInt8.toNat_lt x
        simp [InR, IntKind.min, IntKind.max, IntKind.signed, IntKind.bits]; omega
    · cases h
  · cases h
end AL
