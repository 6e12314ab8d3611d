/- An abstract logic, 9: one step of a region: the operations that compute, and the calls. No condition. -/
import Derived.Test.YtphkoklgdkimmaaAL8
namespace AL
open Go
set_option linter.unusedVariables false

def capOf : AV → Option Cap
  | .t (.c (.s c)) => some (.s c)
  | .t (.c (.ptr id off)) => some (.ptr id off)
  | _ => none
def capsOf : List AV → Option (List Cap)
  | [] => some []
  | x :: l => match capOf x, capsOf l with
    | some c, some cs => some (c :: cs)
    | _, _ => none

/-- A pointer to shared cells, as a value, is a pointer to shared cells. -/
def rof : AV → AV
  | .t (.c (.s (.ref n f))) => .ro n f
  | x => x
theorem rof_ok {Γ obj w} {x : AV} {v : Value} (h : MV Γ obj w x v) : MV Γ obj w (rof x) v := by
  unfold rof
  split
  · exact h
  · exact h

/-- The operations that compute or read. 'val': what the operands are. -/
def evV (P : Program) (obj : Nat → Option AObj) (val : Operand → AV) (op : Op) : Option (List Prop × AV) :=
  match op with
  | .move x | .assign x => some ([], val x)
  | .nilCheck x => match val x with
    | .t (.c (.ptr _ _)) | .ro _ _ | .oel _ _ _ => some ([], val x)
    | _ => none
  | .binOp op T x y _ => match val x, val y with
    | .t (.c (.s a)), .t (.c (.s b)) => match evBin op a b with
      | some r => some (r.1, .t (.c (.s r.2)))
      | none => evEq P op T (val x) (val y)
    | _, _ => evEq P op T (val x) (val y)
  | .unOp op _ x => evUn op (val x)
  | .convert src dst x => evConvert P src dst (val x)
  | .field T x f => evField P T f (val x)
  | .extract x i => match val x with
    | .tup l => (l[i]?).map fun c => ([], .t c)
    | _ => none
  | .build T parts => evBuild P T (parts.toList.map fun p => (p.1, val p.2))
  | .fieldAddr T x f => evFieldAddr P T f (rof (val x))
  | .indexAddr T x i => evIndexAddr P obj T (rof (val x)) (val i)
  | .index T x i => evIndex P T (val x) (val i)
  | .load T x => evLoad P obj T (rof (val x))
  | .slice T x lo hi mx => match mx with
    | none => evSlice P T (val x) (lo.map val) (hi.map val)
    | some _ => none
  | .makeFunc fn first caps => match fn, first.toList with
    | .func f, [] => (capsOf (caps.toList.map val)).map fun cs => ([], .t (.c (.fn f cs)))
    | _, _ => none
  | .call c => match c.callee with
    | .builtin .len => match c.args.toList, c.argTypes.toList with
      | [x], [T] => evLen P obj T (val x)
      | _, _ => none
    | .builtin .cap => match c.args.toList.map val, c.argTypes.toList with
      | [.t (.c (.s .nilsl))], [T] => match P.underlying T with
        | some (.slice _) => some ([], .t (.c (.s (.int .i64 0))))
        | _ => none
      | _, _ => none
    | .builtin .max => match c.args.toList.map val with
      | [.t (.c (.s (.int k a))), .t (.c (.s (.int k' b)))] => if k = k' then some ([], .t (.c (.s (.int k (max a b))))) else none
      | _ => none
    | .builtin .min => match c.args.toList.map val with
      | [.t (.c (.s (.int k a))), .t (.c (.s (.int k' b)))] => if k = k' then some ([], .t (.c (.s (.int k (min a b))))) else none
      | _ => none
    | _ => none
  | _ => none

theorem mparts_map {Γ obj w} {val : Operand → AV} {ρ : Operand → Value} :
    ∀ (l : List (Nat × Operand)), (∀ x ∈ l.map (·.2), MV Γ obj w (val x) (ρ x)) → MParts Γ obj w (l.map fun p => (p.1, val p.2)) (l.map fun p => (p.1, ρ p.2))
  | [], _ => trivial
  | (i, x) :: l, hv => ⟨rfl, hv x (by simp), mparts_map l fun y hy => hv y (by simp only [List.map_cons, List.mem_cons]; exact .inr hy)⟩

theorem mvo_map {Γ obj w} {val : Operand → AV} {ρ : Operand → Value} (o : Option Operand) (hv : ∀ x, o = some x → MV Γ obj w (val x) (ρ x)) : MVo Γ obj w (o.map val) (o.map ρ) := by
  cases o with
  | none => trivial
  | some x => exact hv x rfl

theorem capsOf_ok {Γ obj w} {val : Operand → AV} {ρ : Operand → Value} :
    ∀ (l : List Operand) (cs : List Cap), (∀ x ∈ l, MV Γ obj w (val x) (ρ x)) → capsOf (l.map val) = some cs → MCaps Γ w cs (l.map ρ)
  | [], cs, _, h => by cases h; trivial
  | x :: l, cs, hv, h => by
    simp only [List.map_cons, capsOf] at h
    split at h
    · rename_i c cs' h1 h2
      cases h
      refine ⟨?_, capsOf_ok l cs' (fun y hy => hv y (List.mem_cons_of_mem _ hy)) h2⟩
      have hx := hv x (by simp)
      unfold capOf at h1
      split at h1
      · rename_i e; cases h1; rw [e] at hx; exact hx
      · rename_i e; cases h1; rw [e] at hx; exact hx
      · cases h1
    · cases h

theorem evV_ok {P : Program} {Γ obj w} {val : Operand → AV} {ρ : Operand → Value} {o : Oper} {cs r} (h : evV P obj val o.op = some (cs, r))
    (hv : ∀ x ∈ o.op.operands.toList, MV Γ obj w (val x) (ρ x)) (hh : HeapOk Γ obj w) (hc : allP cs) :
    ∃ v, (execOp ρ o).run P w = .ok (.value v) w ∧ MV Γ obj w r v := by
  have lift : ∀ {s : Sem Value}, (∃ v, s.run P w = .ok v w ∧ MV Γ obj w r v) → ∃ v, (do pure (.value (← s)) : Sem Next).run P w = .ok (.value v) w ∧ MV Γ obj w r v := by
    rintro s ⟨v, h1, h2⟩
    exact ⟨v, by simp [h1], h2⟩
  unfold evV at h
  unfold execOp
  split at h
  · rename_i x e; simp only [e]; cases h; exact ⟨ρ x, rfl, hv x (by simp [e, Op.operands])⟩
  · rename_i x e; simp only [e]; cases h; exact ⟨ρ x, rfl, hv x (by simp [e, Op.operands])⟩
  · rename_i x e
    simp only [e]
    have hx := hv x (by simp [e, Op.operands])
    split at h
    · rename_i e2; rw [e2] at hx h; cases h; simp only [MV, MT, MC] at hx; rw [hx]; exact ⟨_, rfl, rfl⟩
    · rename_i e2
      rw [e2] at hx h
      cases h
      have hx' := hx
      obtain ⟨b, off, h1, _⟩ := hx
      rw [h1] at hx' ⊢
      exact ⟨_, rfl, hx'⟩
    · rename_i e2
      rw [e2] at hx h
      cases h
      have hx' := hx
      obtain ⟨k, h1, _⟩ := hx
      rw [h1] at hx' ⊢
      exact ⟨_, rfl, hx'⟩
    · cases h
  · rename_i op T x y T' e
    simp only [e]
    have hx := hv x (by simp [e, Op.operands])
    have hy := hv y (by simp [e, Op.operands])
    refine lift ?_
    split at h
    · rename_i a b ea eb
      split at h
      · rename_i r' hb
        simp only [Option.some.injEq, Prod.mk.injEq] at h
        obtain ⟨rfl, rfl⟩ := h
        rw [ea] at hx
        rw [eb] at hy
        obtain ⟨v, h1, h2⟩ := bin_ok (P := P) (T := T) hx hy hb hc
        exact ⟨v, by simp [guard_ok (P := P) (T := T) (ox := x) (oy := y) hx hy hb, h1], h2⟩
      · exact eq_ok h hx hy
    · exact eq_ok h hx hy
  · rename_i op T x e; simp only [e]; exact lift (un_ok h (hv x (by simp [e, Op.operands])) hc)
  · rename_i src dst x e; simp only [e]; exact lift (convert_ok h (hv x (by simp [e, Op.operands])) hc)
  · rename_i T x f e; simp only [e]; exact lift (field_ok h (hv x (by simp [e, Op.operands])))
  · rename_i x i e
    simp only [e]
    refine lift ?_
    have hx := hv x (by simp [e, Op.operands])
    split at h
    · rename_i l el
      simp only [Option.map_eq_some_iff, Prod.mk.injEq] at h
      obtain ⟨c, hc', rfl, rfl⟩ := h
      rw [el] at hx
      obtain ⟨vs, e1, hm⟩ := hx
      have get : ∀ (l : List TV) (vs : List Value) (i : Nat), MTs Γ w l vs → l[i]? = some c → ∃ v, vs[i]? = some v ∧ MT Γ w c v := by
        intro l
        induction l with
        | nil => intro vs i _ h; simp at h
        | cons a l ih =>
          intro vs i hm h
          cases vs with
          | nil => exact hm.elim
          | cons v vs =>
            cases i with
            | zero => simp at h; subst h; exact ⟨v, rfl, hm.1⟩
            | succ i => simp at h; obtain ⟨u, hu, hm'⟩ := ih vs i hm.2 h; exact ⟨u, by simpa using hu, hm'⟩
      obtain ⟨v, hv1, hv2⟩ := get l vs.toList i hm hc'
      refine ⟨v, ?_, hv2⟩
      rw [e1]
      simp at hv1
      simp [Instr.extract, hv1]
    · cases h
  · rename_i T parts e
    simp only [e]
    refine lift ?_
    have := build_ok (P := P) h (mparts_map parts.toList fun y hy => hv y (by simpa [e, Op.operands] using hy))
    rwa [show (parts.toList.map fun p => (p.1, ρ p.2)).toArray = parts.map fun (i, x) => (i, ρ x) by apply Array.ext'; simp] at this
  · rename_i T x f e; simp only [e]; exact lift (fieldAddr_ok h (rof_ok (hv x (by simp [e, Op.operands]))))
  · rename_i T x i e; simp only [e]; exact lift (indexAddr_ok h (rof_ok (hv x (by simp [e, Op.operands]))) (hv i (by simp [e, Op.operands])) hh hc)
  · rename_i T x i e; simp only [e]; exact lift (index_ok h (hv x (by simp [e, Op.operands])) (hv i (by simp [e, Op.operands])) hc)
  · rename_i T x e; simp only [e]; exact lift (load_ok h (rof_ok (hv x (by simp [e, Op.operands]))) hh hc)
  · rename_i T x lo hi mx e
    simp only [e]
    refine lift ?_
    cases mx with
    | none => exact slice_ok h (hv x (by simp [e, Op.operands])) (mvo_map lo fun y hy => hv y (by simp [e, Op.operands, hy])) (mvo_map hi fun y hy => hv y (by simp [e, Op.operands, hy])) hc
    | some _ => cases h
  · rename_i fn first caps e
    simp only [e]
    refine lift ?_
    split at h
    · rename_i f _ e1
      simp only [Option.map_eq_some_iff, Prod.mk.injEq] at h
      obtain ⟨cs', hcs, rfl, rfl⟩ := h
      refine ⟨_, rfl, caps.map ρ, ?_, ?_⟩
      · rw [show first = #[] by apply Array.ext'; simpa using e1]
        simp
      · rw [Array.toList_map]; exact capsOf_ok _ _ (fun y hy => hv y (by simp only [e, Op.operands, Array.toList_append]; exact List.mem_append_right _ hy)) hcs
    · cases h
  · rename_i c e
    simp only [e]
    have tl : ∀ {α : Type} {xs : Array α} {l : List α}, xs.toList = l → xs = l.toArray := fun h => by rw [← h]
    split at h
    · rename_i hcal
      split at h
      · rename_i x T e1 e2
        obtain ⟨v, h1, h2⟩ := len_ok (P := P) (rt := o.type) h (hv x (by simp [e, Op.operands, Call.operands, hcal, e1])) hh
        refine ⟨v, ?_, h2⟩
        simp [resolve, hcal, invoke, builtin, tl e1, tl e2, h1]
      · cases h
    · rename_i hcal
      split at h
      · rename_i T e1 e2
        split at h
        · rename_i e' hu
          simp only [Option.some.injEq, Prod.mk.injEq] at h
          obtain ⟨rfl, rfl⟩ := h
          obtain ⟨x, exx⟩ : ∃ x, c.args.toList = [x] := by
            have := congrArg List.length e1
            simp only [List.length_map, List.length_cons, List.length_nil] at this
            match hl : c.args.toList, this with
            | [x], _ => exact ⟨x, rfl⟩
          rw [exx] at e1
          simp only [List.map_cons, List.map_nil, List.cons.injEq, and_true] at e1
          have hx := hv x (by simp [e, Op.operands, Call.operands, hcal, exx])
          rw [e1] at hx
          have hx : ρ x = .slice none 0 0 := hx
          exact ⟨.int .i64 0, by simp [resolve, hcal, invoke, builtin, tl exx, tl e2, Builtin.cap_, run_underlying hu, goInt, hx], rfl, inR_len (Nat.zero_le _)⟩
        · cases h
      · cases h
    · rename_i hcal
      split at h
      · rename_i k p k' q e1
        split at h
        · rename_i hk
          subst hk
          simp only [Option.some.injEq, Prod.mk.injEq] at h
          obtain ⟨rfl, rfl⟩ := h
          obtain ⟨x, y, exy⟩ : ∃ x y, c.args.toList = [x, y] := by
            have := congrArg List.length e1
            simp only [List.length_map, List.length_cons, List.length_nil] at this
            match hl : c.args.toList, this with
            | [x, y], _ => exact ⟨x, y, rfl⟩
          rw [exy] at e1
          simp only [List.map_cons, List.map_nil, List.cons.injEq, and_true] at e1
          have hx := hv x (by simp [e, Op.operands, Call.operands, hcal, exy])
          have hy := hv y (by simp [e, Op.operands, Call.operands, hcal, exy])
          rw [e1.1] at hx
          rw [e1.2] at hy
          obtain ⟨h1, h2⟩ := hx
          obtain ⟨h3, h4⟩ := hy
          refine ⟨.int k (max p q), ?_, rfl, ?_⟩
          · simp [resolve, hcal, invoke, builtin, tl exy, Builtin.max_, h1, h3, Builtin.max2]
            split <;> omega
          · rcases (show max p q = p ∨ max p q = q by omega) with hm | hm <;> rw [hm] <;> assumption
        · cases h
      · cases h
    · rename_i hcal
      split at h
      · rename_i k p k' q e1
        split at h
        · rename_i hk
          subst hk
          simp only [Option.some.injEq, Prod.mk.injEq] at h
          obtain ⟨rfl, rfl⟩ := h
          obtain ⟨x, y, exy⟩ : ∃ x y, c.args.toList = [x, y] := by
            have := congrArg List.length e1
            simp only [List.length_map, List.length_cons, List.length_nil] at this
            match hl : c.args.toList, this with
            | [x, y], _ => exact ⟨x, y, rfl⟩
          rw [exy] at e1
          simp only [List.map_cons, List.map_nil, List.cons.injEq, and_true] at e1
          have hx := hv x (by simp [e, Op.operands, Call.operands, hcal, exy])
          have hy := hv y (by simp [e, Op.operands, Call.operands, hcal, exy])
          rw [e1.1] at hx
          rw [e1.2] at hy
          obtain ⟨h1, h2⟩ := hx
          obtain ⟨h3, h4⟩ := hy
          refine ⟨.int k (min p q), ?_, rfl, ?_⟩
          · simp [resolve, hcal, invoke, builtin, tl exy, Builtin.min_, h1, h3, Builtin.min2]
            split <;> omega
          · rcases (show min p q = p ∨ min p q = q by omega) with hm | hm <;> rw [hm] <;> assumption
        · cases h
      · cases h
    · cases h
  · cases h
end AL
