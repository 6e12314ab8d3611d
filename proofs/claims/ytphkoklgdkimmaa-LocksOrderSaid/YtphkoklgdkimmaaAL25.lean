/- An abstract logic, 25: regions whose order is drawn. No condition. -/
import Derived.Test.YtphkoklgdkimmaaAL24
import Derived.Orders
namespace AL
open Go
set_option linter.unusedVariables false
set_option linter.unusedSimpArgs false

/-! ### What stands ahead of each operation, whatever is drawn -/
def preds (o : Oper) : List Nat := (o.after.toList.filter fun e => Region.binds .any e).map (·.on)
def ins1 (x : Nat) (l : List Nat) : List Nat := bif l.any (Nat.beq x) then l else x :: l
def unionN (a b : List Nat) : List Nat := a.foldr ins1 b
def addAll (acc : List (List Nat)) : List Nat → List Nat
  | [] => []
  | p :: ps => unionN (p :: acc.getD p []) (addAll acc ps)
def ancs : List Oper → List (List Nat) → List (List Nat)
  | [], acc => acc
  | o :: l, acc => ancs l (acc ++ [addAll acc (preds o)])

theorem mem_ins1 {x i : Nat} {l : List Nat} (h : i ∈ ins1 x l) : i = x ∨ i ∈ l := by
  unfold ins1 at h
  cases hb : l.any (Nat.beq x)
  · rw [hb] at h; simpa using h
  · rw [hb] at h; exact .inr h
theorem mem_unionN {i : Nat} : ∀ {a b : List Nat}, i ∈ unionN a b → i ∈ a ∨ i ∈ b
  | [], b, h => .inr h
  | x :: a, b, h => by
    rcases mem_ins1 (show i ∈ ins1 x (unionN a b) from h) with rfl | h
    · exact .inl (List.mem_cons_self ..)
    · rcases mem_unionN h with h | h
      · exact .inl (List.mem_cons_of_mem _ h)
      · exact .inr h
theorem mem_addAll {acc : List (List Nat)} {i : Nat} : ∀ {ps : List Nat}, i ∈ addAll acc ps → ∃ p ∈ ps, i = p ∨ i ∈ acc.getD p []
  | p :: ps, h => by
    rcases mem_unionN h with h | h
    · exact ⟨p, List.mem_cons_self .., List.mem_cons.1 h⟩
    · obtain ⟨q, h1, h2⟩ := mem_addAll h
      exact ⟨q, List.mem_cons_of_mem _ h1, h2⟩

/-- Done steps bring those that bind them. -/
def Dn (ops : Array Oper) (m : Nat → Bool) : Prop := ∀ j o, ops[j]? = some o → m j = true → ∀ p ∈ preds o, m p = true

def AncOk (ops : Array Oper) (acc : List (List Nat)) : Prop := ∀ j i, i ∈ acc.getD j [] → ∀ m, Dn ops m → m j = true → m i = true

theorem ancs_ok {ops : Array Oper} : ∀ (l : List Oper) (acc : List (List Nat)), (∀ j, l[j]? = ops[acc.length + j]?) → AncOk ops acc → AncOk ops (ancs l acc)
  | [], acc, _, h => h
  | o :: l, acc, hl, h => by
    refine ancs_ok l _ (fun j => by
      have := hl (j + 1)
      rw [List.getElem?_cons_succ] at this
      rw [this, List.length_append, List.length_singleton]; congr 1; omega) ?_
    intro j i hi m hm hj
    by_cases hlt : j < acc.length
    · rw [List.getD_eq_getElem?_getD, List.getElem?_append_left hlt, ← List.getD_eq_getElem?_getD] at hi
      exact h j i hi m hm hj
    · rw [List.getD_eq_getElem?_getD, List.getElem?_append_right (by omega)] at hi
      by_cases he : j = acc.length
      · subst he
        rw [Nat.sub_self] at hi
        have ho : ops[acc.length]? = some o := by have := hl 0; simpa using this.symm
        obtain ⟨p, hp, hx⟩ := mem_addAll (show i ∈ addAll acc (preds o) from hi)
        have hpm := hm _ o ho hj p hp
        rcases hx with rfl | hx
        · exact hpm
        · exact h p i hx m hm hpm
      · rw [List.getElem?_eq_none (by simp; omega)] at hi
        cases hi

/-! ### The trace in the order of the text -/
def rosAt : List (Nat × List Nat) → Nat → List Nat
  | [], _ => []
  | (i, c) :: l, j => bif Nat.beq j i then c else rosAt l j

def trace (P : Program) (ops : Array Oper) (ces : List (Nat × CE)) (ros : List (Nat × List Nat)) : Nat → List Oper → AS → Option (List Prop × List It × AS)
  | _, [], s => some ([], [], s)
  | i, o :: l, s =>
    let rd := projR s (o.looksAt ops)
    let ro := restr s.obj (rosAt ros i)
    match evD P ops (AS.lst s.n rd ro) o (ceAt ces i) with
    | some (cs, d) =>
      bif (hinOf (ceAt ces i)).all (fun j => (ofH ro j).isSome) then
        match trace P ops ces ros (i + 1) l (app o.dst d s) with
        | some (cs', its, s') => some (cs ++ cs', ⟨o.dst, d, rd, ro⟩ :: its, s')
        | none => none
      else none
    | none => none

theorem lkp_projR (s : AS) : ∀ {l : List Nat} {t : Nat}, t ∈ l → lkp (projR s l) t = s.reg t
  | k :: l, t, h => by
    simp only [projR, lkp]
    by_cases hk : t = k
    · subst hk; rw [Nat.beq_refl]; rfl
    · rw [beq_false hk]; exact lkp_projR s ((List.mem_cons.1 h).resolve_left hk)
theorem mem_projR (s : AS) : ∀ {l : List Nat} {t : Nat}, t ∈ l → (t, s.reg t) ∈ projR s l
  | k :: l, t, h => by
    rcases List.mem_cons.1 h with rfl | h
    · exact List.mem_cons_self ..
    · exact List.mem_cons_of_mem _ (mem_projR s h)
theorem projR_val (s : AS) : ∀ {l : List Nat} {p}, p ∈ projR s l → s.reg p.1 = p.2
  | k :: l, p, h => by
    rcases List.mem_cons.1 h with rfl | h
    · rfl
    · exact projR_val s h
theorem restr_val {obj : Nat → Option AObj} : ∀ (l : List Nat) {p}, p ∈ restr obj l → obj p.1 = some p.2
  | i :: l, p, h => by
    unfold restr at h
    split at h
    · rename_i o ho
      rcases List.mem_cons.1 h with rfl | h
      · exact ho
      · exact restr_val l h
    · exact restr_val l h

def GoodIt (P : Program) (ops : Array Oper) (ce : Option CE) (o : Oper) (n : Nat) (it : It) : Prop :=
  it.dst = o.dst ∧ ∀ S : AS, S.n = n → Agr it S → ∃ cs, allP cs ∧ evOp P ops S o ce = some (cs, app it.dst it.d S)

theorem trace_ok {P : Program} {ops : Array Oper} {ces ros} {full : List It} {s0 : AS} : ∀ (l : List Oper) (i : Nat) (s s' : AS) (cs : List Prop) (its : List It), trace P ops ces ros i l s = some (cs, its, s') → allP cs →
    (∀ j, full[i + j]? = its[j]?) → s = foldM full (fun _ => true) i s0 →
    s' = foldM full (fun _ => true) (i + l.length) s0 ∧ ∀ j o, l[j]? = some o → ∃ it, its[j]? = some it ∧ GoodIt P ops (ceAt ces (i + j)) o s0.n it ∧ Agr it (foldM full (fun _ => true) (i + j) s0)
  | [], i, s, s', cs, its, h, hc, hf, hs => by
    cases h
    exact ⟨hs, fun j o hj => by simp at hj⟩
  | o :: l, i, s, s', cs, its, h, hc, hf, hs => by
    unfold trace at h
    simp only [] at h
    split at h
    · rename_i cs1 d hd
      cases hh : (hinOf (ceAt ces i)).all (fun j => (ofH (restr s.obj (rosAt ros i)) j).isSome)
      · rw [hh] at h; cases h
      rw [hh] at h
      simp only [cond_true] at h
      split at h
      · rename_i cs2 its2 s2 ht
        simp only [Option.some.injEq, Prod.mk.injEq] at h
        obtain ⟨rfl, rfl, rfl⟩ := h
        rw [allP_append] at hc
        have h0 : full[i]? = some ⟨o.dst, d, projR s (o.looksAt ops), restr s.obj (rosAt ros i)⟩ := by have := hf 0; simpa using this
        have hstep : app o.dst d s = foldM full (fun _ => true) (i + 1) s0 := by
          simp only [foldM, cond_true, stp, h0, ← hs]
        obtain ⟨q1, q2⟩ := trace_ok l (i + 1) _ _ _ _ ht hc.2 (fun j => by
          have := hf (j + 1)
          rw [List.getElem?_cons_succ] at this
          rw [← this]; congr 1; omega) hstep
        refine ⟨by rw [q1, List.length_cons]; congr 1; omega, fun j o' hj => ?_⟩
        cases j with
        | zero =>
          simp only [List.getElem?_cons_zero, Option.some.injEq] at hj
          subst hj
          refine ⟨_, rfl, ⟨rfl, fun S hn hA => ⟨cs1, hc.1, ?_⟩⟩, ?_⟩
          · refine evD_at hd ⟨?_, fun t ht => ?_, fun id ob hob => ?_, hh⟩
            · rw [hn, hs]; exact (foldM_n full _ s0 i).symm
            · have := hA.reg _ (mem_projR s ht)
              rw [this]
              exact (lkp_projR s ht).symm
            · exact hA.obj _ (ofH_mem hob)
          · rw [Nat.add_zero, ← hs]
            exact ⟨fun p hp => projR_val s hp, fun p hp => restr_val _ hp⟩
        | succ j =>
          rw [List.getElem?_cons_succ] at hj
          obtain ⟨it, g1, g2, g3⟩ := q2 j o' hj
          refine ⟨it, by rw [List.getElem?_cons_succ]; exact g1, ?_, ?_⟩
          · rwa [show i + (j + 1) = i + 1 + j by omega]
          · rwa [show i + (j + 1) = i + 1 + j by omega]
      · cases h
    · cases h

/-! ### All pairs -/
def free2B (a b : It) : Bool := commB a.dst a.d b.dst b.d && (backB a.dst a.d b && fwdB b.dst b.d a)

def pairRow (an : List Nat) (b : It) : Nat → List It → Bool
  | _, [] => true
  | i, a :: l => (bif an.any (Nat.beq i) then true else free2B a b) && pairRow an b (i + 1) l

def pairB (its : List It) : Nat → List It → List (List Nat) → Bool
  | _, [], _ => true
  | _, _, [] => false
  | j, b :: l, an :: t => pairRow an b 0 (its.take j) && pairB its (j + 1) l t

theorem pairRow_ok {an : List Nat} {b : It} : ∀ (l : List It) (i : Nat), pairRow an b i l = true → ∀ j a, l[j]? = some a → (i + j) ∈ an ∨ free2B a b = true
  | [], i, _, j, a, hj => by simp at hj
  | x :: l, i, h, j, a, hj => by
    simp only [pairRow, Bool.and_eq_true] at h
    cases j with
    | zero =>
      simp only [List.getElem?_cons_zero, Option.some.injEq] at hj
      subst hj
      cases hb : an.any (Nat.beq i)
      · rw [hb] at h; exact .inr h.1
      · obtain ⟨y, hy, hby⟩ := List.any_eq_true.1 hb
        have := Nat.eq_of_beq_eq_true hby
        subst this
        exact .inl hy
    | succ j =>
      rw [List.getElem?_cons_succ] at hj
      have := pairRow_ok l (i + 1) h.2 j a hj
      rwa [show i + (j + 1) = i + 1 + j by omega]

theorem pairB_ok {its : List It} : ∀ (l : List It) (j : Nat) (t : List (List Nat)), pairB its j l t = true → ∀ q b, l[q]? = some b → ∀ i a, i < j + q → its[i]? = some a → i ∈ t.getD q [] ∨ free2B a b = true
  | [], j, t, _, q, b, hq => by simp at hq
  | x :: l, j, [], h, _, _, _ => by cases h
  | x :: l, j, an :: t, h, q, b, hq => by
    simp only [pairB, Bool.and_eq_true] at h
    intro i a hi ha
    cases q with
    | zero =>
      simp only [List.getElem?_cons_zero, Option.some.injEq] at hq
      subst hq
      have := pairRow_ok _ _ h.1 i a (by rw [List.getElem?_take_of_lt (by omega)]; exact ha)
      simpa using this
    | succ q =>
      rw [List.getElem?_cons_succ] at hq
      have := pairB_ok l (j + 1) t h.2 q b hq i a (by omega) ha
      simpa using this

def topoB : Nat → List Oper → Bool
  | _, [] => true
  | j, o :: l => (preds o).all (fun p => Nat.blt p j) && topoB (j + 1) l

theorem topo_ok : ∀ (l : List Oper) (j : Nat), topoB j l = true → ∀ q o, l[q]? = some o → ∀ p ∈ preds o, p < j + q
  | [], j, _, q, o, hq => by simp at hq
  | x :: l, j, h, q, o, hq => by
    simp only [topoB, Bool.and_eq_true] at h
    intro p hp
    cases q with
    | zero =>
      simp only [List.getElem?_cons_zero, Option.some.injEq] at hq
      subst hq
      have := Nat.le_of_ble_eq_true (List.all_eq_true.1 h.1 p hp)
      omega
    | succ q =>
      rw [List.getElem?_cons_succ] at hq
      have := topo_ok l (j + 1) h.2 q o hq p hp
      omega

/-- A region whose order is drawn, evaluated: its conditions; its end. -/
def evDraw (P : Program) (ops : Array Oper) (ces : List (Nat × CE)) (ros : List (Nat × List Nat)) (s : AS) (ks hs : List Nat) : Option (List Prop × AS) :=
  match trace P ops ces ros 0 ops.toList s with
  | some (cs, its, s') => bif topoB 0 ops.toList && pairB its 0 its (ancs ops.toList []) then some (cs, s'.proj ks hs) else none
  | none => none

def mOf (listed : Array Bool) (j : Nat) : Bool := listed.getD j false

theorem wpAny_ok {P : Program} {ops : Array Oper} {ces : List (Nat × CE)} {its : List It} {s0 : AS} {G : Gd} {Q : Exit → Act → World → Prop}
    (hit : ∀ j o, ops[j]? = some o → ∃ it, its[j]? = some it ∧ GoodIt P ops (ceAt ces j) o s0.n it ∧ Agr it (foldM its (fun _ => true) j s0)) (htop : ∀ j o, ops[j]? = some o → ∀ p ∈ preds o, p < j)
    (hpair : ∀ i j, i < j → j < ops.size → ∀ m, Dn ops m → m j = true → m i = false → Free2 its i j)
    (hQ : ∀ Γ a w, Conc G Γ (foldM its (fun _ => true) ops.size s0) a w → Q .normal a w) :
    ∀ (fuel : Nat) (listed : Array Bool) (rest : List Nat) (a : Act) (w : World), listed.size = ops.size → rest.length ≤ fuel → (∀ j, j < ops.size → mOf listed j = false → j ∈ rest) → Dn ops (mOf listed) →
      (∃ Γ, Conc G Γ (foldM its (mOf listed) ops.size s0) a w) → wpAny P .any ops Q fuel listed a w := by
  have done : ∀ (listed : Array Bool) (a : Act) (w : World), listed.size = ops.size → Region.ready .any ops listed = [] → (∃ Γ, Conc G Γ (foldM its (mOf listed) ops.size s0) a w) → Q .normal a w := by
    rintro listed a w hsz hr ⟨Γ, hC⟩
    have hall : ∀ k j, j < k → j < ops.size → mOf listed j = true := by
      intro k
      induction k with
      | zero => intro j h; omega
      | succ k ih =>
        intro j hj hjs
        cases hm : mOf listed j with
        | true => rfl
        | false =>
          exfalso
          have hmem : j ∈ Region.ready .any ops listed := by
            rw [mem_ready]
            refine ⟨?_, ops[j], Array.getElem?_eq_getElem hjs, fun e he hb => ?_⟩
            · have hlt : j < listed.size := by omega
              unfold mOf at hm
              simp only [Array.getD_eq_getD_getElem?, Array.getElem?_eq_getElem hlt, Option.getD_some] at hm ⊢
              exact hm
            · have hp : e.on ∈ preds ops[j] := List.mem_map.2 ⟨e, List.mem_filter.2 ⟨by simpa using he, by simpa using hb⟩, rfl⟩
              have := htop j _ (Array.getElem?_eq_getElem hjs) _ hp
              exact ih e.on (by omega) (by omega)
          rw [hr] at hmem
          cases hmem
    rw [foldM_congr its (m' := fun _ => true) s0 ops.size fun j hj => hall (j + 1) j (by omega) hj] at hC
    exact hQ Γ a w hC
  intro fuel
  induction fuel with
  | zero =>
    intro listed rest a w hsz hle hrest hdn hC
    have hnil : rest = [] := List.length_eq_zero_iff.1 (by omega)
    have hr : Region.ready .any ops listed = [] := by
      cases hx : Region.ready .any ops listed with
      | nil => rfl
      | cons j t =>
        exfalso
        have hj : j ∈ Region.ready .any ops listed := by rw [hx]; exact List.mem_cons_self ..
        obtain ⟨h0, o, ho, _⟩ := mem_ready.1 hj
        have hjs : j < ops.size := (Array.getElem?_eq_some_iff.1 ho).1
        have hlt : j < listed.size := by omega
        have : j ∈ rest := hrest j hjs (by
          unfold mOf
          simp only [Array.getD_eq_getD_getElem?, Array.getElem?_eq_getElem hlt, Option.getD_some] at h0 ⊢
          exact h0)
        rw [hnil] at this
        cases this
    exact ⟨hr, done listed a w hsz hr hC⟩
  | succ fuel ih =>
    intro listed rest a w hsz hle hrest hdn hC
    refine ⟨fun hr => done listed a w hsz hr hC, fun i hi => ?_⟩
    obtain ⟨h0, o, ho, hpre⟩ := mem_ready.1 hi
    have his : i < ops.size := (Array.getElem?_eq_some_iff.1 ho).1
    have hlt : i < listed.size := by omega
    have hm : mOf listed i = false := by
      unfold mOf
      simp only [Array.getD_eq_getD_getElem?, Array.getElem?_eq_getElem hlt, Option.getD_some] at h0 ⊢
      exact h0
    obtain ⟨it, g1, ⟨g2, g3⟩, g4⟩ := hit i o ho
    have hset : ∀ j, j < ops.size → mOf (listed.setIfInBounds i true) j = setM (mOf listed) i j := fun j hj => by
      unfold mOf setM
      by_cases hji : j = i
      · subst hji
        rw [Nat.beq_refl]
        simp [hlt]
      · rw [beq_false hji]
        simp only [Array.getD_eq_getD_getElem?, Array.getElem?_setIfInBounds_ne (Ne.symm hji)]
        rfl
    have hdn' : Dn ops (setM (mOf listed) i) := by
      intro j o' ho' hj p hp
      unfold setM at hj ⊢
      by_cases hji : j = i
      · subst hji
        rw [ho] at ho'
        cases ho'
        obtain ⟨e, he, rfl⟩ := List.mem_map.1 hp
        obtain ⟨he1, he2⟩ := List.mem_filter.1 he
        have := hpre e (by simpa using he1) he2
        unfold mOf
        rw [this]; simp
      · rw [beq_false hji] at hj
        have := hdn j o' ho' (by simpa using hj) p hp
        rw [this]; simp
    obtain ⟨q1, q2⟩ := at_any its g1 hm s0 his g4 fun j k hjk hk hmj hmk => by
      by_cases hji : j = i
      · subst hji
        rcases hmk with hmk | rfl
        · exact hpair j k hjk hk (mOf listed) hdn hmk hmj
        · exact absurd hjk (by omega)
      · refine hpair j k hjk hk (setM (mOf listed) i) hdn' ?_ (by unfold setM; rw [beq_false hji]; exact hmj)
        unfold setM
        rcases hmk with h | rfl
        · rw [h]; simp
        · rw [Nat.beq_refl]; rfl
    obtain ⟨Γ, hC⟩ := hC
    obtain ⟨cs, hcs, hev⟩ := g3 _ (foldM_n its _ s0 _) q1
    rw [wpO_eq ho]
    refine evOp_ok hev hcs G Γ a w Q _ hC fun Γ' a' w' hC' => ?_
    refine ih _ (rest.erase i) a' w' (by simp [hsz]) ?_ ?_ ?_ ⟨Γ', ?_⟩
    · have := List.length_erase_of_mem (hrest i his hm)
      omega
    · intro j hj hmj
      rw [hset j hj] at hmj
      unfold setM at hmj
      by_cases hji : j = i
      · subst hji; rw [Nat.beq_refl] at hmj; cases hmj
      · rw [beq_false hji] at hmj
        exact (List.mem_erase_of_ne hji).2 (hrest j hj (by simpa using hmj))
    · intro j o' ho' hj p hp
      have hjs : j < ops.size := (Array.getElem?_eq_some_iff.1 ho').1
      have hp' := htop j o' ho' p hp
      rw [hset p (by omega)]
      rw [hset j hjs] at hj
      exact hdn' j o' ho' hj p hp
    · rw [foldM_congr its s0 ops.size hset, q2]
      exact hC'

theorem Conc.drew {G Γ s a w} (h : Conc G Γ s a w) : Conc G Γ s a { w with drawn := w.drawn + 1 } := by
  have e : Ext (fun _ => False) Γ w Γ { w with drawn := w.drawn + 1 } := mk_ext fun _ _ => rfl
  refine ⟨h.size, h.defers, fun t => MV.ext e (fun id o _ ho => ⟨o, ho, rfl⟩) (fun d hd => hd.elim) (h.regs t), ⟨fun id ob ho => MO.ext e (fun h => h) (fun d hd => hd.elim) (fun _ _ => rfl) (h.heap.objs id ob ho), h.heap.lt, h.heap.inj, h.heap.ilt⟩,
    ⟨h.g.os, h.g.tape, h.g.output, h.g.size, h.g.prlt, h.g.keep, h.g.sub, h.g.bak, h.g.own⟩, h.ids⟩

theorem AMx.region_draw {P : Program} {R : Exit → AS → Prop} {k : List KI} {s : AS} {id : Nat} {ops : Array Oper} {ces : List (Nat × CE)} {ros : List (Nat × List Nat)} {ks hs : List Nat} {cs : List Prop} {s' : AS}
    (hm : P.follows .mixedOrders = true) (h : evDraw P ops ces ros s ks hs = some (cs, s')) (hc : allP cs) (hk : AMx P R k .normal s') : AMx P R (.code (.region id ops true) :: k) .normal s := by
  intro G Γ a w hC
  refine wp_region_any hm ?_
  unfold evDraw at h
  split at h
  case h_2 => cases h
  rename_i cs1 its s1 ht
  cases hB : topoB 0 ops.toList && pairB its 0 its (ancs ops.toList [])
  · rw [hB] at h; cases h
  rw [hB] at h
  simp only [cond_true, Option.some.injEq, Prod.mk.injEq] at h
  obtain ⟨rfl, rfl⟩ := h
  simp only [Bool.and_eq_true] at hB
  obtain ⟨h1, h2⟩ := trace_ok (full := its) (s0 := s) ops.toList 0 s s1 cs1 its ht hc (fun j => by rw [Nat.zero_add]) rfl
  have hanc : AncOk ops (ancs ops.toList []) := ancs_ok ops.toList [] (fun j => by simp) (fun j i hi => by simp at hi)
  refine wpAny_ok (its := its) (s0 := s) (ces := ces) (G := G) (fun j o ho => by
    have := h2 j o (by simpa using ho)
    rwa [Nat.zero_add] at this) (fun j o ho p hp => by
      have := topo_ok _ _ hB.1 j o (by simpa using ho) p hp
      omega) (fun i j hij hj m hdn hmj hmi x y hx hy => ?_) (fun Γ' a' w' hC' => ?_) ops.size _ (List.range ops.size) a _ (by simp) (by simp) (fun j hj _ => List.mem_range.2 hj) ?_ ⟨Γ, ?_⟩
  · rcases pairB_ok its 0 _ hB.2 j y hy i x (by omega) hx with h | h
    · have := hanc j i h m hdn hmj
      rw [hmi] at this; cases this
    · unfold free2B at h
      simp only [Bool.and_eq_true] at h
      exact h
  · refine ⟨_, Γ', hk, conc_le ?_ (le_proj _ _ _)⟩
    rw [h1]
    simpa using hC'
  · intro j o ho hj
    unfold mOf at hj
    simp only [Array.getD_eq_getD_getElem?, Array.getElem?_replicate] at hj
    split at hj <;> cases hj
  · have : foldM its (mOf (Array.replicate ops.size false)) ops.size s = s := by
      have e : ∀ k, foldM its (fun _ => false) k s = s := by
        intro k
        induction k with
        | zero => rfl
        | succ k ih => simpa [foldM] using ih
      rw [foldM_congr its (m' := fun _ => false) s ops.size fun j hj => by
        unfold mOf
        simp only [Array.getD_eq_getD_getElem?, Array.getElem?_replicate]
        split <;> rfl]
      exact e _
    rw [this]
    exact hC.drew
end AL
