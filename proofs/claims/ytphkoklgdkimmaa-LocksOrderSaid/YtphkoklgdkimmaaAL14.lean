/- An abstract logic, 14: all steps with an effect: what is asked, what is left. No condition. -/
import Derived.Test.YtphkoklgdkimmaaAL13
namespace AL
open Go
set_option linter.unusedVariables false

def rowU8 (b : UInt8) (_ : Nat) : SC := .int .u8 b.toNat

/-- What an effect comes to: what is asked; the value; the owned objects ahead of it (some were given up); those that it uses up or writes; those that it leaves. -/
structure Eff where
  conds : List Prop
  res : AV
  obj : Nat → Option AObj
  hin : List (Nat × AObj)
  new : List (Nat × AObj)

def zeroCellsOf (P : Program) (T : TypeId) : Option (List AC) :=
  match P.info? T with
  | some i =>
    match i.zero with
    | some z => if liftsOk z.cells.toList && decide (z.cells.size = i.size) then some (z.cells.toList.map fun v => .s (liftS v)) else none
    | none => none
  | none => none

/-- The object that a new block of cells is told to be. -/
def evNew (obj : Nat → Option AObj) (dst : Option Tmp) (cells : List AC) (ce : Option CE) : Option Eff :=
  match dst with
  | some d =>
    if acsHas d cells then none else
    match ce with
    | none => some ⟨[], .t (.c (.ptr d 0)), obj, [], [(d, .row cells)]⟩
    | some (.obj (.arr k n α dd row l)) => some ⟨[flat k row l = cells, l.length = n], .t (.c (.ptr d 0)), obj, [], [(d, .arr k n α dd row l)]⟩
    | _ => none
  | none => none

/-- The cells that are appended, and how many elements: of an owned slice, a shared one, a text, nil. -/
def evSrc (obj : Nat → Option AObj) (k : Nat) (v : AV) : Option (List AC × Nat) :=
  match v with
  | .t (.c (.s (.sl k' α d row l))) => if k' = k then some (flat k row l, l.length) else none
  | .t (.c (.own id)) => match obj id with
    | some (.grow _ k' α d row l) => if k' = k then some (flat k row l, l.length) else none
    | _ => none
  | .t (.c (.s .nilsl)) => some ([], 0)
  | .t (.c (.s (.str s))) => if k = 1 then some (flat 1 rowU8 s, s.length) else none
  | _ => none

def AppC (cells : List AC) (n : Nat) (bytes : Nat) : AObj → AObj → Prop
  | .grow T k α d row l, o => ∃ xs : List α, o = .grow T k α d row (l ++ xs) ∧ xs.length = n ∧ flat k row xs = cells ∧ (l.length + n) * bytes ≤ 140737488355328 ∧ l.length + n ≤ maxLen
  | _, _ => False

def nilObj : AObj → AObj
  | .grow T k α d row _ => .grow T k α d row []
  | o => o

def growFits (o : AObj) (e k : Nat) : Bool :=
  match o with
  | .grow T k' _ _ _ _ => Nat.beq T e && (Nat.beq k' k && Nat.blt 0 k)
  | _ => false

def notIntD : TypeDesc → Bool
  | .int _ => false
  | _ => true

def appOk (du : TypeDesc) (o : AObj) (e : TypeId) (i : TypeInfo) : Bool :=
  notIntD du && (growFits o e i.size && (match i.zero with | some z => decide (z.cells.size = i.size) | none => false))

def evAppend (P : Program) (obj : Nat → Option AObj) (dst : Option Tmp) (t u : TypeId) (s x : AV) (ce : Option CE) : Option Eff :=
  match dst, P.underlying t, P.underlying u, ce with
  | some d, some (.slice e), some du, some (.obj o) =>
    match P.info? e with
    | some i =>
      if appOk du o e i = false then none else
      match evSrc obj i.size x with
      | some (cells, n) =>
        match s with
        | .t (.c (.s .nilsl)) => some ⟨[AppC cells n i.bytes (nilObj o) o], .t (.c (.own d)), obj, [], [(d, o)]⟩
        | .t (.c (.own id)) => match obj id with
          | some (.grow T k α dd row l) => if Nat.beq T e && (Nat.beq k i.size && !(Nat.beq id d)) then some ⟨[AppC cells n i.bytes (.grow T k α dd row l) o], .t (.c (.own d)), obj, [(id, .grow T k α dd row l)], [(d, o)]⟩ else none
          | _ => none
        | _ => none
      | none => none
    | none => none
  | _, _, _, _ => none

theorem lenOf_src {P : Program} {Γ : Ctx} {obj : Nat → Option AObj} {w : World} {k : Nat} {x : AV} {vx : Value} {cells : List AC} {n : Nat} (hh : HeapOk Γ obj w) (h : evSrc obj k x = some (cells, n)) (hv : MV Γ obj w x vx) :
    (∀ w', (Builtin.lenOf vx).run P w' = Result.ok n w') ∧ ∃ news : List Value, MCs Γ w cells news ∧ news.length = n * k ∧ ∀ w', w'.heap = w.heap → (Builtin.firstCells k n vx).run P w' = Result.ok news.toArray w' := by
  unfold evSrc at h
  split at h
  · rename_i k' α d row l
    split at h
    · rename_i hk
      subst hk
      simp only [Option.some.injEq, Prod.mk.injEq] at h
      obtain ⟨rfl, rfl⟩ := h
      obtain ⟨a, cap, rfl, _, _, hl⟩ := hv
      refine ⟨fun w' => rfl, ?_⟩
      rcases hl with ⟨rfl, _⟩ | ⟨b, off, rfl, hb, hm⟩
      · refine ⟨[], trivial, by simp, fun w' hw' => ?_⟩
        cases a <;> simp [Builtin.firstCells, loadCells, loadCellsFrom]
      · have : ∃ vs : List Value, vs.length = l.length * k' ∧ ∀ j x, l[j]? = some x → ∀ i, i < k' → ∃ u, vs[j * k' + i]? = some u ∧ w.cell? ⟨b, off + j * k' + i, none⟩ = some u ∧ MS Γ.I w (row x i) u := by
          refine ⟨(List.range (l.length * k')).map fun q => (w.cell? ⟨b, off + q, none⟩).getD undef, by simp, fun j x hx i hi => ?_⟩
          obtain ⟨u, h1, h2⟩ := hm j x hx i hi
          have hj : j < l.length := (List.getElem?_eq_some_iff.1 hx).1
          have : (j + 1) * k' ≤ l.length * k' := Nat.mul_le_mul_right _ hj
          rw [Nat.add_mul] at this
          refine ⟨u, ?_, h1, h2⟩
          rw [List.getElem?_map, List.getElem?_range (by omega)]
          simp only [Option.map_some]
          rw [← Nat.add_assoc, h1]; rfl
        obtain ⟨vs, h1, h2⟩ := this
        refine ⟨vs, mk_flat k' row l vs h1 fun j x hx i hi => by obtain ⟨u, g1, _, g3⟩ := h2 j x hx i hi; exact ⟨u, g1, g3⟩, h1, fun w' hw' => ?_⟩
        refine run_firstCells_some w' k' l.length _ _ _ vs h1 fun j v hj => ?_
        have hjl : j < l.length * k' := by rw [← h1]; exact (List.getElem?_eq_some_iff.1 hj).1
        have hk0 : 0 < k' := by
          rcases Nat.eq_zero_or_pos k' with h0 | h0
          · subst h0; simp at hjl
          · exact h0
        have hdiv : j / k' < l.length := (Nat.div_lt_iff_lt_mul hk0).2 hjl
        obtain ⟨u, g1, g2, _⟩ := h2 (j / k') _ (List.getElem?_eq_getElem hdiv) (j % k') (Nat.mod_lt _ hk0)
        rw [Nat.add_assoc] at g2
        have e : j / k' * k' + j % k' = j := by rw [Nat.mul_comm]; exact Nat.div_add_mod j k'
        rw [e] at g1 g2
        rw [hj] at g1; cases g1
        rw [add_mk]
        unfold World.cell? at g2 ⊢
        rw [hw']; exact g2
    · cases h
  · rename_i id
    split at h
    · rename_i T k' α d row l hob
      split at h
      · rename_i hk
        subst hk
        simp only [Option.some.injEq, Prod.mk.injEq] at h
        obtain ⟨rfl, rfl⟩ := h
        obtain ⟨rfl, _⟩ := hv
        rcases hh.objs id _ hob with ⟨hη, rfl⟩ | ⟨cap, cur, hη, hb, hlc, hcm, hcs, hmm⟩
        · rw [hη]
          exact ⟨fun w' => rfl, [], trivial, by simp, fun w' hw' => by simp [Builtin.firstCells]⟩
        · rw [hη]
          have hlk : l.length * k' ≤ cur.size := by rw [hcs]; exact Nat.mul_le_mul_right _ hlc
          refine ⟨fun w' => rfl, cur.toList.take (l.length * k'), ?_, by simp; omega, fun w' hw' => ?_⟩
          · refine mk_flat k' row l _ (by simp; omega) fun j x hx i hi => ?_
            obtain ⟨u, h1, h2⟩ := hmm j x hx i hi
            have hj : j < l.length := (List.getElem?_eq_some_iff.1 hx).1
            have : (j + 1) * k' ≤ l.length * k' := Nat.mul_le_mul_right _ hj
            rw [Nat.add_mul] at this
            exact ⟨u, by rw [List.getElem?_take_of_lt (by omega), Array.getElem?_toList]; exact h1, h2⟩
          · refine run_firstCells_some w' k' l.length _ _ _ _ (by simp; omega) fun j v hj => ?_
            rw [add_mk, Nat.zero_add]
            have hb' : w'.heap[Γ.ρ id]? = some (.cells cur T (0, 0)) := by rw [hw']; exact hb
            rw [cell_of_heap hb']
            by_cases hjs : j < l.length * k'
            · rw [List.getElem?_take_of_lt hjs, Array.getElem?_toList] at hj; exact hj
            · rw [List.getElem?_take, if_neg hjs] at hj; cases hj
      · cases h
    · cases h
  · simp only [Option.some.injEq, Prod.mk.injEq] at h
    obtain ⟨rfl, rfl⟩ := h
    obtain rfl : vx = .slice none 0 0 := hv
    exact ⟨fun w' => rfl, [], trivial, by simp, fun w' hw' => by simp [Builtin.firstCells]⟩
  · rename_i s
    split at h
    · rename_i hk
      subst hk
      simp only [Option.some.injEq, Prod.mk.injEq] at h
      obtain ⟨rfl, rfl⟩ := h
      obtain ⟨rfl, _⟩ := hv
      refine ⟨fun w' => by simp [Builtin.lenOf, size_ba], Lib.strCells (ba s), ?_, by rw [Lib.strCells_length, size_ba]; simp, fun w' _ => by rw [← size_ba]; exact Lib.run_firstCells_string w' 1 (ba s)⟩
      refine mk_flat 1 rowU8 s _ (by rw [Lib.strCells_length, size_ba]; simp) fun j x hx i hi => ?_
      have hi0 : i = 0 := by omega
      subst hi0
      refine ⟨.int .u8 x.toNat, by simp [Lib.strCells, ba, hx], rfl, ?_⟩
      have := UInt8.toNat_lt x
      simp [InR, IntKind.min, IntKind.max, IntKind.signed, IntKind.bits]; omega
    · cases h
  · cases h

theorem append_ok {P : Program} {Γ : Ctx} {obj : Nat → Option AObj} {w : World} {dst t u ty s x ce f vs vx} (hh : HeapOk Γ obj w) (h : evAppend P obj dst t u s x ce = some f) (hs : MV Γ obj w s vs) (hx : MV Γ obj w x vx) (hc : allP f.conds) :
    f.obj = obj ∧ (∀ id o, ofH f.hin id = some o → obj id = some o) ∧ plainV f.res = true ∧
    ∃ v w' Γ', (Builtin.append_ #[t, u] ty #[vs, vx]).run P w = Result.ok v w' ∧ Post Γ (ofH f.hin) w Γ' f.new w' ∧ MV Γ' (ofH f.new) w' f.res v := by
  unfold evAppend at h
  split at h
  · rename_i d e du o hu1 hu2
    split at h
    · rename_i i hi
      split at h
      · cases h
      · rename_i hcond
        simp only [Bool.not_eq_false, appOk, Bool.and_eq_true] at hcond
        obtain ⟨hdu, hgf, hz⟩ := hcond
        have hdu' : ∀ k, du ≠ .int k := fun k hk => by subst hk; cases hdu
        cases hzz : i.zero with
        | none => simp [hzz] at hz
        | some z =>
        have hzs : z.cells.size = i.size := by simpa [hzz] using hz
        split at h
        · rename_i cells n hsrc
          obtain ⟨hlen, news, hm, hnl, hfc⟩ := lenOf_src (P := P) hh hsrc hx
          split at h
          · simp only [Option.some.injEq] at h
            subst h
            obtain rfl : vs = .slice none 0 0 := hs
            refine ⟨rfl, fun _ _ h => (by cases h), rfl, ?_⟩
            cases o with
            | grow T k α dd row l =>
              obtain ⟨xs, heq, hxl, hfl, hfit, h63⟩ := hc
              simp only [growFits, Bool.and_eq_true] at hgf
              have hT := Nat.eq_of_beq_eq_true hgf.1
              have hk := Nat.eq_of_beq_eq_true hgf.2.1
              have hk0 : 0 < i.size := Nat.lt_of_lt_of_le Nat.zero_lt_one (Nat.le_of_ble_eq_true hgf.2.2)
              subst hT hk
              simp only [List.nil_append, AObj.grow.injEq, heq_eq_eq, true_and] at heq
              subst heq
              subst hxl
              obtain ⟨v, w', g, h1, h2, h3⟩ := append_post (ty := ty) (d := d) (s := .slice none 0 0) (l := []) (xs := l) (dd := dd) (heap0 hh) rfl (.inl ⟨rfl, rfl⟩) hu1 hu2 hdu' hi hzz hzs rfl hk0 hlen hfc (by rw [hfl]; exact hm) (by simpa using hfit) (by simpa using h63)
              rw [List.nil_append] at h2
              exact ⟨v, w', _, h1, h2, by simp only [MV, MT, MC, mk_η]; exact ⟨trivial, h3⟩⟩
            | _ => simp [growFits] at hgf
          · rename_i id
            split at h
            · rename_i T k α dd row l hob
              split at h
              · rename_i hcc
                simp only [Bool.and_eq_true] at hcc
                have hT := Nat.eq_of_beq_eq_true hcc.1
                have hk := Nat.eq_of_beq_eq_true hcc.2.1
                have hne : id ≠ d := fun e => by subst e; simp [Nat.beq_refl] at hcc
                subst hT hk
                simp only [Option.some.injEq] at h
                subst h
                obtain ⟨rfl, _⟩ := hs
                have hsub : ∀ id' o', ofH [(id, AObj.grow T i.size α dd row l)] id' = some o' → obj id' = some o' := fun id' o' h => by obtain ⟨rfl, rfl⟩ := ofH_one.1 h; exact hob
                refine ⟨rfl, hsub, rfl, ?_⟩
                obtain ⟨xs, heq, hxl, hfl, hfit, h63⟩ := hc
                subst heq
                subst hxl
                simp only [growFits, Bool.and_eq_true] at hgf
                have hk0 : 0 < i.size := Nat.lt_of_lt_of_le Nat.zero_lt_one (Nat.le_of_ble_eq_true hgf.2.2)
                have hd : ofH [(id, AObj.grow T i.size α dd row l)] d = none := by
                  simp only [ofH, H0]; rw [beq_false (Ne.symm hne)]; rfl
                obtain ⟨v, w', g, h1, h2, h3⟩ := append_post (ty := ty) (d := d) (s := Γ.η id) (l := l) (xs := xs) (dd := dd) (heap_sub hh hsub) hd (.inr ⟨id, ofH_one.2 ⟨rfl, rfl⟩, rfl⟩) hu1 hu2 hdu' hi hzz hzs rfl hk0 hlen hfc (by rw [hfl]; exact hm) hfit h63
                exact ⟨v, w', _, h1, h2, by simp only [MV, MT, MC, mk_η]; exact ⟨trivial, h3⟩⟩
              · cases h
            · cases h
          · cases h
        · cases h
    · cases h
  · cases h
end AL
