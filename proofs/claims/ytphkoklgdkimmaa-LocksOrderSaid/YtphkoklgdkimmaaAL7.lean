/- An abstract logic, 7: struct values built and compared; 'pick'; the operations that only compute or read, all of them. No condition. -/
import Derived.Test.YtphkoklgdkimmaaAL6
namespace AL
open Go
set_option linter.unusedVariables false

/-- The cells of a value. -/
def cellsA : AV → Option (List AC)
  | .t (.c a) => some [a]
  | .t (.agg l) => some l
  | _ => none

theorem cellsA_ok {Γ obj w x v l} (h : cellsA x = some l) (hv : MV Γ obj w x v) : MCs Γ w l v.cells.toList := by
  unfold cellsA at h
  split at h
  · cases h
    have hv : MC Γ w _ v := hv
    have h1 := hv.one
    have : v.cells = #[v] := by cases v <;> first | rfl | cases h1
    rw [this]; exact ⟨hv, trivial⟩
  · cases h
    obtain ⟨cs, rfl, hm⟩ := hv
    exact hm
  · cases h

def fillA (place : Nat → Option (Nat × Nat)) (cells : List AC) : List (Nat × AV) → Option (List AC)
  | [] => some cells
  | (i, v) :: rest =>
    match place i, cellsA v with
    | some (off, size), some l => if l.length = size ∧ off + size ≤ cells.length then fillA place (cells.take off ++ (l ++ cells.drop (off + size))) rest else none
    | _, _ => none

theorem set_fold (off : Nat) : ∀ (us : List Value) (s : Nat) (cells : Array Value), off + s + us.length ≤ cells.size →
    ((us.zipIdx s).foldl (fun cs (p : Value × Nat) => cs.setIfInBounds (off + p.2) p.1) cells).toList = cells.toList.take (off + s) ++ (us ++ cells.toList.drop (off + s + us.length))
  | [], s, cells, h => by simp
  | u :: us, s, cells, h => by
    simp only [List.length_cons] at h
    simp only [List.zipIdx_cons, List.foldl_cons]
    rw [set_fold off us (s + 1) _ (by simp; omega)]
    apply List.ext_getElem?
    intro i
    simp only [Array.toList_setIfInBounds, List.getElem?_append, List.length_take, List.length_set, Array.length_toList, List.length_cons]
    have e1 : min (off + (s + 1)) cells.size = off + s + 1 := by omega
    have e2 : min (off + s) cells.size = off + s := by omega
    rw [e1, e2]
    by_cases h1 : i < off + s
    · rw [if_pos (show i < off + s + 1 by omega), if_pos h1, List.getElem?_take_of_lt (by omega), List.getElem?_take_of_lt h1, List.getElem?_set_ne (by omega)]
    · by_cases h2 : i = off + s
      · subst h2
        rw [if_pos (show off + s < off + s + 1 by omega), if_neg h1, if_pos (show off + s - (off + s) < us.length + 1 by omega), List.getElem?_take_of_lt (by omega), List.getElem?_set_self (by simp; omega)]
        simp
      · rw [if_neg (show ¬ i < off + s + 1 by omega), if_neg h1]
        by_cases h3 : i < off + s + 1 + us.length
        · rw [if_pos (show i - (off + s + 1) < us.length by omega), if_pos (show i - (off + s) < us.length + 1 by omega)]
          rw [show i - (off + s) = (i - (off + s + 1)) + 1 by omega]
          simp
        · rw [if_neg (show ¬ i - (off + s + 1) < us.length by omega), if_neg (show ¬ i - (off + s) < us.length + 1 by omega)]
          simp only [List.getElem?_drop]
          rw [List.getElem?_set_ne (by omega)]
          congr 1
          omega

def MParts (Γ : Ctx) (obj : Nat → Option AObj) (w : World) : List (Nat × AV) → List (Nat × Value) → Prop
  | [], [] => True
  | (i, x) :: p, (j, v) :: q => i = j ∧ MV Γ obj w x v ∧ MParts Γ obj w p q
  | _, _ => False

theorem fill_ok {Γ obj w} (place : Nat → Option (Nat × Nat)) : ∀ (parts : List (Nat × AV)) (vp : List (Nat × Value)) (L L' : List AC) (cells : Array Value),
    MParts Γ obj w parts vp → fillA place L parts = some L' → MCs Γ w L cells.toList → ∃ cells', Instr.fill place cells vp = some cells' ∧ MCs Γ w L' cells'.toList
  | [], [], L, L', cells, _, h, hm => by cases h; exact ⟨cells, rfl, hm⟩
  | [], _ :: _, _, _, _, h, _, _ => h.elim
  | _ :: _, [], _, _, _, h, _, _ => h.elim
  | (i, x) :: parts, (i', v) :: vp, L, L', cells, hv, h, hm => by
    obtain ⟨rfl, hv, hvs⟩ := hv
    unfold fillA at h
    cases hp : place i with
    | none => simp [hp] at h
    | some q =>
    obtain ⟨off, size⟩ := q
    cases hc : cellsA x with
    | none => simp [hp, hc] at h
    | some l =>
    simp only [hp, hc] at h
    split at h
    · rename_i hle
      have hvc := cellsA_ok hc hv
      have hlen := hvc.length
      have hcl := hm.length
      simp only [Array.length_toList] at hlen hcl
      have hs : v.cells.size = size := by omega
      unfold Instr.fill
      simp only [hp]
      rw [if_neg (by simp; omega)]
      have hfold : (v.cells.zipIdx.foldl (fun cs (c, j) => cs.setIfInBounds (off + j) c) cells).toList = cells.toList.take off ++ (v.cells.toList ++ cells.toList.drop (off + size)) := by
        have := set_fold off v.cells.toList 0 cells (by simp; omega)
        simp only [Nat.add_zero, Array.length_toList, hs] at this
        rw [← this, ← Array.foldl_toList, Array.toList_zipIdx]
      refine fill_ok place parts vp _ L' _ hvs h ?_
      rw [hfold]
      exact (hm.take off).append (hvc.append (hm.drop _))
    · cases h

/-- 'build'. -/
def evBuild (P : Program) (T : TypeId) (parts : List (Nat × AV)) : Option (List Prop × AV) :=
  match P.info? T with
  | some i =>
    match i.zero with
    | some (.agg z) =>
      if liftsOk z.toList then
        match P.underlying T with
        | some (.struct fs) =>
          (fillA (fun j => (fs[j]?).bind fun f => (P.info? f.type).map fun i => (f.offset, i.size)) (z.toList.map fun v => .s (liftS v)) parts).bind fun l =>
            if fs.all (fun f => (P.info? f.type).isSome) then some ([], .t (.agg l)) else none
        | some (.array _ e) =>
          (fillA (fun j => some (j * P.cellsOf e, P.cellsOf e)) (z.toList.map fun v => .s (liftS v)) parts).bind fun l => if (P.info? e).isSome then some ([], .t (.agg l)) else none
        | _ => none
      else none
    | _ => none
  | none => none

theorem run_places {P : Program} {w : World} : ∀ (fs : List Field), fs.all (fun f => (P.info? f.type).isSome) = true →
    (fs.mapM (fun f => (do pure (f.offset, ← Go.sizeOf f.type) : Sem (Nat × Nat)))).run P w = Result.ok (fs.map fun f => (f.offset, P.cellsOf f.type)) w
  | [], _ => rfl
  | f :: fs, h => by
    simp only [List.all_cons, Bool.and_eq_true] at h
    obtain ⟨h1, h2⟩ := h
    obtain ⟨i, hi⟩ := Option.isSome_iff_exists.1 h1
    have := run_places (w := w) fs h2
    have hc : P.cellsOf f.type = i.size := by simp [Program.cellsOf, hi]
    simp only [List.mapM_cons, Sem.run_bind, run_sizeOf' hi, Result.andThen_ok, Sem.run_pure, this, List.map_cons, hc]

theorem build_ok {P : Program} {Γ obj w T parts} {vp : List (Nat × Value)} {cs r} (h : evBuild P T parts = some (cs, r))
    (hv : MParts Γ obj w parts vp) :
    ∃ v, (Instr.build T vp.toArray).run P w = .ok v w ∧ MV Γ obj w r v := by
  unfold evBuild at h
  split at h
  · rename_i i hi
    split at h
    · rename_i z hz
      split at h
      · rename_i hok
        have hzr : (zeroValue T).run P w = Result.ok (.agg z) w := by simp [zeroValue, typeInfo, hi, hz]
        split at h
        · rename_i fs hu
          simp only [Option.bind_eq_some_iff] at h
          obtain ⟨l, hf, h⟩ := h
          split at h
          · rename_i hall
            simp only [Option.some.injEq, Prod.mk.injEq] at h
            obtain ⟨rfl, rfl⟩ := h
            obtain ⟨cells', hf1, hf2⟩ := fill_ok _ parts vp _ l z hv hf (liftsOk_ok _ hok)
            refine ⟨.agg cells', ?_, cells', rfl, hf2⟩
            have hpl : (fs.mapM (fun f => (do pure (f.offset, ← Go.sizeOf f.type) : Sem (Nat × Nat)))).run P w = Result.ok (fs.map fun f => (f.offset, P.cellsOf f.type)) w := by
              have h1 := run_places (P := P) (w := w) fs.toList (by simpa using hall)
              rw [Array.mapM_eq_mapM_toList, map_eq_pure_bind]
              simp only [Sem.run_bind, h1, Result.andThen_ok, Sem.run_pure]
              congr 1
              apply Array.ext'
              simp
            have hpe : (fun (x : Nat) => (fs.map fun f => (f.offset, P.cellsOf f.type))[x]?) = fun (j : Nat) => (fs[j]?).bind fun (f : Field) => (P.info? f.type).map fun i => (f.offset, i.size) := by
              funext j
              cases hj : fs[j]? with
              | none => simp [hj]
              | some f =>
                have : (P.info? f.type).isSome = true := by
                  rw [Array.all_eq_true] at hall
                  have := hall j (Array.getElem?_eq_some_iff.1 hj).1
                  rwa [(Array.getElem?_eq_some_iff.1 hj).2] at this
                obtain ⟨i, hi⟩ := Option.isSome_iff_exists.1 this
                simp [hj, hi, Program.cellsOf]
            rw [← hpe] at hf1
            simp only [Instr.build, Sem.run_bind, hzr, Result.andThen_ok, run_underlying hu, hpl, Value.cells]
            rw [hf1]
            rfl
          · cases h
        · rename_i n e hu
          simp only [Option.bind_eq_some_iff] at h
          obtain ⟨l, hf, h⟩ := h
          split at h
          · rename_i hall
            simp only [Option.some.injEq, Prod.mk.injEq] at h
            obtain ⟨rfl, rfl⟩ := h
            obtain ⟨cells', hf1, hf2⟩ := fill_ok _ parts vp _ l z hv hf (liftsOk_ok _ hok)
            obtain ⟨ie, hie⟩ := Option.isSome_iff_exists.1 hall
            refine ⟨.agg cells', ?_, cells', rfl, hf2⟩
            have : P.cellsOf e = ie.size := by simp [Program.cellsOf, hie]
            rw [this] at hf1
            simp only [Instr.build, Sem.run_bind, hzr, Result.andThen_ok, run_underlying hu, run_sizeOf' hie, Value.cells]
            simp [hf1]
          · cases h
        · cases h
      · cases h
    · cases h
  · cases h
/-- Equality of two values of one comparable type made of numbers, bools, texts and structs. -/
def partA (P : Program) (T : TypeId) (l : List AC) (off : Nat) : Option TV :=
  match P.underlying T, P.info? T with
  | some d, some i => if off + i.size ≤ l.length then gather d ((l.drop off).take i.size) else none
  | _, _ => none

def eqF (rec : TypeId → TV → TV → Option Bool) (P : Program) (xs ys : List AC) : List Field → Option Bool
  | [] => some true
  | f :: fs =>
    if f.name ≠ "_" then
      match partA P f.type xs f.offset, partA P f.type ys f.offset with
      | some a, some b =>
        match rec f.type a b, eqF rec P xs ys fs with
        | some r, some q => some (r && q)
        | _, _ => none
      | _, _ => none
    else none

def eqT (P : Program) : Nat → TypeId → TV → TV → Option Bool
  | 0, _, _, _ => none
  | n + 1, T, x, y =>
    match P.underlying T with
    | some (.int _) => match x, y with
      | .c (.s (.int k a)), .c (.s (.int k' b)) => if k = k' then some (decide (a = b)) else none
      | _, _ => none
    | some .bool => match x, y with
      | .c (.s (.bool a)), .c (.s (.bool b)) => some (a == b)
      | _, _ => none
    | some .string => match x, y with
      | .c (.s (.str a)), .c (.s (.str b)) => some (decide (a = b))
      | _, _ => none
    | some (.struct fs) => match x, y with
      | .agg xs, .agg ys => if P.stoodInHeld T = false then eqF (eqT P n) P xs ys fs.toList else none
      | _, _ => none
    | _ => none

theorem partA_ok {P : Program} {Γ w T l off r} {cur : Array Value} (h : partA P T l off = some r) (hm : MCs Γ w l cur.toList) :
    ∃ v, (part T cur off).run P w = .ok v w ∧ MT Γ w r v := by
  unfold partA at h
  split at h
  · rename_i d i hud hi
    split at h
    · rename_i hle
      exact run_part (P := P) (w := w) (cur := cur) (o := off) hud hi (by simp; omega) ((hm.drop off).take i.size) (fun j v hj => by
              by_cases hjs : j < i.size
              · rw [List.getElem?_take_of_lt hjs, List.getElem?_drop, Array.getElem?_toList] at hj; exact hj
              · rw [List.getElem?_take, if_neg hjs] at hj; cases hj) h
    · cases h
  · cases h

theorem eqF_ok {P : Program} {Γ : Ctx} {w : World} {d : Nat} {rec : TypeId → TV → TV → Option Bool} {xs ys : List AC} {cx cy : Array Value} (hx : MCs Γ w xs cx.toList) (hy : MCs Γ w ys cy.toList)
    (ih : ∀ T x y vx vy r, rec T x y = some r → MT Γ w x vx → MT Γ w y vy → (Op.equalIn d T vx vy).run P w = .ok r w) :
    ∀ (fs : List Field) (r : Bool), eqF rec P xs ys fs = some r → (Op.eqFields d cx cy fs).run P w = .ok r w
  | [], r, h => by cases h; rfl
  | f :: fs, r, h => by
    unfold eqF at h
    split at h
    · rename_i hn
      split at h
      · rename_i a b ha hb
        split at h
        · rename_i r1 q h1 h2
          cases h
          obtain ⟨va, e1, m1⟩ := partA_ok (cur := cx) ha hx
          obtain ⟨vb, e2, m2⟩ := partA_ok (cur := cy) hb hy
          have e3 := ih _ _ _ _ _ _ h1 m1 m2
          have e4 := eqF_ok hx hy ih fs q h2
          unfold Op.eqFields
          rw [if_pos hn]
          simp only [Sem.run_bind, e1, e2, e3, Result.andThen_ok]
          cases r1
          · simp
          · simpa using e4
        · cases h
      · cases h
    · cases h

theorem eqT_ok {P : Program} {Γ : Ctx} {w : World} : ∀ (n m : Nat) T x y vx vy r, eqT P n T x y = some r → MT Γ w x vx → MT Γ w y vy → (Op.equalIn (m + n) T vx vy).run P w = .ok r w
  | 0, _, _, _, _, _, _, _, h, _, _ => by cases h
  | n + 1, m, T, x, y, vx, vy, r, h, hx, hy => by
    unfold eqT at h
    rw [← Nat.add_assoc]
    split at h
    · rename_i k0 hu
      split at h
      · rename_i k a k' b
        split at h
        · rename_i hk
          subst hk
          cases h
          obtain ⟨rfl, _⟩ := hx
          obtain ⟨rfl, _⟩ := hy
          exact run_equalIn_int w (m + n) T k k0 a b hu
        · cases h
      · cases h
    · rename_i hu
      split at h
      · cases h
        obtain rfl := hx
        obtain rfl := hy
        exact run_equalIn_bool w (m + n) T _ _ hu
      · cases h
    · rename_i hu
      split at h
      · rename_i s t
        cases h
        obtain ⟨rfl, _⟩ := hx
        obtain ⟨rfl, _⟩ := hy
        rw [run_equalIn_string w (m + n) T _ _ hu, toList_ba, toList_ba]
        congr 1
        rw [Bool.eq_iff_iff]; simp
      · cases h
    · rename_i fs hu
      split at h
      · rename_i xs ys
        split at h
        · rename_i hst
          obtain ⟨cx, rfl, hcx⟩ := hx
          obtain ⟨cy, rfl, hcy⟩ := hy
          have hf : P.fieldsOf T = fs := by simp [Program.fieldsOf, hu]
          rw [run_equalIn_struct w (m + n) T cx cy (by rw [hf]; exact hu) hst, hf]
          exact eqF_ok hcx hcy (fun T x y vx vy r h hx hy => eqT_ok n m T x y vx vy r h hx hy) fs.toList r h
        · cases h
      · cases h
    · cases h

def evEq (P : Program) (op : BinOp) (T : TypeId) (x y : AV) : Option (List Prop × AV) :=
  match op, x, y with
  | .eql, .t (.c (.s (.bool a))), .t (.c (.s (.bool b))) => (eqT P 8 T (.c (.s (.bool a))) (.c (.s (.bool b)))).map fun r => ([], .t (.c (.s (.bool r))))
  | .neq, .t (.c (.s (.bool a))), .t (.c (.s (.bool b))) => (eqT P 8 T (.c (.s (.bool a))) (.c (.s (.bool b)))).map fun r => ([], .t (.c (.s (.bool (!r)))))
  | .eql, .t (.agg a), .t (.agg b) => if P.eqGuardType P.depth T = false then (eqT P 8 T (.agg a) (.agg b)).map fun r => ([], .t (.c (.s (.bool r)))) else none
  | .neq, .t (.agg a), .t (.agg b) => if P.eqGuardType P.depth T = false then (eqT P 8 T (.agg a) (.agg b)).map fun r => ([], .t (.c (.s (.bool (!r))))) else none
  | .eql, .t (.c (.s (.nn _))), .t (.c (.s .nilsl)) => match P.underlying T with
    | some (.slice _) => some ([], .t (.c (.s (.bool false))))
    | _ => none
  | .neq, .t (.c (.s (.nn _))), .t (.c (.s .nilsl)) => match P.underlying T with
    | some (.slice _) => some ([], .t (.c (.s (.bool true))))
    | _ => none
  | .eql, .t (.c (.s .nilsl)), .t (.c (.s .nilsl)) => match P.underlying T with
    | some (.slice _) => some ([], .t (.c (.s (.bool true))))
    | _ => none
  | .neq, .t (.c (.s .nilsl)), .t (.c (.s .nilsl)) => match P.underlying T with
    | some (.slice _) => some ([], .t (.c (.s (.bool false))))
    | _ => none
  | _, _, _ => none

theorem equalIn_slice {P : Program} {n : Nat} {T e : TypeId} {a : Option Addr} {la ca lb cb : Nat} {w : World} (hu : P.underlying T = some (.slice e)) :
    (Op.equalIn (n + 1) T (.slice a la ca) (.slice none lb cb)).run P w = Result.ok a.isNone w := by
  unfold Op.equalIn
  rw [Sem.run_bind, run_underlying hu]
  cases a <;> rfl

theorem eq_ok {P : Program} {Γ obj w op T x y a b cs r} {ox oy : Operand} (h : evEq P op T x y = some (cs, r)) (hx : MV Γ obj w x a) (hy : MV Γ obj w y b) :
    ∃ v, (do eqGuard op T ox oy a b; Go.binOp op T a b : Sem Value).run P w = .ok v w ∧ MV Γ obj w r v := by
  have hd : Op.maxDepth = 9992 + 8 := rfl
  unfold evEq at h
  split at h
  · rename_i p q
    simp only [Option.map_eq_some_iff, Prod.mk.injEq] at h
    obtain ⟨z, hz, rfl, rfl⟩ := h
    have := eqT_ok (P := P) (w := w) 8 9992 _ _ _ _ _ _ hz (show MT Γ w _ a from hx) (show MT Γ w _ b from hy)
    obtain rfl := hx
    obtain rfl := hy
    exact ⟨.bool z, by simp [eqGuard, Go.binOp, Op.equal, hd, this], rfl⟩
  · rename_i p q
    simp only [Option.map_eq_some_iff, Prod.mk.injEq] at h
    obtain ⟨z, hz, rfl, rfl⟩ := h
    have := eqT_ok (P := P) (w := w) 8 9992 _ _ _ _ _ _ hz (show MT Γ w _ a from hx) (show MT Γ w _ b from hy)
    obtain rfl := hx
    obtain rfl := hy
    exact ⟨.bool (!z), by simp [eqGuard, Go.binOp, Op.equal, hd, this], rfl⟩
  · rename_i p q
    split at h
    · rename_i hg
      simp only [Option.map_eq_some_iff, Prod.mk.injEq] at h
      obtain ⟨z, hz, rfl, rfl⟩ := h
      have := eqT_ok (P := P) (w := w) 8 9992 _ _ _ _ _ _ hz (show MT Γ w _ a from hx) (show MT Γ w _ b from hy)
      obtain ⟨cx, rfl, _⟩ := hx
      obtain ⟨cy, rfl, _⟩ := hy
      exact ⟨.bool z, by simp [eqGuard, Go.binOp, Op.equal, hd, this, hg], rfl⟩
    · cases h
  · rename_i p q
    split at h
    · rename_i hg
      simp only [Option.map_eq_some_iff, Prod.mk.injEq] at h
      obtain ⟨z, hz, rfl, rfl⟩ := h
      have := eqT_ok (P := P) (w := w) 8 9992 _ _ _ _ _ _ hz (show MT Γ w _ a from hx) (show MT Γ w _ b from hy)
      obtain ⟨cx, rfl, _⟩ := hx
      obtain ⟨cy, rfl, _⟩ := hy
      exact ⟨.bool (!z), by simp [eqGuard, Go.binOp, Op.equal, hd, this, hg], rfl⟩
    · cases h
  · split at h
    · rename_i e hu
      cases h
      obtain ⟨_, ad, n, cap, rfl⟩ := (show MS Γ.I w _ a from hx)
      obtain rfl : b = .slice none 0 0 := hy
      have hq := fun (a : Option Addr) (la ca : Nat) => @equalIn_slice P 9999 T e a la ca 0 0 w hu
      exact ⟨.bool false, by simp [eqGuard, Go.binOp, Op.equal, show Op.maxDepth = 9999 + 1 from rfl, hq], rfl⟩
    · cases h
  · split at h
    · rename_i e hu
      cases h
      obtain ⟨_, ad, n, cap, rfl⟩ := (show MS Γ.I w _ a from hx)
      obtain rfl : b = .slice none 0 0 := hy
      have hq := fun (a : Option Addr) (la ca : Nat) => @equalIn_slice P 9999 T e a la ca 0 0 w hu
      exact ⟨.bool true, by simp [eqGuard, Go.binOp, Op.equal, show Op.maxDepth = 9999 + 1 from rfl, hq], rfl⟩
    · cases h
  · split at h
    · rename_i e hu
      cases h
      obtain rfl : a = .slice none 0 0 := hx
      obtain rfl : b = .slice none 0 0 := hy
      have hq := fun (a : Option Addr) (la ca : Nat) => @equalIn_slice P 9999 T e a la ca 0 0 w hu
      exact ⟨.bool true, by simp [eqGuard, Go.binOp, Op.equal, show Op.maxDepth = 9999 + 1 from rfl, hq], rfl⟩
    · cases h
  · split at h
    · rename_i e hu
      cases h
      obtain rfl : a = .slice none 0 0 := hx
      obtain rfl : b = .slice none 0 0 := hy
      have hq := fun (a : Option Addr) (la ca : Nat) => @equalIn_slice P 9999 T e a la ca 0 0 w hu
      exact ⟨.bool false, by simp [eqGuard, Go.binOp, Op.equal, show Op.maxDepth = 9999 + 1 from rfl, hq], rfl⟩
    · cases h
  · cases h
end AL
