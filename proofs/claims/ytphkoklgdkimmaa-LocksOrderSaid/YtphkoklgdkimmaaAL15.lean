/- An abstract logic, 15: variables, slices made, stores, conversions of bytes, iterators. No condition. -/
import Derived.Test.YtphkoklgdkimmaaAL14
namespace AL
open Go
set_option linter.unusedVariables false

/-- What a step with an effect leaves. -/
def EffOk (P : Program) (Γ : Ctx) (obj : Nat → Option AObj) (w : World) (f : Eff) (run : Result Value) : Prop :=
  f.obj = obj ∧ (∀ id o, ofH f.hin id = some o → obj id = some o) ∧ plainV f.res = true ∧
    ∃ v w' Γ', run = Result.ok v w' ∧ Post Γ (ofH f.hin) w Γ' f.new w' ∧ MV Γ' (ofH f.new) w' f.res v

theorem new_ok {P : Program} {Γ : Ctx} {obj : Nat → Option AObj} {w : World} {dst cells ce f} {T : TypeId} {cs : Array Value} (hh : HeapOk Γ obj w) (h : evNew obj dst cells ce = some f) (hm : MCs Γ w cells cs.toList) (hc : allP f.conds) :
    EffOk P Γ obj w f (Result.ok (.pointer (some ⟨w.heap.size, 0, none⟩)) (w.alloc (.cells cs T))) := by
  unfold evNew at h
  split at h
  · rename_i d
    split at h
    · cases h
    · rename_i hd
      have hd : acsHas d cells = false := by simpa using hd
      split at h
      · cases h
        exact ⟨rfl, fun _ _ h => (by cases h), rfl, _, _, _, rfl, alloc_row (heap0 hh) hm hd, by simp only [MV, MT, MC, mk_ρ]⟩
      · rename_i k n α dd row l
        cases h
        obtain ⟨hfl, hln⟩ := hc
        have hfl : flat k row l = cells := hfl
        have hln : l.length = n := hln
        have h0 := heap0 hh
        have hlen := hm.length
        rw [← hfl, length_flat, Array.length_toList] at hlen
        refine ⟨rfl, fun _ _ h => (by cases h), rfl, _, _, mkΓ Γ d w.heap.size undef, rfl, ?_, by simp only [MV, MT, MC, mk_ρ]⟩
        refine new_post h0 rfl rfl rfl rfl (by rw [alloc_size]; omega) (fun b hb => alloc_old w _ hb.1) ?_ fun b hb => ?_
        · refine ⟨cs, T, by rw [mk_ρ]; exact alloc_new w _, hln, by rw [← hln]; exact hlen, fun j x hx i hi => ?_⟩
          rw [← hfl] at hm
          obtain ⟨u, hu, hmu⟩ := get_flat k row l _ hm j x hx i hi
          exact ⟨u, by simpa using hu, MS.mono (fun b hb => hb) (fun b hb => alloc_old w _ (hh.ilt b hb)) hmu⟩
        · obtain ⟨h1, _⟩ := hb
          rw [mk_ρ] at h1
          subst h1
          exact ⟨by rw [alloc_size]; omega, fun hi => by have := hh.ilt _ hi; omega, fun hp => by have := hp.1; omega⟩
      · cases h
  · cases h

theorem zero_ok {P : Program} {T : TypeId} {cells : List AC} (h : zeroCellsOf P T = some cells) : ∃ i z, P.info? T = some i ∧ i.zero = some z ∧ z.cells.size = i.size ∧ ∀ Γ w, MCs Γ w cells z.cells.toList := by
  unfold zeroCellsOf at h
  split at h
  · rename_i i hi
    split at h
    · rename_i z hz
      split at h
      · rename_i hc
        simp only [Bool.and_eq_true, decide_eq_true_eq] at hc
        cases h
        exact ⟨i, z, hi, hz, hc.2, fun Γ w => liftsOk_ok _ hc.1⟩
      · cases h
    · cases h
  · cases h

/-- 'alloc'. -/
def evAlloc (P : Program) (obj : Nat → Option AObj) (dst : Option Tmp) (T : TypeId) (ce : Option CE) : Option Eff :=
  match zeroCellsOf P T with
  | some cells => evNew obj dst cells ce
  | none => none

theorem alloc_ok {P : Program} {Γ : Ctx} {obj w dst T ce f} (hh : HeapOk Γ obj w) (h : evAlloc P obj dst T ce = some f) (hc : allP f.conds) : EffOk P Γ obj w f ((Instr.alloc T true (.tuple #[])).run P w) := by
  unfold evAlloc at h
  split at h
  · rename_i cells hz
    obtain ⟨i, z, hi, hzz, _, hm⟩ := zero_ok hz
    have : (Instr.alloc T true (.tuple #[])).run P w = Result.ok (.pointer (some ⟨w.heap.size, 0, none⟩)) (w.alloc (.cells z.cells T)) := by
      simp [Instr.alloc, zeroValue, typeInfo, hi, hzz, newVar, newRow]
    rw [this]
    exact new_ok hh h (hm Γ w) hc
  · cases h

/-- 'box'. -/
def evBox (obj : Nat → Option AObj) (dst : Option Tmp) (x : AV) (ce : Option CE) : Option Eff :=
  match x with
  | .t (.arr k n α dd row l) => match dst with
    | some d => some ⟨[], .t (.c (.ptr d 0)), obj, [], [(d, .arr k n α dd row l)]⟩
    | none => none
  | x => match cellsA x with
    | some cells => evNew obj dst cells ce
    | none => none

theorem box_ok {P : Program} {Γ : Ctx} {obj w dst T x v ce f} (hh : HeapOk Γ obj w) (h : evBox obj dst x ce = some f) (hx : MV Γ obj w x v) (hc : allP f.conds) : EffOk P Γ obj w f ((Instr.box T v).run P w) := by
  have hr : (Instr.box T v).run P w = Result.ok (.pointer (some ⟨w.heap.size, 0, none⟩)) (w.alloc (.cells v.cells T)) := by
    simp [Instr.box, newVar, newRow]
  rw [hr]
  unfold evBox at h
  split at h
  · rename_i k n α dd row l
    split at h
    · rename_i d
      cases h
      obtain ⟨cs, rfl, hl, hs, hm⟩ := hx
      refine ⟨rfl, fun _ _ h => (by cases h), rfl, _, _, mkΓ Γ d w.heap.size undef, rfl, ?_, by simp only [MV, MT, MC, mk_ρ]⟩
      refine new_post (heap0 hh) rfl rfl rfl rfl (by rw [alloc_size]; omega) (fun b hb => alloc_old w _ hb.1) ?_ fun b hb => ?_
      · refine ⟨cs, T, by rw [mk_ρ]; exact alloc_new w _, hl, hs, fun j x hx i hi => ?_⟩
        obtain ⟨u, hu, hmu⟩ := hm j x hx i hi
        exact ⟨u, hu, MS.mono (fun b hb => hb) (fun b hb => alloc_old w _ (hh.ilt b hb)) hmu⟩
      · obtain ⟨h1, _⟩ := hb
        rw [mk_ρ] at h1
        subst h1
        exact ⟨by rw [alloc_size]; omega, fun hi => by have := hh.ilt _ hi; omega, fun hp => by have := hp.1; omega⟩
    · cases h
  · split at h
    · rename_i cells hcl
      exact new_ok hh h (cellsA_ok hcl hx) hc
    · cases h

/-- 'buildSlice'. -/
def evBuildSlice (P : Program) (obj : Nat → Option AObj) (dst : Option Tmp) (T : TypeId) (len : Nat) (parts : List (Nat × AV)) (ce : Option CE) : Option Eff :=
  match dst, P.underlying T, ce with
  | some d, some (.slice e), some (.obj (.grow T' k α dd row l)) =>
    match P.info? e, zeroCellsOf P e with
    | some i, some zc =>
      if Nat.beq T' e && (Nat.beq k i.size && (Nat.blt 0 k && Nat.ble (len * k) 1000)) then
        match fillA (fun j => some (j * i.size, i.size)) ((List.replicate len zc).flatten) parts with
        | some cells => some ⟨[flat k row l = cells, l.length = len], .t (.c (.own d)), obj, [], [(d, .grow T' k α dd row l)]⟩
        | none => none
      else none
    | _, _ => none
  | _, _, _ => none

theorem rep_ok {Γ w} {zc : List AC} {z : List Value} (hm : MCs Γ w zc z) : ∀ n, MCs Γ w (List.replicate n zc).flatten (List.replicate n z).flatten
  | 0 => trivial
  | n + 1 => by simp only [List.replicate_succ, List.flatten_cons]; exact hm.append (rep_ok hm n)

theorem made_eq (z : Array Value) : ∀ n, ((Array.range (n * z.size)).map (z[· % z.size]!)).toList = (List.replicate n z.toList).flatten := by
  intro n
  apply List.ext_getElem?
  intro j
  by_cases hz : z.size = 0
  · have : z = #[] := Array.eq_empty_of_size_eq_zero hz
    subst this; simp
  · have hl : ((List.replicate n z.toList).flatten).length = n * z.size := by simp
    by_cases hj : j < n * z.size
    · have h1 : ((Array.range (n * z.size)).map (z[· % z.size]!)).toList[j]? = some (z[j % z.size]!) := by
        simp [hj]
      rw [h1]
      have hm : j % z.size < z.size := Nat.mod_lt _ (by omega)
      have : ∀ n j, j < n * z.size → (List.replicate n z.toList).flatten[j]? = some (z[j % z.size]!) := by
        intro n
        induction n with
        | zero => intro j hj; simp at hj
        | succ n ih =>
          intro j hj
          simp only [List.replicate_succ, List.flatten_cons]
          by_cases h : j < z.size
          · rw [List.getElem?_append_left (by simpa using h), Nat.mod_eq_of_lt h]
            simp [h]
          · rw [List.getElem?_append_right (by simpa using h)]
            have := ih (j - z.toList.length) (by simp; rw [Nat.add_mul] at hj; omega)
            rw [this]
            congr 2
            simp only [Array.length_toList]
            exact (Nat.mod_eq_sub_mod (by omega)).symm
      exact (this n j hj).symm
    · rw [List.getElem?_eq_none (by simp; omega), List.getElem?_eq_none (by rw [hl]; omega)]

theorem buildSlice_ok {P : Program} {Γ : Ctx} {obj w dst T len} {parts : List (Nat × AV)} {vp : List (Nat × Value)} {ce f} (hh : HeapOk Γ obj w) (h : evBuildSlice P obj dst T len parts ce = some f) (hv : MParts Γ obj w parts vp) (hc : allP f.conds) :
    EffOk P Γ obj w f ((Instr.buildSlice T len vp.toArray).run P w) := by
  unfold evBuildSlice at h
  split at h
  · rename_i d e T' k α dd row l hu
    split at h
    · rename_i i zc hi hz
      split at h
      · rename_i hcc
        simp only [Bool.and_eq_true] at hcc
        obtain ⟨h1, h2, h3, h4⟩ := hcc
        have e1 := Nat.eq_of_beq_eq_true h1
        have e2 := Nat.eq_of_beq_eq_true h2
        have hk0 : 0 < k := Nat.lt_of_lt_of_le Nat.zero_lt_one (Nat.le_of_ble_eq_true h3)
        have hle : len * k ≤ 1000 := Nat.le_of_ble_eq_true h4
        subst e1 e2
        split at h
        · rename_i cells hf
          cases h
          obtain ⟨hfl, hln⟩ := hc
          have hfl : flat i.size row l = cells := hfl
          have hln : l.length = len := hln
          obtain ⟨i', z, hi', hzz, hzs, hmz⟩ := zero_ok hz
          rw [hi] at hi'; cases hi'
          have hrep : MCs Γ w (List.replicate len zc).flatten ((Array.range (len * i.size)).map (z.cells[· % z.cells.size]!)).toList := by
            have := made_eq z.cells len
            rw [hzs] at this ⊢
            rw [this]
            exact rep_ok (hmz Γ w) len
          obtain ⟨cells', hf1, hf2⟩ := fill_ok _ parts vp _ _ _ hv hf hrep
          have hlen := hf2.length
          rw [← hfl, length_flat, Array.length_toList, hln] at hlen
          have hr : (Instr.buildSlice T len vp.toArray).run P w = Result.ok (.slice (some ⟨w.heap.size, 0, none⟩) len len) (w.alloc (.cells cells' T')) := by
            by_cases h0 : len * i.size = 0
            · have hl0 : len = 0 := by
                rcases Nat.mul_eq_zero.1 h0 with h | h
                · exact h
                · omega
              have hc0 : cells' = #[] := Array.eq_empty_of_size_eq_zero (by rw [hlen]; exact h0)
              have : vp = [] := by
                cases vp with
                | nil => rfl
                | cons p vp =>
                  cases parts with
                  | nil => exact hv.elim
                  | cons q parts =>
                    exfalso
                    unfold fillA at hf
                    split at hf
                    · rename_i off size l' e1 e2
                      split at hf
                      · rename_i hle'
                        simp only [Option.some.injEq, Prod.mk.injEq] at e1
                        have := hle'.2
                        simp [hl0] at this
                        omega
                      · cases hf
                    · cases hf
              subst this hc0 hl0
              have hr0 : ∀ f : Nat → Value, Array.map f (Array.range 0) = #[] := fun f => Array.eq_empty_of_size_eq_zero (by simp)
              simp [Instr.buildSlice, run_underlying hu, run_sizeOf' hi, Instr.fill, newRow, hr0]
            · have hle' : ¬ (len * i.size > 2 ^ 24) := by omega
              exact run_buildSlice w T T' len vp.toArray cells' i z hu hi hzz hle' h0 (by simpa using hf1)
          rw [hr]
          refine ⟨rfl, fun _ _ h => (by cases h), rfl, _, _, _, rfl, alloc_grow (k := i.size) (cap := len) (dd := dd) (row := row) (l := l) (heap0 hh) rfl rfl rfl rfl hlen (by omega) (by simp only [maxLen]; have : len ≤ len * i.size := Nat.le_mul_of_pos_right _ hk0; omega) fun j x hx i' hi' => ?_, ?_⟩
          · rw [← hfl] at hf2
            obtain ⟨u, hu, hmu⟩ := get_flat i.size row l _ hf2 j x hx i' hi'
            exact ⟨u, by simpa using hu, hmu⟩
          · simp only [MV, MT, MC, mk_η]
            exact ⟨by rw [hln], rfl⟩
        · cases h
      · cases h
    · cases h
  · cases h

/-- 'makeSlice': all elements zero. -/
def MakeC (n : Nat) (zc : List AC) : AObj → Prop
  | .grow _ k α _ row l => ∃ z : α, l = List.replicate n z ∧ ofS k (row z) = zc
  | _ => False

def evMakeSlice (P : Program) (obj : Nat → Option AObj) (dst : Option Tmp) (T : TypeId) (len cap : AV) (ce : Option CE) : Option Eff :=
  match dst, P.underlying T, ce with
  | some d, some (.slice e), some (.obj (.grow T' k α dd row l)) =>
    match P.info? e, zeroCellsOf P e, len, cap with
    | some i, some zc, .t (.c (.s (.int _ n))), .t (.c (.s (.int _ c))) =>
      if Nat.beq T' e && Nat.beq k i.size then
        some ⟨[0 ≤ n, n ≤ c, (i.bytes : Int) * c ≤ 281474976710656, c ≤ 9223372036854775807, MakeC n.toNat zc (.grow T' k α dd row l)], .t (.c (.own d)), obj, [], [(d, .grow T' k α dd row l)]⟩
      else none
    | _, _, _, _ => none
  | _, _, _ => none

theorem makeSlice_ok {P : Program} {Γ : Ctx} {obj w dst T len cap vl vc ce f} (hh : HeapOk Γ obj w) (h : evMakeSlice P obj dst T len cap ce = some f) (hl : MV Γ obj w len vl) (hcp : MV Γ obj w cap vc) (hc : allP f.conds) :
    EffOk P Γ obj w f ((Instr.makeSlice T vl vc).run P w) := by
  unfold evMakeSlice at h
  split at h
  · rename_i d e T' k α dd row l hu
    split at h
    · rename_i i zc k1 n k2 c hi hz
      split at h
      · rename_i hcc
        simp only [Bool.and_eq_true] at hcc
        have e1 := Nat.eq_of_beq_eq_true hcc.1
        have e2 := Nat.eq_of_beq_eq_true hcc.2
        subst e1 e2
        cases h
        obtain ⟨h0, h1, h2, h3, x, h4, h5⟩ := hc
        have h0 : 0 ≤ n := h0
        have h1 : n ≤ c := h1
        have h2 : (i.bytes : Int) * c ≤ 281474976710656 := h2
        have h3 : c ≤ 9223372036854775807 := h3
        obtain ⟨rfl, _⟩ := hl
        obtain ⟨rfl, _⟩ := hcp
        obtain ⟨i', z, hi', hzz, hzs, hmz⟩ := zero_ok hz
        rw [hi] at hi'; cases hi'
        have hr := run_make (P := P) w T T' i z hu hi hzz k1 k2 n c h0 h1 h2 h3
        rw [hr]
        have hln : l.length = n.toNat := by rw [h4]; simp
        refine ⟨rfl, fun _ _ h => (by cases h), rfl, _, _, _, rfl, alloc_grow (k := i.size) (cap := c.toNat) (dd := dd) (row := row) (l := l) (heap0 hh) rfl rfl rfl rfl (by simp [madeCells]) (by omega) (by simp only [maxLen]; omega) fun j y hy i' hi' => ?_, ?_⟩
        · have hy' : y = x := by
            rw [h4] at hy
            rw [List.getElem?_replicate] at hy
            split at hy
            · cases hy; rfl
            · cases hy
          subst hy'
          have hj : j < l.length := (List.getElem?_eq_some_iff.1 hy).1
          have hmm := hmz Γ w
          rw [← h5] at hmm
          have e : (ofS i.size (row y))[i']? = some (.s (row y i')) := by simp [ofS, hi']
          obtain ⟨u, hu1, hu2⟩ := hmm.get e
          refine ⟨u, ?_, hu2⟩
          have hlt : j * i.size + i' < c.toNat * i.size := by
            have : (j + 1) * i.size ≤ c.toNat * i.size := Nat.mul_le_mul_right _ (by omega)
            rw [Nat.add_mul] at this; omega
          have hmod : (j * i.size + i') % i.size = i' := by rw [Nat.mul_comm, Nat.mul_add_mod, Nat.mod_eq_of_lt hi']
          simp only [madeCells, Array.getElem?_map, Array.getElem?_range]
          rw [if_pos hlt]
          simp only [Option.map_some, hzs, hmod]
          have hi2 : i' < z.cells.size := by omega
          rw [Array.getElem?_toList] at hu1
          simp [getElem!_def, hu1]
        · simp only [MV, MT, MC, mk_η]
          exact ⟨by rw [hln], rfl⟩
      · cases h
    · cases h
  · cases h
end AL
