/- An abstract logic, 17: one step of a region, whatever it is; a region in the order of its text. No condition. An abstract logic, 18: each step of a region is carried out by the model as the evaluator says. No condition. An abstract logic, 19: regions in the order of their text, control, loops, functions. No condition. An abstract logic, 20: short names for the proofs of functions. No condition. An abstract logic, 21: what may be done to a state between two steps: an owned slice given up; nil as an owned slice; names changed; bounds learnt. No condition.  -/
import Derived.Test.YtbfhmgbgehenoaaALb
namespace AL
open Go
set_option linter.unusedVariables false

/-- An owned slice, cut short. -/
def evCutOwn (P : Program) (obj : Nat → Option AObj) (dst : Option Tmp) (T : TypeId) (x : AV) (lo hi mx : Option AV) : Option Eff :=
  match dst, x, lo, hi, mx with
  | some d, .t (.c (.own id)), none, some (.t (.c (.s (.int _ n)))), none =>
    match P.underlying T, obj id with
    | some (.slice e), some (.grow T' k α dd row l) =>
      if Nat.beq id d then none else
      if P.info? e ≠ none then some ⟨[0 ≤ n, n ≤ (l.length : Int)], .t (.c (.own d)), obj, [(id, .grow T' k α dd row l)], [(d, .grow T' k α dd row (l.take n.toNat))]⟩ else none
    | _, _ => none
  | _, _, _, _, _ => none

theorem cutOwn_ok {P : Program} {Γ : Ctx} {obj w dst T x} {lo hi mx : Option AV} {vx : Value} {vlo vhi vmx : Option Value} {f} (hh : HeapOk Γ obj w) (h : evCutOwn P obj dst T x lo hi mx = some f)
    (hx : MV Γ obj w x vx) (hlo : MVo Γ obj w lo vlo) (hhi : MVo Γ obj w hi vhi) (hmx : MVo Γ obj w mx vmx) (hc : allP f.conds) : EffOk P Γ obj w f ((Instr.sliceAt T vx vlo vhi vmx).run P w) := by
  unfold evCutOwn at h
  split at h
  · rename_i d id ik n
    split at h
    · rename_i e T' k α dd row l hu ho
      split at h
      · cases h
      · rename_i hne
        split at h
        · rename_i hi0
          cases h
          obtain ⟨h0, h1⟩ := (show 0 ≤ n ∧ n ≤ (l.length : Int) from hc)
          have hne : id ≠ d := fun e => hne (by subst e; exact Nat.beq_refl _)
          obtain ⟨inf, hinf⟩ : ∃ i, P.info? e = some i := by
            cases hx : P.info? e with
            | none => exact absurd hx hi0
            | some i => exact ⟨i, rfl⟩
          cases vlo with
          | some _ => exact hlo.elim
          | none =>
          cases vmx with
          | some _ => exact hmx.elim
          | none =>
          cases vhi with
          | none => exact hhi.elim
          | some vh =>
          obtain ⟨rfl, _⟩ : vh = .int ik n ∧ InR ik n := hhi
          obtain ⟨rfl, h1c⟩ := (show vx = Γ.η id ∧ _ from hx)
          have hsub : ∀ j o, ofH [(id, AObj.grow T' k α dd row l)] j = some o → obj j = some o := fun j o hj => by
            obtain ⟨rfl, rfl⟩ := ofH_one.1 hj; exact ho
          have hin : ofH [(id, AObj.grow T' k α dd row l)] id = some (.grow T' k α dd row l) := ofH_one.2 ⟨rfl, rfl⟩
          have hd0 : ofH [(id, AObj.grow T' k α dd row l)] d = none := by simp only [ofH]; rw [beq_false (Ne.symm hne)]; rfl
          have hn : n.toNat ≤ l.length := by omega
          have htk : (l.take n.toNat).length = n.toNat := by rw [List.length_take]; omega
          refine ⟨rfl, hsub, rfl, ?_⟩
          rcases hh.objs id _ ho with ⟨hη, rfl⟩ | ⟨cap, cur, hη, hb, hlc, hcm, hcs, hmm⟩
          · obtain rfl : n = 0 := by simp at h1; omega
            refine ⟨.slice none 0 0, w, mkΓ Γ d 0 (.slice none 0 0), ?_, ?_, by exact ⟨(mk_η Γ d _ _).symm, rfl⟩⟩
            · rw [hη]
              simp [Instr.sliceAt, run_underlying hu, Instr.slice, Instr.sliceBounds, run_sliceBound, run_sizeOf' hinf]
            · refine new_post (heap_sub hh hsub) hd0 rfl rfl rfl (Nat.le_refl _) (fun b hb => rfl) (.inl ⟨by rw [mk_η], by simp⟩) fun b hb => ?_
              obtain ⟨_, h2⟩ := hb
              simp only [mk_η] at h2
              exact absurd rfl h2
          · have hfp : fp Γ id (.grow T' k α dd row l) (Γ.ρ id) := ⟨rfl, by rw [hη]; simp⟩
            refine ⟨.slice (some ⟨Γ.ρ id, 0, none⟩) n.toNat cap, w, mkΓ Γ d (Γ.ρ id) (.slice (some ⟨Γ.ρ id, 0, none⟩) n.toNat cap), ?_, ?_, by exact ⟨(mk_η Γ d _ _).symm, rfl⟩⟩
            · rw [hη]
              have hb1 := run_sliceBound (P := P) (k := ik) (code := .sliceAcap) (w := w) (y := cap) h0 (by omega)
              simp [Instr.sliceAt, run_underlying hu, Instr.slice, Instr.sliceBounds, hb1, run_sizeOf' hinf, add_mk]
            · refine new_post (heap_sub hh hsub) hd0 rfl rfl rfl (Nat.le_refl _) (fun b hb => rfl) (.inr ⟨cap, cur, by rw [mk_η, mk_ρ, htk], by rw [mk_ρ]; exact hb, by rw [htk]; omega, hcm, hcs, fun j x hx i hi => ?_⟩) fun b hb' => ?_
              · rw [List.getElem?_take] at hx
                split at hx
                · exact hmm j x hx i hi
                · cases hx
              · obtain ⟨h1, _⟩ := hb'
                rw [mk_ρ] at h1
                subst h1
                exact ⟨fp_lt hh ho hfp, (hh.lt id _ _ ho hfp).2, fun hp => hp.2 id _ hin hfp⟩
        · cases h
    · cases h
  · cases h

/-- So many zero elements, appended onto nil. -/
theorem app_zero {P : Program} {w : World} {t u ty e : TypeId} {i : TypeInfo} {z : Value} {k0 : IntKind} (ht : P.underlying t = some (.slice e)) (hu : P.underlying u = some (.int k0)) (hi : P.info? e = some i) (hz : i.zero = some z) (hs : 0 < i.size)
    (n : Nat) (h1 : 1 ≤ n) (hfit : n * i.bytes ≤ 140737488355328) (h63 : n ≤ maxLen) :
    (Builtin.append_ #[t, u] ty #[.slice none 0 0, .int .i64 n]).run P w = Result.ok (.slice (some ⟨w.heap.size, 0, none⟩) n (grownCap w n 0 e))
      (w.drew.alloc (.cells (Builtin.zeroCells z.cells n ++ Builtin.zeroCells z.cells (grownCap w n 0 e - n)) e)) := by
  have hw : IntKind.wrap .i64 (n : Int) = n := wrap_of_inR (inR_len h63)
  simp only [maxLen] at h63
  have h63' : ¬ (9223372036854775807 < (n : Int)) := by omega
  have h0 : ¬ ((n : Int) < 0) := by omega
  have hfit' := growslice_fits (show 0 < n by omega) hfit
  have h48' : ¬ (281474976710656 < Builtin.nextslicecap n 0 * i.bytes) := by omega
  have h48 : ¬ (281474976710656 < (n : Int) * (i.bytes : Int)) := by
    have : ((n * i.bytes : Nat) : Int) ≤ 140737488355328 := by omega
    rw [Int.natCast_mul] at this; omega
  have hsz : ¬ (n * i.size = 0) := by
    have := Nat.mul_pos (show 0 < n by omega) hs; omega
  have hn0 : n ≠ 0 := by omega
  have hai : ∀ w, (asInt (.int .i64 (n : Int))).run P w = Result.ok (n : Int) w := fun w => rfl
  simp [Builtin.append_, run_underlying ht, run_underlying hu, run_sizeOf' hi, typeInfo, zeroValue, hi, hz, hw, h0, h48, h63', h48', Question.forced, newRow, grownCap, Builtin.firstCells, hai, hn0]
  exact fun h => absurd h hsz

def evAppZero (P : Program) (obj : Nat → Option AObj) (dst : Option Tmp) (t : TypeId) (s x : AV) (ce : Option CE) : Option Eff :=
  match dst, P.underlying t, ce, s, x with
  | some d, some (.slice e), some (.obj (.grow T' k α dd row l)), .t (.c (.s .nilsl)), .t (.c (.s (.int .i64 n))) =>
    match P.info? e, zeroCellsOf P e with
    | some i, some zc => if Nat.beq T' e && (Nat.beq k i.size && Nat.blt 0 k) then
        some ⟨[1 ≤ n, n * (i.bytes : Int) ≤ 140737488355328, MakeC n.toNat zc (.grow T' k α dd row l)], .t (.c (.own d)), obj, [], [(d, .grow T' k α dd row l)]⟩ else none
    | _, _ => none
  | _, _, _, _, _ => none

theorem appZero_ok {P : Program} {Γ : Ctx} {obj w dst t u ty s x vs vx ce f} {k0 : IntKind} (hu : P.underlying u = some (.int k0)) (hh : HeapOk Γ obj w) (h : evAppZero P obj dst t s x ce = some f) (hs : MV Γ obj w s vs) (hx : MV Γ obj w x vx) (hc : allP f.conds) :
    EffOk P Γ obj w f ((Builtin.append_ #[t, u] ty #[vs, vx]).run P w) := by
  unfold evAppZero at h
  split at h
  · rename_i d e T' k α dd row l n ht
    split at h
    · rename_i i zc hi hz
      split at h
      · rename_i hcc
        simp only [Bool.and_eq_true] at hcc
        have e1 := Nat.eq_of_beq_eq_true hcc.1
        have e2 := Nat.eq_of_beq_eq_true hcc.2.1
        have e3 : 0 < k := Nat.le_of_ble_eq_true hcc.2.2
        subst e1 e2
        cases h
        obtain ⟨h1, h2, x, h4, h5⟩ := hc
        have h1 : 1 ≤ n := h1
        have h2 : n * (i.bytes : Int) ≤ 140737488355328 := h2
        obtain rfl : vs = .slice none 0 0 := hs
        obtain ⟨rfl, hin⟩ := hx
        obtain ⟨i', z, hi', hzz, hzs, hmz⟩ := zero_ok hz
        rw [hi] at hi'; cases hi'
        obtain ⟨m, rfl⟩ : ∃ m : Nat, n = m := ⟨n.toNat, by omega⟩
        have hm63 : m ≤ maxLen := by
          have := hin.2
          have e : IntKind.max .i64 = 9223372036854775807 := by decide +kernel
          rw [e] at this
          simp only [maxLen]; omega
        have hr := app_zero (P := P) (w := w) (ty := ty) ht hu hi hzz e3 m (by omega) (by rw [← Int.natCast_mul] at h2; omega) hm63
        rw [hr]
        simp only [Int.toNat_natCast] at h4
        have hln : l.length = m := by rw [h4]; simp
        have hge := grownCap_ge w m 0 T'
        have hcm := grownCap_le_maxLen w m 0 T' hm63
        refine ⟨rfl, fun _ _ h => (by cases h), rfl, _, _, _, rfl, alloc_grow (k := i.size) (cap := grownCap w m 0 T') (dd := dd) (row := row) (l := l) (w1 := w.drew) (heap0 hh) rfl rfl rfl rfl ?_ (by omega) hcm fun j y hy i' hi' => ?_, ?_⟩
        · simp only [Array.size_append, size_zeroCells, hzs, ← Nat.add_mul]
          congr 1; omega
        · have hy' : y = x := by
            rw [h4] at hy
            rw [List.getElem?_replicate] at hy
            split at hy
            · cases hy; rfl
            · cases hy
          subst hy'
          have hj : j < l.length := (List.getElem?_eq_some_iff.1 hy).1
          have hmm := hmz Γ w
          rw [← h5] at hmm
          have e : (ofS i.size (row y))[i']? = some (.s (row y i')) := by simp [ofS, hi']
          obtain ⟨u, hu1, hu2⟩ := hmm.get e
          refine ⟨u, ?_, hu2⟩
          have hlt : j * i.size + i' < m * i.size := by
            have : (j + 1) * i.size ≤ m * i.size := Nat.mul_le_mul_right _ (by omega)
            rw [Nat.add_mul] at this; omega
          have hmod : (j * i.size + i') % i.size = i' := by rw [Nat.mul_comm, Nat.mul_add_mod, Nat.mod_eq_of_lt hi']
          rw [Array.getElem?_append_left (by rw [size_zeroCells, hzs]; exact hlt)]
          simp only [Builtin.zeroCells, Array.getElem?_map, Array.getElem?_range, hzs]
          rw [if_pos hlt]
          simp only [Option.map_some, hmod]
          rw [Array.getElem?_toList] at hu1
          simp [getElem!_def, hu1]
        · simp only [MV, MT, MC, mk_η]
          exact ⟨by rw [hln], rfl⟩
      · cases h
    · cases h
  · cases h

/-- All cells of an owned slice are written over by those of a slice as long. -/
def evCopy (P : Program) (obj : Nat → Option AObj) (t : TypeId) (s x : AV) (ce : Option CE) : Option Eff :=
  match s, ce with
  | .t (.c (.own id)), some (.obj (.grow T2 k2 α2 d2 row2 l2)) =>
    match P.underlying t, obj id with
    | some (.slice e), some (.grow T k α dd row l) =>
      match P.info? e with
      | some i =>
        match evSrc obj i.size x with
        | some (cells, n) =>
          if Nat.beq T2 T && (Nat.beq k2 k && Nat.beq k i.size) then
            some ⟨[flat k2 row2 l2 = cells, l2.length = n, l.length = n], .t (.c (.s (.int .i64 n))), obj, [(id, .grow T k α dd row l)], [(id, .grow T2 k2 α2 d2 row2 l2)]⟩
          else none
        | none => none
      | none => none
    | _, _ => none
  | _, _ => none

theorem copy_ok {P : Program} {Γ : Ctx} {obj w t u ty s x} {vs vx : Value} {ce f} (hh : HeapOk Γ obj w) (h : evCopy P obj t s x ce = some f)
    (hs : MV Γ obj w s vs) (hx : MV Γ obj w x vx) (hc : allP f.conds) : EffOk P Γ obj w f ((Builtin.copy_ #[t, u] ty #[vs, vx]).run P w) := by
  unfold evCopy at h
  split at h
  · rename_i id T2 k2 α2 d2 row2 l2
    split at h
    · rename_i e T k α dd row l hu ho
      split at h
      · rename_i inf hinf
        split at h
        · rename_i cells n hsrc
          split at h
          · rename_i hcc
            simp only [Bool.and_eq_true] at hcc
            have hT := Nat.eq_of_beq_eq_true hcc.1
            have hk2 := Nat.eq_of_beq_eq_true hcc.2.1
            have hk := Nat.eq_of_beq_eq_true hcc.2.2
            subst hT hk2 hk
            cases h
            obtain ⟨c1, c2, c3⟩ := (show flat inf.size row2 l2 = cells ∧ l2.length = n ∧ l.length = n from hc)
            obtain ⟨hlen, news, hm, hnl, hfc⟩ := lenOf_src (P := P) hh hsrc hx
            obtain ⟨rfl, _⟩ := (show vs = Γ.η id ∧ _ from hs)
            have hsub : ∀ j o, ofH [(id, AObj.grow T2 inf.size α dd row l)] j = some o → obj j = some o := fun j o hj => by
              obtain ⟨rfl, rfl⟩ := ofH_one.1 hj; exact ho
            have hin : ofH [(id, AObj.grow T2 inf.size α dd row l)] id = some (.grow T2 inf.size α dd row l) := ofH_one.2 ⟨rfl, rfl⟩
            refine ⟨rfl, hsub, rfl, ?_⟩
            rcases hh.objs id _ ho with ⟨hη, rfl⟩ | ⟨cap, cur, hη, hb, hlc, hcm, hcs, hmm⟩
            · obtain rfl : 0 = n := c3
              have hl2 : l2 = [] := List.eq_nil_of_length_eq_zero c2
              have hn0 : news = [] := List.eq_nil_of_length_eq_zero (by omega)
              subst hn0
              refine ⟨.int .i64 0, w, Γ, ?_, upd_post (heap_sub hh hsub) rfl rfl rfl (Nat.le_refl _) (fun b hb => rfl) (fun b hb => hb) (.inl ⟨hη, hl2⟩), ⟨rfl, by decide⟩⟩
              rw [hη]
              simp [Builtin.copy_, run_underlying hu, hlen, run_sizeOf' hinf, hfc w rfl, goInt]
            · have hfp : fp Γ id (.grow T2 inf.size α dd row l) (Γ.ρ id) := ⟨rfl, by rw [hη]; simp⟩
              have hnI := (hh.lt id _ _ ho hfp).2
              have hk' : ∀ cs b, b ≠ Γ.ρ id → (w.setRow (Γ.ρ id) cs).heap[b]? = w.heap[b]? := fun cs b hb => setRow_other w _ b _ hb
              have hle : n * inf.size ≤ cur.size := by rw [hcs, ← c3]; exact Nat.mul_le_mul_right _ hlc
              have hst := run_storeCells_at P (Γ.ρ id) 0 T2 news 0 cur w hb (by omega) hm.one
              simp only [Nat.add_zero, Nat.zero_add, List.take_zero, List.nil_append] at hst
              have hx2 : Ext (fun _ => False) Γ w Γ (w.setRow (Γ.ρ id) (news ++ cur.toList.drop news.length).toArray) := mk_ext fun b hb => hk' _ b fun e => hnI (e ▸ hb)
              refine ⟨.int .i64 n, w.setRow (Γ.ρ id) (news ++ cur.toList.drop news.length).toArray, Γ, ?_, upd_post (heap_sub hh hsub) rfl rfl rfl (by rw [setRow_size]; exact Nat.le_refl _) (fun b hb => hk' _ b (hb _ hfp)) (fun b hb => hb)
                (.inr ⟨cap, _, by rw [c2, ← c3]; exact hη, setRow_heap w _ _ _ _ _ hb, by rw [c2, ← c3]; exact hlc, hcm, ?_, fun j y hy i hi => ?_⟩), ⟨rfl, by simp only [maxLen] at hcm; simp [InR, IntKind.min, IntKind.max, IntKind.signed, IntKind.bits]; omega⟩⟩
              · rw [hη]
                simp [Builtin.copy_, run_underlying hu, hlen, run_sizeOf' hinf, hfc w rfl, goInt, c3, hst]
              · simp; omega
              · rw [← c1] at hm
                obtain ⟨u0, h1, h2⟩ := get_flat inf.size row2 l2 news hm j y hy i hi
                have hlt := (List.getElem?_eq_some_iff.1 h1).1
                refine ⟨u0, ?_, MS.mono (fun b hb => hb) (fun b hb => hk' _ b fun e => hnI (e ▸ hb)) h2⟩
                rw [List.getElem?_toArray, List.getElem?_append_left hlt]
                exact h1
          · cases h
        · cases h
      · cases h
    · cases h
  · cases h

/-- The operations with an effect (but a store): what is made is owned. -/
def evE0 (P : Program) (obj : Nat → Option AObj) (val : Operand → AV) (o : Oper) (ce : Option CE) : Option Eff :=
  match o.op with
  | .alloc T => evAlloc P obj o.dst T ce
  | .box _ x => evBox obj o.dst (val x) ce
  | .buildSlice T len parts => evBuildSlice P obj o.dst T len (parts.toList.map fun p => (p.1, val p.2)) ce
  | .makeSlice T l c => evMakeSlice P obj o.dst T (val l) (val c) ce
  | .call c => match c.callee with
    | .builtin .append => match c.args.toList, c.argTypes.toList with
      | [s, x], [t, u] => match P.underlying u with
        | some (.int _) => evAppZero P obj o.dst t (val s) (val x) ce
        | _ => evAppend P obj o.dst t u (val s) (val x) ce
      | _, _ => none
    | .builtin .copy => match c.args.toList, c.argTypes.toList with
      | [s, x], [t, u] => evCopy P obj t (val s) (val x) ce
      | _, _ => none
    | _ => none
  | .slice T x lo hi mx => evCutOwn P obj o.dst T (val x) (lo.map val) (hi.map val) (mx.map val)
  | .range T x => evRange P obj o.dst T (val x)
  | .next x true => evNext obj (val x) ce
  | .convert src dst x => evConv P obj src dst (val x) ce
  | _ => none

theorem evE0_ok {P : Program} {Γ : Ctx} {obj w} {val : Operand → AV} {ρ : Operand → Value} {o : Oper} {ce f} (hh : HeapOk Γ obj w) (h : evE0 P obj val o ce = some f) (hv : ∀ x ∈ o.op.operands.toList, MV Γ obj w (val x) (ρ x)) (hc : allP f.conds) :
    ∃ run, EffOk P Γ obj w f run ∧ (execOp ρ o).run P w = run.andThen fun v w' => Result.ok (.value v) w' := by
  have tl : ∀ {α : Type} {xs : Array α} {l : List α}, xs.toList = l → xs = l.toArray := fun h => by rw [← h]
  unfold evE0 at h
  unfold execOp
  split at h
  · rename_i T e; simp only [e]; exact ⟨_, alloc_ok hh h hc, by simp⟩
  · rename_i T x e; simp only [e]; exact ⟨_, box_ok (T := T) hh h (hv x (by simp [e, Op.operands])) hc, by simp⟩
  · rename_i T len parts e
    simp only [e]
    have := buildSlice_ok (P := P) hh h (mparts_map parts.toList fun y hy => hv y (by simpa [e, Op.operands] using hy)) hc
    rw [show (parts.toList.map fun p => (p.1, ρ p.2)).toArray = parts.map fun (i, x) => (i, ρ x) by apply Array.ext'; simp] at this
    exact ⟨_, this, by simp⟩
  · rename_i T l c e; simp only [e]; exact ⟨_, makeSlice_ok hh h (hv l (by simp [e, Op.operands])) (hv c (by simp [e, Op.operands])) hc, by simp⟩
  · rename_i c e
    simp only [e]
    split at h
    · rename_i hcal
      split at h
      · rename_i s x t u e1 e2
        split at h
        · rename_i k0 hu
          exact ⟨_, appZero_ok (ty := o.type) hu hh h (hv s (by simp [e, Op.operands, Call.operands, hcal, e1])) (hv x (by simp [e, Op.operands, Call.operands, hcal, e1])) hc, by simp [resolve, hcal, invoke, builtin, tl e1, tl e2]⟩
        · obtain ⟨h1, h2, h3, h4⟩ := append_ok (P := P) (ty := o.type) hh h (hv s (by simp [e, Op.operands, Call.operands, hcal, e1])) (hv x (by simp [e, Op.operands, Call.operands, hcal, e1])) hc
          exact ⟨_, ⟨h1, h2, h3, h4⟩, by simp [resolve, hcal, invoke, builtin, tl e1, tl e2]⟩
      · cases h
    · rename_i hcal
      split at h
      · rename_i s x t u e1 e2
        exact ⟨_, copy_ok (ty := o.type) (u := u) hh h (hv s (by simp [e, Op.operands, Call.operands, hcal, e1])) (hv x (by simp [e, Op.operands, Call.operands, hcal, e1])) hc, by simp [resolve, hcal, invoke, builtin, tl e1, tl e2]⟩
      · cases h
    · cases h
  · rename_i T x lo hi mx e
    simp only [e]
    have hm : ∀ (q : Option Operand), (∀ y, q = some y → y ∈ o.op.operands.toList) → MVo Γ obj w (q.map val) (q.map ρ) := fun q hq => mvo_map q fun y hy => hv y (hq y hy)
    refine ⟨_, cutOwn_ok hh h (hv x (by simp [e, Op.operands])) (hm lo fun y hy => by simp [e, Op.operands, hy]) (hm hi fun y hy => by simp [e, Op.operands, hy]) (hm mx fun y hy => by simp [e, Op.operands, hy]) hc, by simp⟩
  · rename_i T x e; simp only [e]; exact ⟨_, range_ok hh h (hv x (by simp [e, Op.operands])), by simp⟩
  · rename_i x e; simp only [e]; exact ⟨_, next_ok (ty := o.type) hh h (hv x (by simp [e, Op.operands])) hc, by simp⟩
  · rename_i src dst x e; simp only [e]; exact ⟨_, conv_ok hh h (hv x (by simp [e, Op.operands])) hc, by simp⟩
  · cases h

/-- What was made is shared at once. -/
def shr (f : Eff) : Option Eff :=
  match f.new, f.res with
  | [(d, o)], .t (.c (.own d')) => if Nat.beq d' d then
      match fzOb o with
      | some (.sl c) => some ⟨f.conds, .t (.c (.s c)), f.obj, f.hin, []⟩
      | _ => none
    else none
  | [(d, o)], .t (.c (.ptr d' 0)) => if Nat.beq d' d then
      match fzOb o with
      | some (.row l) => some ⟨f.conds, .t (.c (.s (.ref l.length (rl l)))), f.obj, f.hin, []⟩
      | _ => none
    else none
  | _, _ => none

theorem shr_ok {P : Program} {Γ : Ctx} {obj w f f'} {run : Result Value} (h : EffOk P Γ obj w f run) (hs : shr f = some f') : f'.conds = f.conds ∧ EffOk P Γ obj w f' run := by
  obtain ⟨h1, h2, h3, v, w', Γ', h4, h5, h6⟩ := h
  have key : ∀ (d : Nat) (o : AObj) (z : FzV), f.new = [(d, o)] → fzOb o = some z → ∃ Γ2 : Ctx, Post Γ (ofH f.hin) w Γ2 [] w' ∧ ∃ Γ1 : Ctx, FzOk Γ1 w' d z ∧ Γ1.I = Γ2.I ∧ Γ1.ρ = Γ'.ρ ∧ Γ1.η = Γ'.η := by
    intro d o z hn hz
    rw [hn] at h5
    obtain ⟨Γ1, q1, q2, q3, q4, q5, q6, _⟩ := freeze_ok h5.heap h5.g (ofH_one.2 ⟨rfl, rfl⟩) hz
    refine ⟨⟨Γ1.I, Γ.ρ, Γ.η⟩, ⟨⟨fun _ _ h => (by cases h), fun _ _ _ h => (by cases h), fun _ _ _ _ _ h => (by cases h), q1.ilt, q1.glob⟩, ⟨q2.os, q2.tape, q2.output, q2.size, q2.prlt, q2.keep, q2.sub, q2.bak, fun _ _ _ h => (by cases h)⟩, fun _ _ => ⟨rfl, rfl⟩⟩, Γ1, q4, rfl, q5, q6⟩
  unfold shr at hs
  split at hs
  · rename_i d o d' hn hr
    split at hs
    · rename_i hd
      obtain rfl := Nat.eq_of_beq_eq_true hd
      split at hs
      · rename_i c hz
        cases hs
        obtain ⟨Γ2, hp, Γ1, hf, e1, e2, e3⟩ := key _ o _ hn hz
        rw [hr] at h6
        obtain ⟨rfl, _⟩ := (show v = Γ'.η _ ∧ _ from h6)
        refine ⟨rfl, h1, h2, rfl, _, w', Γ2, h4, hp, ?_⟩
        show MS Γ2.I w' c _
        rw [← e1, ← e3]; exact hf
      · cases hs
    · cases hs
  · rename_i d o d' hn hr
    split at hs
    · rename_i hd
      obtain rfl := Nat.eq_of_beq_eq_true hd
      split at hs
      · rename_i l hz
        cases hs
        obtain ⟨Γ2, hp, Γ1, hf, e1, e2, e3⟩ := key _ o _ hn hz
        rw [hr] at h6
        obtain rfl : v = .pointer (some ⟨Γ'.ρ _, 0, none⟩) := h6
        refine ⟨rfl, h1, h2, rfl, _, w', Γ2, h4, hp, ?_⟩
        have := hf 0
        rw [List.drop_zero, e1, e2] at this
        exact this
      · cases hs
    · cases hs
  · cases hs

/-- The operations with an effect (but a store): what is made is owned, or, if so told, shared at once. -/
def evE (P : Program) (obj : Nat → Option AObj) (val : Operand → AV) (o : Oper) (ce : Option CE) : Option Eff :=
  match ce with
  | some (.shr oo) => (evE0 P obj val o (oo.map .obj)).bind shr
  | ce => evE0 P obj val o ce

theorem evE_ok {P : Program} {Γ : Ctx} {obj w} {val : Operand → AV} {ρ : Operand → Value} {o : Oper} {ce f} (hh : HeapOk Γ obj w) (h : evE P obj val o ce = some f) (hv : ∀ x ∈ o.op.operands.toList, MV Γ obj w (val x) (ρ x)) (hc : allP f.conds) :
    ∃ run, EffOk P Γ obj w f run ∧ (execOp ρ o).run P w = run.andThen fun v w' => Result.ok (.value v) w' := by
  unfold evE at h
  split at h
  · rename_i oo
    simp only [Option.bind_eq_some_iff] at h
    obtain ⟨f0, h1, h2⟩ := h
    have hcc : f.conds = f0.conds := by
      unfold shr at h2
      repeat' split at h2
      all_goals first | (cases h2; rfl) | cases h2
    obtain ⟨run, q1, q2⟩ := evE0_ok hh h1 hv (by rw [← hcc]; exact hc)
    exact ⟨run, (shr_ok q1 h2).2, q2⟩
  · exact evE0_ok hh h hv hc

/-- A call, by its contract. -/
def evCall (P : Program) (obj : Nat → Option AObj) (val : Operand → AV) (c : Call) (ce : Option CE) : Option Eff :=
  match c.callee, ce with
  | .value fo, some (.call fz hin res new) =>
    match val fo, tvsOf (c.args.toList.map val) with
    | .t (.c (.fn f caps)), some args =>
      match evFreeze obj (args ++ caps.map capT) fz with
      | some (obj', args') => if plainV res then some ⟨[Spec P f args' (ofH (restr obj' hin)) res (ofH new)], res, obj', restr obj' hin, new⟩ else none
      | none => none
    | _, _ => none
  | _, _ => none

theorem evCall_ok {P : Program} {G : Gd} {Γ : Ctx} {obj w} {val : Operand → AV} {ρ : Operand → Value} {o : Oper} {c : Call} {ce f} (he : o.op = .call c) (hh : HeapOk Γ obj w) (hg : GOk G Γ obj w) (h : evCall P obj val c ce = some f) (hv : ∀ x ∈ o.op.operands.toList, MV Γ obj w (val x) (ρ x)) (hc : allP f.conds) :
    plainV f.res = true ∧ ∃ Γ1, HeapOk Γ1 f.obj w ∧ GOk G Γ1 f.obj w ∧ Ext (fun _ => False) Γ w Γ1 w ∧ (∀ id o, f.obj id = some o → obj id = some o) ∧ (∀ id o, ofH f.hin id = some o → f.obj id = some o) ∧
    ∃ fid args, (execOp ρ o).run P w = Result.ok (.enter fid args) w ∧ Calls P fid args w fun e w' => ∃ v Γ', e = .returned v ∧ Post Γ1 (ofH f.hin) w Γ' f.new w' ∧ MV Γ' (ofH f.new) w' f.res v := by
  unfold evCall at h
  split at h
  · rename_i fo fz hin res new hcal
    split at h
    · rename_i fid caps args hfo hargs
      split at h
      · rename_i obj' args' hfr
        split at h
        · rename_i hpl
          cases h
          obtain ⟨⟨fn, hfn, hbody, hname⟩, hspec⟩ := hc
          have hm := tvsOf_ok _ _ (fun y hy => hv y (by simp only [he, Op.operands, Call.operands, hcal, Array.toList_append]; exact List.mem_append_right _ hy)) hargs
          have hf := hv fo (by simp [he, Op.operands, Call.operands, hcal])
          rw [hfo] at hf
          obtain ⟨cs, hfv, hcaps⟩ := hf
          have hm2 := MTs.append hm (capsT_ok hcaps)
          obtain ⟨Γ1, h1, g1, m1, e1, r1, n1, s1⟩ := evFreeze_ok fz hfr hh hg hm2
          have hsub : ∀ id o, ofH (restr obj' hin) id = some o → obj' id = some o := fun id o h => restr_ok hin h
          refine ⟨hpl, Γ1, h1, g1, e1, s1, hsub, fid, c.args.map ρ ++ cs, ?_, ?_⟩
          · have hname' : fn.name ≠ "runtime.NumGoroutine" := by simpa using hname
            unfold execOp
            simp only [he]
            simp [resolve, hcal, hfv, Deferred.ofValue, invoke, callFunc, hfn, hname']
            intro h0
            rw [h0] at hbody
            cases hbody
          · refine (hspec Γ1 w _ (heap_sub h1 hsub) (by simpa using m1)).mono ?_
            rintro e w' ⟨v, Γ', rfl, hv', hh', hg', ha⟩
            exact ⟨v, Γ', rfl, ⟨hh', hg', ha⟩, hv'⟩
        · cases h
      · cases h
    · cases h
  · cases h

/-! ### 'pick' -/
/-- What must hold under a condition: nothing, if nothing must. -/
def gp (p : Prop) : List Prop → List Prop
  | [] => []
  | c :: l => [p → allP (c :: l)]
theorem gp_ok {p : Prop} {l : List Prop} (h : allP (gp p l)) : p → allP l := by
  cases l with
  | nil => exact fun _ => trivial
  | cons c l => exact h
def evPick (s : AS) (c a b : Operand) : Option (List Prop × AV) :=
  match (s.val c).strip with
  | .t (.c (.s (.bool cb))) =>
    match a, b with
    | .const (.bool true), b => match (s.val b).strip with
      | .t (.c (.s (.bool y))) => some ((s.val c).cond ++ gp (cb = false) (s.val b).cond, .t (.c (.s (.bool (cb || y)))))
      | _ => none
    | a, .const (.bool false) => match (s.val a).strip with
      | .t (.c (.s (.bool y))) => some ((s.val c).cond ++ gp (cb = true) (s.val a).cond, .t (.c (.s (.bool (cb && y)))))
      | _ => none
    | _, _ => none
  | _ => none

/-! ### One step -/
def condsOf (s : AS) (op : Op) : List Prop := op.operands.toList.flatMap fun x => (s.val x).cond

def okDst (s : AS) (o : Oper) : Bool := match o.dst with | none => true | some d => Nat.blt d s.n

/-- The state behind an effect. -/
def effSt (s : AS) (dst : Option Tmp) (f : Eff) : AS :=
  AS.set ⟨s.n, fun t => scrubV (ofH f.hin) (keysNew (ofH f.hin) f.new) (s.reg t), afterObj f.obj (ofH f.hin) (ofH f.new) (keysNew (ofH f.hin) f.new)⟩ dst f.res

/-- The names that a step makes are slots' numbers. -/
def effIds (s : AS) (f : Eff) : Bool := (keysNew (ofH f.hin) f.new).all (fun d => Nat.blt d s.n)

/-- Without a change of the owned objects: nothing is to be scrubbed. -/
def effSt' (s : AS) (dst : Option Tmp) (f : Eff) : AS :=
  match f.hin, f.new with
  | [], [] => AS.set ⟨s.n, s.reg, f.obj⟩ dst f.res
  | _, _ => effSt s dst f

/-- A guard: the condition under which the operation runs. -/
def guardP (ops : Array Oper) (s : AS) (j : Nat) (want : Bool) : Option Prop :=
  match (ops[j]?).bind (·.dst) with
  | some t => match s.reg t with
    | .t (.c (.s (.bool b))) => some (b = want)
    | .whn p (.t (.c (.s (.bool b)))) => some (p ∧ b = want)
    | _ => none
  | none => none

/-- One operation that bears no guard. 'some (conditions, the state behind it)'. -/
def ev1 (P : Program) (s : AS) (o : Oper) (ce : Option CE) : Option (List Prop × AS) :=
  if okDst s o then
    match o.op with
    | .move x | .assign x => some ([], s.set o.dst (s.val x))
    | .pick c a b => (evPick s c a b).map fun r => (r.1, s.set o.dst r.2)
    | .store T a x => match o.dst with
      | none => match evStore P s.obj T (s.val a).strip (s.val x).strip ce with
        | some f => if effIds s f then some (condsOf s o.op ++ f.conds, effSt' s none ⟨[], .any, f.obj, f.hin, f.new⟩) else none
        | none => none
      | some _ => none
    | op =>
      match evV P s.obj (fun x => (s.val x).strip) op with
      | some r => some (condsOf s op ++ r.1, s.set o.dst r.2)
      | none =>
        match evE P s.obj (fun x => (s.val x).strip) o ce with
        | some f => if effIds s f then some (condsOf s op ++ f.conds, effSt' s o.dst f) else none
        | none => match op with
          | .call c => match evCall P s.obj (fun x => (s.val x).strip) c ce with
            | some f => if effIds s f then some (condsOf s op ++ f.conds, effSt' s o.dst f) else none
            | none => none
          | _ => none
  else none

/-- One operation under a guard: it computes, or calls what owns nothing. -/
def evGv (P : Program) (s : AS) (op : Op) : Option (List Prop × AV) :=
  match op with
  | .pick c a b => evPick s c a b
  | op => match evV P s.obj (fun x => (s.val x).strip) op with
    | some r => some (condsOf s op ++ r.1, r.2)
    | none => none

def ev1g (P : Program) (ops : Array Oper) (s : AS) (o : Oper) (ce : Option CE) (j : Nat) (want : Bool) : Option (List Prop × AS) :=
  if okDst s o then
    match guardP ops s j want with
    | some p =>
      match evGv P s o.op with
      | some r => some (gp p r.1, s.set o.dst (.whn p r.2))
      | none => match o.op, ce with
        | .call c, some (.call [] [] res []) => match evCall P s.obj (fun x => (s.val x).strip) c (some (.call [] [] res [])) with
          | some f => some (gp p (condsOf s o.op ++ f.conds), s.set o.dst (.whn p f.res))
          | none => none
        | _, some (.shr oo) => match evE P s.obj (fun x => (s.val x).strip) o (some (.shr oo)) with
          | some f => match f.hin, f.new with
            | [], [] => some (gp p (condsOf s o.op ++ f.conds), s.set o.dst (.whn p f.res))
            | _, _ => none
          | none => none
        | _, _ => none
    | none => none
  else none

def evOp (P : Program) (ops : Array Oper) (s : AS) (o : Oper) (ce : Option CE) : Option (List Prop × AS) :=
  match o.guard with
  | none => ev1 P s o ce
  | some (j, want) => ev1g P ops s o ce j want

/-- What one operation must come to, whatever stands behind it. -/
def wpO (P : Program) (ops : Array Oper) (Q : Exit → Act → World → Prop) (o : Oper) (K : Act → World → Prop) (a : Act) (w : World) : Prop :=
  if Region.wanted o (yielded ops a.tmps) then o.wp P a w K Q ∨ (o.asks P a w ∧ LetsOut Q) else K (a.put o.dst undef) w

theorem conc_obj {G Γ s a w} (h : Conc G Γ s a w) {obj' : Nat → Option AObj} {Γ' : Ctx} (hh : HeapOk Γ' obj' w) (hg : GOk G Γ' obj' w) (he : Ext (fun _ => False) Γ w Γ' w) (hs : ∀ id o, obj' id = some o → s.obj id = some o) :
    Conc G Γ' ⟨s.n, s.reg, obj'⟩ a w :=
  ⟨h.size, h.defers, fun t => MV.ext he (fun id o _ ho => ⟨o, hs id o ho, rfl⟩) (fun d hd => hd.elim) (h.regs t), hh, hg, fun id hid => by
    obtain ⟨e1, e2⟩ := he.agree id (fun h => h)
    rw [e1, e2]; exact h.ids id hid⟩

theorem scrub_nil {H : Nat → Option AObj} (hH : ∀ id, H id = none) (v : AV) : scrubV H [] v = v := by
  unfold scrubV
  have : ∀ v, oelIn H v = false := by
    intro v
    induction v with
    | oel id i j => simp [oelIn, hH]
    | whn p x ih => simpa [oelIn] using ih
    | _ => rfl
  simp [this]

theorem after_nil (obj : Nat → Option AObj) : afterObj obj (ofH []) (ofH []) (keysNew (ofH []) []) = obj := by
  funext j
  unfold afterObj
  simp only [ofH, H0, keysNew]
  cases obj j <;> simp

theorem effSt_eq (s : AS) (dst : Option Tmp) (f : Eff) : effSt' s dst f = effSt s dst f := by
  unfold effSt'
  split
  · rename_i h1 h2
    unfold effSt
    rw [h1, h2, after_nil]
    congr 2
    funext t
    exact (scrub_nil (fun _ => rfl) _).symm
  · rfl

/-- Behind an effect. -/
theorem eff_conc {G Γ s a w dst f Γ' w' v} (h : Conc G Γ ⟨s.n, s.reg, f.obj⟩ a w) (hsub : ∀ id o, ofH f.hin id = some o → f.obj id = some o) (hp : Post Γ (ofH f.hin) w Γ' f.new w')
    (hpl : dst = none ∨ plainV f.res = true) (hv : dst = none ∨ MV Γ' (ofH f.new) w' f.res v) (hd : ∀ d, dst = some d → d < s.n) (hids : effIds s f = true) : Conc G Γ' (effSt s dst f) (a.put dst v) w' := by
  have h1 := call_ok h.size h.defers h.regs h.heap h.g hsub hp.heap hp.g hp.agree h.ids hids
  cases dst with
  | none => exact h1
  | some d =>
    refine conc_set h1 hd ?_
    have hpl := hpl.resolve_left (by simp)
    have hv := hv.resolve_left (by simp)
    exact plain_obj hpl hv

theorem okDst_ok {s : AS} {o : Oper} (h : okDst s o = true) : ∀ d, o.dst = some d → d < s.n := by
  intro d hd
  unfold okDst at h
  rw [hd] at h
  exact Nat.lt_of_lt_of_le (Nat.lt_succ_self d) (Nat.le_of_ble_eq_true h)

theorem cond_operand {s : AS} {op : Op} (hc : allP (condsOf s op)) {x : Operand} (hx : x ∈ op.operands.toList) : allP (s.val x).cond := by
  unfold condsOf at hc
  generalize op.operands.toList = l at hc hx
  induction l with
  | nil => cases hx
  | cons y l ih =>
    rw [List.flatMap_cons, allP_append] at hc
    rcases List.mem_cons.1 hx with rfl | hx
    · exact hc.1
    · exact ih hc.2 hx
end AL
namespace AL
open Go
set_option linter.unusedVariables false

/-- In state s the operation o, whatever stands behind it, leaves s'. -/
def Step (P : Program) (ops : Array Oper) (o : Oper) (s s' : AS) : Prop :=
  ∀ G Γ a w Q K, Conc G Γ s a w → (∀ Γ' a' w', Conc G Γ' s' a' w' → K a' w') → wpO P ops Q o K a w

theorem wp_value {P : Program} {o : Oper} {a : Act} {w w' : World} {v : Value} {K : Act → World → Prop} {Q : Exit → Act → World → Prop} (h : (execOp a.eval o).run P w = Result.ok (.value v) w') (hk : K (a.put o.dst v) w') : o.wp P a w K Q := by
  unfold Oper.wp; rw [h]; exact hk

theorem wp_skip' {P : Program} {o : Oper} {a : Act} {w w' : World} {K : Act → World → Prop} {Q : Exit → Act → World → Prop} (h : (execOp a.eval o).run P w = Result.ok .skip w') (hk : K (a.put o.dst undef) w') : o.wp P a w K Q := by
  unfold Oper.wp; rw [h]; exact hk

theorem wp_enter {P : Program} {o : Oper} {a : Act} {w w' : World} {f : FuncId} {args : Array Value} {K : Act → World → Prop} {Q : Exit → Act → World → Prop} {R : Ending → World → Prop} (h : (execOp a.eval o).run P w = Result.ok (.enter f args) w') (hc : Calls P f args w' R)
    (hk : ∀ e w'', R e w'' → ∃ v, e = .returned v ∧ K (a.put o.dst v) w'') : o.wp P a w K Q := by
  unfold Oper.wp; rw [h, Oper.upon_enter]
  refine hc.mono fun e w'' hr => ?_
  obtain ⟨v, rfl, hv⟩ := hk e w'' hr
  exact hv

theorem val_strip {G Γ s a w op} (h : Conc G Γ s a w) (hc : allP (condsOf s op)) : ∀ x ∈ op.operands.toList, MV Γ s.obj w (s.val x).strip (a.eval x) :=
  fun x hx => strip_ok (val_ok h x) (cond_operand hc hx)

theorem pick_ok {P : Program} {G Γ s a w c x y r} {o : Oper} (he : o.op = .pick c x y) (h : Conc G Γ s a w) (hp : evPick s c x y = some r) (hc : allP r.1) :
    ∃ v, (execOp a.eval o).run P w = Result.ok (.value v) w ∧ MV Γ s.obj w r.2 v := by
  have hrun : ∀ b : Bool, a.eval c = .bool b → (execOp a.eval o).run P w = Result.ok (.value (if b then a.eval x else a.eval y)) w := by
    intro b hb
    unfold execOp
    simp only [he]
    simp [hb, asBool]
  unfold evPick at hp
  split at hp
  · rename_i cb hcb
    split at hp
    · split at hp
      · rename_i z hz
        cases hp
        rw [allP_append] at hc
        obtain ⟨h1, h2⟩ := hc
        have hcv := strip_ok (val_ok h c) h1
        rw [hcb] at hcv
        have h2 : cb = false → allP (s.val y).cond := gp_ok h2
        refine ⟨_, hrun cb hcv, ?_⟩
        cases cb
        · have := strip_ok (val_ok h y) (h2 rfl)
          rw [hz] at this
          simpa using this
        · rfl
      · cases hp
    · split at hp
      · rename_i z hz
        cases hp
        rw [allP_append] at hc
        obtain ⟨h1, h2⟩ := hc
        have hcv := strip_ok (val_ok h c) h1
        rw [hcb] at hcv
        have h2 : cb = true → allP (s.val x).cond := gp_ok h2
        refine ⟨_, hrun cb hcv, ?_⟩
        cases cb
        · rfl
        · have := strip_ok (val_ok h x) (h2 rfl)
          rw [hz] at this
          simpa using this
      · cases hp
    · cases hp
  · cases hp

theorem wanted_none {o : Oper} {y : Nat → Option Bool} (h : o.guard = none) : Region.wanted o y = true := by simp [Region.wanted, h]

theorem ev1_ok {P : Program} {ops : Array Oper} {s s' : AS} {o : Oper} {ce cs} (hg : o.guard = none) (h : ev1 P s o ce = some (cs, s')) (hc : allP cs) : Step P ops o s s' := by
  intro G Γ a w Q K hC hK
  unfold wpO
  rw [if_pos (wanted_none hg)]
  left
  unfold ev1 at h
  split at h
  · rename_i hd
    have hd := okDst_ok hd
    split at h
    · rename_i x e
      cases h
      exact wp_value (v := a.eval x) (by unfold execOp; simp only [e]; rfl) (hK _ _ _ (conc_set hC hd (val_ok hC x)))
    · rename_i x e
      cases h
      exact wp_value (v := a.eval x) (by unfold execOp; simp only [e]; rfl) (hK _ _ _ (conc_set hC hd (val_ok hC x)))
    · rename_i c x y e
      simp only [Option.map_eq_some_iff, Prod.mk.injEq] at h
      obtain ⟨r, hp, rfl, rfl⟩ := h
      obtain ⟨v, hr, hv⟩ := pick_ok (P := P) e hC hp hc
      exact wp_value hr (hK _ _ _ (conc_set hC hd hv))
    · rename_i T ad x e
      split at h
      · rename_i hdst
        split at h
        case h_2 => cases h
        rename_i f hf
        split at h
        case isFalse => cases h
        rename_i hids
        simp only [Option.some.injEq, Prod.mk.injEq] at h
        obtain ⟨rfl, rfl⟩ := h
        rw [allP_append] at hc
        have hs := val_strip hC hc.1
        obtain ⟨h1, h2, w', h3, h4⟩ := evStore_ok (P := P) hC.heap hf (hs ad (by simp [e, Op.operands])) (hs x (by simp [e, Op.operands])) hc.2
        refine wp_skip' (w' := w') (by unfold execOp; simp only [e]; simp [h3]) ?_
        rw [effSt_eq] at hK
        rw [hdst]
        refine hK _ _ _ (eff_conc (v := undef) (dst := none) (f := ⟨[], .any, f.obj, f.hin, f.new⟩) ?_ (by rw [h1]; exact h2) h4 (.inl rfl) (.inl rfl) (fun d hd => by cases hd) hids)
        rw [h1]
        exact hC
      · cases h
    · split at h
      · rename_i r hev
        simp only [Option.some.injEq, Prod.mk.injEq] at h
        obtain ⟨rfl, rfl⟩ := h
        rw [allP_append] at hc
        obtain ⟨v, hr, hv⟩ := evV_ok (P := P) (o := o) (r := r.2) (cs := r.1) hev (val_strip hC hc.1) hC.heap hc.2
        exact wp_value hr (hK _ _ _ (conc_set hC hd hv))
      · split at h
        · rename_i f hf
          split at h
          case isFalse => cases h
          rename_i hids
          simp only [Option.some.injEq, Prod.mk.injEq] at h
          obtain ⟨rfl, rfl⟩ := h
          rw [allP_append] at hc
          obtain ⟨run, ⟨h1, h2, h3, v, w', Γ', h4, h5, h6⟩, h7⟩ := evE_ok (P := P) hC.heap hf (val_strip hC hc.1) hc.2
          rw [h4] at h7
          rw [effSt_eq] at hK
          refine wp_value h7 (hK _ _ _ (eff_conc ?_ (by rw [h1]; exact h2) h5 (.inr h3) (.inr h6) hd hids))
          rw [h1]
          exact hC
        · split at h
          · rename_i c e
            split at h
            case h_2 => cases h
            rename_i f hf
            split at h
            case isFalse => cases h
            rename_i hids
            simp only [Option.some.injEq, Prod.mk.injEq] at h
            obtain ⟨rfl, rfl⟩ := h
            rw [allP_append] at hc
            have hs := val_strip hC hc.1
            obtain ⟨h1, Γ1, g1, g2, g3, g4, g5, fid, args, h2, h3⟩ := evCall_ok (P := P) e hC.heap hC.g hf hs hc.2
            have hC1 := conc_obj hC g1 g2 g3 g4
            rw [effSt_eq] at hK
            refine wp_enter h2 h3 ?_
            rintro e' w'' ⟨v, Γ', rfl, h5, h6⟩
            exact ⟨v, rfl, hK _ _ _ (eff_conc hC1 g5 h5 (.inr h1) (.inr h6) hd hids)⟩
          · cases h
  · cases h

theorem guard_spec {G Γ a w} {ops : Array Oper} {s : AS} {j want p} (hC : Conc G Γ s a w) (h : guardP ops s j want = some p) : (yielded ops a.tmps j == some want) = true ↔ p := by
  unfold guardP at h
  split at h
  · rename_i t ht
    have hr := hC.regs t
    split at h
    · rename_i b hb
      cases h
      rw [hb] at hr
      have hr : a.tmps.getD t undef = .bool b := hr
      have : a.tmps[t]? = some (.bool b) := by
        rw [Array.getD_eq_getD_getElem?] at hr
        cases hx : a.tmps[t]? with
        | none => rw [hx] at hr; cases hr
        | some u => rw [hx] at hr; simp at hr; rw [hr]
      simp [yielded, ht, this]
    · rename_i q b hb
      cases h
      rw [hb] at hr
      obtain ⟨h1, h2⟩ := hr
      by_cases hq : q
      · have hr : a.tmps.getD t undef = .bool b := h1 hq
        have : a.tmps[t]? = some (.bool b) := by
          rw [Array.getD_eq_getD_getElem?] at hr
          cases hx : a.tmps[t]? with
          | none => rw [hx] at hr; cases hr
          | some u => rw [hx] at hr; simp at hr; rw [hr]
        simp [yielded, ht, this, hq]
      · have hr := h2 hq
        have hy : yielded ops a.tmps j = none := by
          unfold yielded
          rw [ht]
          simp only [Option.bind_some]
          rw [Array.getD_eq_getD_getElem?] at hr
          cases hx : a.tmps[t]? with
          | none => rfl
          | some u => rw [hx] at hr; simp at hr; rw [hr]; rfl
        rw [hy]
        simp [hq]
    · cases h
  · cases h

theorem ev1g_ok {P : Program} {ops : Array Oper} {s s' : AS} {o : Oper} {ce cs j want} (hg : o.guard = some (j, want)) (h : ev1g P ops s o ce j want = some (cs, s')) (hc : allP cs) : Step P ops o s s' := by
  intro G Γ a w Q K hC hK
  unfold wpO
  unfold ev1g at h
  split at h
  · rename_i hd
    have hd := okDst_ok hd
    split at h
    · rename_i p hp
      have hgs := guard_spec hC hp
      have hw : Region.wanted o (yielded ops a.tmps) = (yielded ops a.tmps j == some want) := by simp [Region.wanted, hg]
      rw [hw]
      split at h
      · rename_i r hev
        simp only [Option.some.injEq, Prod.mk.injEq] at h
        obtain ⟨rfl, rfl⟩ := h
        have hc : p → allP r.1 := gp_ok hc
        by_cases hpp : p
        · rw [if_pos (hgs.2 hpp)]
          left
          have hcr := hc hpp
          unfold evGv at hev
          split at hev
          · rename_i c x y e
            obtain ⟨v, hr, hv⟩ := pick_ok (P := P) e hC hev hcr
            exact wp_value hr (hK _ _ _ (conc_set hC hd ⟨fun _ => hv, fun h => absurd hpp h⟩))
          · split at hev
            · rename_i r' hev'
              simp only [Option.some.injEq] at hev
              subst hev
              rw [allP_append] at hcr
              obtain ⟨v, hr, hv⟩ := evV_ok (P := P) (o := o) (r := r'.2) (cs := r'.1) hev' (val_strip hC hcr.1) hC.heap hcr.2
              exact wp_value hr (hK _ _ _ (conc_set hC hd ⟨fun _ => hv, fun h => absurd hpp h⟩))
            · cases hev
        · rw [if_neg (fun h => hpp (hgs.1 h))]
          exact hK _ _ _ (conc_set hC hd ⟨fun h => absurd h hpp, fun _ => rfl⟩)
      · split at h
        · rename_i c res e
          split at h
          · rename_i f hf
            simp only [Option.some.injEq, Prod.mk.injEq] at h
            obtain ⟨rfl, rfl⟩ := h
            have hc : p → allP (condsOf s o.op ++ f.conds) := gp_ok hc
            by_cases hpp : p
            · rw [if_pos (hgs.2 hpp)]
              left
              have hcr := hc hpp
              rw [allP_append] at hcr
              have hs := val_strip hC hcr.1
              obtain ⟨h1, Γ1, g1, g2, g3, g4, g5, fid, args, h2, h3⟩ := evCall_ok (P := P) e hC.heap hC.g hf hs hcr.2
              have hC1 := conc_obj hC g1 g2 g3 g4
              have hff : f.hin = [] ∧ f.new = [] ∧ f.obj = s.obj := by
                unfold evCall at hf
                split at hf
                · rename_i fo fz hin res' new hcal heq
                  injection heq with heq
                  injection heq with q1 q2 q3 q4
                  subst q1 q2 q3 q4
                  split at hf
                  · split at hf
                    · rename_i obj' args' hfr
                      simp only [evFreeze, Option.some.injEq, Prod.mk.injEq] at hfr
                      obtain ⟨rfl, _⟩ := hfr
                      split at hf
                      · cases hf; exact ⟨rfl, rfl, rfl⟩
                      · cases hf
                    · cases hf
                  · cases hf
                · cases hf
              obtain ⟨q1, q2, q3⟩ := hff
              refine wp_enter h2 h3 ?_
              rintro e' w'' ⟨v, Γ', rfl, h5, h6⟩
              refine ⟨v, rfl, hK Γ' _ w'' ?_⟩
              have := eff_conc (dst := none) (v := v) hC1 g5 h5 (.inl rfl) (.inl rfl) (fun d hd => by cases hd) (by unfold effIds; rw [q2]; rfl)
              rw [← effSt_eq] at this
              unfold effSt' at this
              rw [q1, q2] at this
              simp only [AS.set, q3] at this
              exact conc_set (s := s) this hd ⟨fun _ => plain_obj h1 h6, fun h => absurd hpp h⟩
            · rw [if_neg (fun h => hpp (hgs.1 h))]
              exact hK _ _ _ (conc_set hC hd ⟨fun h => absurd h hpp, fun _ => rfl⟩)
          · cases h
        · split at h
          · rename_i f hf
            split at h
            · rename_i q1 q2
              simp only [Option.some.injEq, Prod.mk.injEq] at h
              obtain ⟨rfl, rfl⟩ := h
              have hc : p → allP (condsOf s o.op ++ f.conds) := gp_ok hc
              by_cases hpp : p
              · rw [if_pos (hgs.2 hpp)]
                left
                have hcr := hc hpp
                rw [allP_append] at hcr
                obtain ⟨run, ⟨h1, h2, h3, v, w', Γ', h4, h5, h6⟩, h7⟩ := evE_ok (P := P) hC.heap hf (val_strip hC hcr.1) hcr.2
                rw [h4] at h7
                refine wp_value h7 (hK Γ' _ w' ?_)
                have hC1 : Conc G Γ ⟨s.n, s.reg, f.obj⟩ a w := by rw [h1]; exact hC
                have := eff_conc (dst := none) (v := v) hC1 (by rw [h1]; exact h2) h5 (.inl rfl) (.inl rfl) (fun d hd => by cases hd) (by unfold effIds; rw [q2]; rfl)
                rw [← effSt_eq] at this
                unfold effSt' at this
                rw [q1, q2] at this
                simp only [AS.set, h1] at this
                exact conc_set (s := s) this hd ⟨fun _ => plain_obj h3 h6, fun h => absurd hpp h⟩
              · rw [if_neg (fun h => hpp (hgs.1 h))]
                exact hK _ _ _ (conc_set hC hd ⟨fun h => absurd h hpp, fun _ => rfl⟩)
            · cases h
          · cases h
        · cases h
    · cases h
  · cases h

theorem evOp_ok {P : Program} {ops : Array Oper} {s s' : AS} {o : Oper} {ce cs} (h : evOp P ops s o ce = some (cs, s')) (hc : allP cs) : Step P ops o s s' := by
  unfold evOp at h
  split at h
  · rename_i hg; exact ev1_ok hg h hc
  · rename_i j want hg; exact ev1g_ok hg h hc
end AL
namespace AL
open Go
set_option linter.unusedVariables false

/-! ### States as lists -/
def lkp : List (Nat × AV) → Nat → AV
  | [] => fun _ => .any
  | (i, v) :: l => fun t => bif Nat.beq t i then v else lkp l t

/-- The state that knows just these slots and objects. -/
def AS.lst (n : Nat) (L : List (Nat × AV)) (H : List (Nat × AObj)) : AS := ⟨n, lkp L, ofH H⟩

def projR (s : AS) : List Nat → List (Nat × AV)
  | [] => []
  | t :: l => (t, s.reg t) :: projR s l

/-- What is kept of a state: these slots, these objects. -/
def AS.proj (s : AS) (ks hs : List Nat) : AS := AS.lst s.n (projR s ks) (restr s.obj hs)

theorem lkp_proj (s : AS) : ∀ (ks : List Nat) (t : Nat), lkp (projR s ks) t = .any ∨ lkp (projR s ks) t = s.reg t
  | [], t => .inl rfl
  | k :: ks, t => by
    simp only [projR, lkp]
    by_cases h : t = k
    · subst h; rw [Nat.beq_refl]; exact .inr rfl
    · rw [beq_false h]; exact lkp_proj s ks t

theorem GOk.sub_obj {G Γ obj obj' w} (h : GOk G Γ obj w) (hs : ∀ id o, obj' id = some o → obj id = some o) : GOk G Γ obj' w :=
  ⟨h.os, h.tape, h.output, h.size, h.prlt, h.keep, h.sub, h.bak, fun id o b ho hb => h.own id o b (hs id o ho) hb⟩

theorem MV.sub_obj {Γ obj obj' w} (hs : ∀ id o, obj' id = some o → obj id = some o) : ∀ {x v}, MV Γ obj w x v → MV Γ obj' w x v := by
  intro x
  induction x with
  | oel id i j => rintro v ⟨k, rfl, hk⟩; exact ⟨k, rfl, fun o ho => hk o (hs id o ho)⟩
  | whn p x ih => intro v h; exact ⟨fun hp => ih (h.1 hp), h.2⟩
  | _ => intro v h; exact h

/-- A state that says less. -/
def AS.le (s s' : AS) : Prop := s'.n = s.n ∧ (∀ t, s'.reg t = .any ∨ s'.reg t = s.reg t) ∧ ∀ id o, s'.obj id = some o → s.obj id = some o

theorem AS.le_refl (s : AS) : s.le s := ⟨rfl, fun _ => .inr rfl, fun _ _ h => h⟩

theorem conc_le {G Γ s s' a w} (h : Conc G Γ s a w) (hl : s.le s') : Conc G Γ s' a w := by
  obtain ⟨h1, h2, h3⟩ := hl
  refine ⟨h.size.trans h1.symm, h.defers, fun t => ?_, heap_sub h.heap h3, h.g.sub_obj h3, fun id hid => h.ids id (h1 ▸ hid)⟩
  rcases h2 t with h | h'
  · rw [h]; trivial
  · rw [h']; exact MV.sub_obj h3 (h.regs t)

theorem le_proj (s : AS) (ks hs : List Nat) : s.le (s.proj ks hs) := ⟨rfl, lkp_proj s ks, fun id o h => restr_ok hs h⟩

/-! ### Regions -/
def ceAt : List (Nat × CE) → Nat → Option CE
  | [], _ => none
  | (i, c) :: l, j => bif Nat.beq j i then some c else ceAt l j

def evR (P : Program) (ops : Array Oper) (ces : List (Nat × CE)) : Nat → List Oper → AS → Option (List Prop × AS)
  | _, [], s => some ([], s)
  | i, o :: l, s =>
    match evOp P ops s o (ceAt ces i) with
    | some (cs, s1) => match evR P ops ces (i + 1) l s1 with
      | some (cs', s2) => some (cs ++ cs', s2)
      | none => none
    | none => none

def evReg (P : Program) (ops : Array Oper) (ces : List (Nat × CE)) (s : AS) (ks hs : List Nat) : Option (List Prop × AS) :=
  match evR P ops ces 0 ops.toList s with
  | some (cs, s1) => some (cs, s1.proj ks hs)
  | none => none

theorem wpO_eq {P : Program} {ops : Array Oper} {Q : Exit → Act → World → Prop} {i : Nat} {o : Oper} (h : ops[i]? = some o) (K : Act → World → Prop) (a : Act) (w : World) : wpOp P ops Q i K a w = wpO P ops Q o K a w := by
  unfold wpOp wpO; rw [h]

theorem evR_ok {P : Program} {ops : Array Oper} {ces : List (Nat × CE)} {Q : Exit → Act → World → Prop} : ∀ (l : List Oper) (i : Nat) (s s' : AS) (cs : List Prop), (∀ j, l[j]? = ops[i + j]?) → evR P ops ces i l s = some (cs, s') → allP cs →
    ∀ G Γ a w, Conc G Γ s a w → (∀ Γ' a' w', Conc G Γ' s' a' w' → Q .normal a' w') → wpOps P ops Q (List.range' i l.length) a w
  | [], i, s, s', cs, hl, h, hc, G, Γ, a, w, hC, hQ => by
    cases h
    simp only [List.length_nil, List.range'_zero, wpOps]
    exact hQ _ _ _ hC
  | o :: l, i, s, s', cs, hl, h, hc, G, Γ, a, w, hC, hQ => by
    unfold evR at h
    split at h
    · rename_i cs1 s1 h1
      split at h
      · rename_i cs2 s2 h2
        cases h
        rw [allP_append] at hc
        have ho : ops[i]? = some o := by have := hl 0; simpa using this.symm
        rw [List.length_cons, List.range'_succ, wpOps_cons, wpO_eq ho]
        refine evOp_ok h1 hc.1 G Γ a w Q _ hC fun Γ' a' w' hC' => ?_
        exact evR_ok l (i + 1) s1 _ cs2 (fun j => by have := hl (j + 1); rw [List.getElem?_cons_succ] at this; rw [this]; congr 1; omega) h2 hc.2 G Γ' a' w' hC' hQ
      · cases h
    · cases h

/-! ### Code -/
def AW (P : Program) (c : Code) (Q : Exit → AS → Prop) (s : AS) : Prop :=
  ∀ G Γ a w, Conc G Γ s a w → c.wp P (fun e a' w' => ∃ s' Γ', Q e s' ∧ Conc G Γ' s' a' w') a w

/-- Whatever s describes, s2 describes, too. -/
def AS.ent (s s2 : AS) : Prop := ∀ G Γ a w, Conc G Γ s a w → ∃ Γ', Conc G Γ' s2 a w

theorem AS.ent_refl (s : AS) : s.ent s := fun _ Γ _ _ h => ⟨Γ, h⟩
theorem AS.ent_trans {s s1 s2 : AS} (h : s.ent s1) (h' : s1.ent s2) : s.ent s2 := fun G Γ a w hC => by
  obtain ⟨Γ1, h1⟩ := h G Γ a w hC
  exact h' G Γ1 a w h1
theorem AS.ent_le {s s2 : AS} (h : s.le s2) : s.ent s2 := fun _ Γ _ _ hC => ⟨Γ, conc_le hC h⟩

inductive KI : Type 2
  | code (c : Code)
  | blk (id : Nat)
  | inv (I : AS → Prop)

def AMx (P : Program) (R : Exit → AS → Prop) : List KI → Exit → AS → Prop
  | [], e, s => R e s
  | .code c :: k, e, s => match e with
    | .normal => AW P c (AMx P R k) s
    | e => AMx P R k e s
  | .blk id :: k, e, s => match e with
    | .exit j => bif Nat.beq j id then AMx P R k .normal s else AMx P R k (.exit j) s
    | e => AMx P R k e s
  | .inv I :: k, e, s => match e with
    | .normal => ∃ s2, AS.ent s s2 ∧ I s2
    | e => AMx P R k e s

section
variable {P : Program} {R : Exit → AS → Prop} {k : List KI} {s : AS}

theorem AMx.seq {x y : Code} (h : AMx P R (.code x :: .code y :: k) .normal s) : AMx P R (.code (.seq x y) :: k) .normal s := by
  intro G Γ a w hC
  refine wp_seq (wp_mono (h G Γ a w hC) ?_)
  rintro e a' w' ⟨s', Γ', hq, hC'⟩
  cases e with
  | normal => exact hq G Γ' a' w' hC'
  | _ => exact ⟨s', Γ', hq, hC'⟩

theorem AMx.skip (h : AMx P R k .normal s) : AMx P R (.code .skip :: k) .normal s :=
  fun G Γ a w hC => wp_skip ⟨s, Γ, h, hC⟩

theorem AMx.exit {id : Nat} (h : AMx P R k (.exit id) s) : AMx P R (.code (.exit id) :: k) .normal s :=
  fun G Γ a w hC => wp_exit ⟨s, Γ, h, hC⟩

theorem AMx.ret_pass : ∀ (k : List KI), R .ret s → AMx P R k .ret s
  | [], h => h
  | .code _ :: k, h => AMx.ret_pass k h
  | .blk _ :: k, h => AMx.ret_pass k h
  | .inv _ :: k, h => AMx.ret_pass k h

theorem AMx.ret (h : R .ret s) : AMx P R (.code .ret :: k) .normal s :=
  fun G Γ a w hC => wp_ret ⟨s, Γ, AMx.ret_pass k h, hC⟩

theorem AMx.block {id : Nat} {c : Code} (h : AMx P R (.code c :: .blk id :: k) .normal s) : AMx P R (.code (.block id c) :: k) .normal s := by
  intro G Γ a w hC
  refine wp_block (wp_mono (h G Γ a w hC) ?_)
  rintro e a' w' ⟨s', Γ', hq, hC'⟩
  cases e with
  | exit j =>
    simp only [AMx] at hq
    simp only [Exit.inBlock]
    by_cases hj : j = id
    · subst hj; rw [Nat.beq_refl] at hq; rw [if_pos rfl]; exact ⟨s', Γ', hq, hC'⟩
    · rw [beq_false hj] at hq; rw [if_neg hj]; exact ⟨s', Γ', hq, hC'⟩
  | _ => exact ⟨s', Γ', hq, hC'⟩

theorem AMx.blk {id : Nat} (h : AMx P R k .normal s) : AMx P R (.blk id :: k) .normal s := h
theorem AMx.blk_exit {id : Nat} (h : AMx P R k .normal s) : AMx P R (.blk id :: k) (.exit id) s := by
  simp only [AMx, Nat.beq_refl, cond_true]; exact h
theorem AMx.blk_pass {id j : Nat} (hj : Nat.beq j id = false) (h : AMx P R k (.exit j) s) : AMx P R (.blk id :: k) (.exit j) s := by
  simp only [AMx, hj, cond_false]; exact h
theorem AMx.code_exit {j : Nat} {c : Code} (h : AMx P R k (.exit j) s) : AMx P R (.code c :: k) (.exit j) s := h
theorem AMx.inv_exit {j : Nat} {I : AS → Prop} (h : AMx P R k (.exit j) s) : AMx P R (.inv I :: k) (.exit j) s := h
theorem AMx.inv {I : AS → Prop} (h : I s) : AMx P R (.inv I :: k) .normal s := ⟨s, AS.ent_refl s, h⟩

theorem AMx.cond {c : Operand} {x y : Code} {b : Bool} (hb : s.val c = .t (.c (.s (.bool b)))) (ht : b = true → AMx P R (.code x :: k) .normal s) (hf : b = false → AMx P R (.code y :: k) .normal s) :
    AMx P R (.code (.cond c x y) :: k) .normal s := by
  intro G Γ a w hC
  have := val_ok hC c
  rw [hb] at this
  exact wp_cond_split (t := b) this (fun h => ht h G Γ a w hC) (fun h => hf h G Γ a w hC)

theorem AMx.region {id : Nat} {ops : Array Oper} {ces : List (Nat × CE)} {ks hs : List Nat} {cs : List Prop} {s' : AS} (h : evReg P ops ces s ks hs = some (cs, s')) (hc : allP cs) (hk : AMx P R k .normal s') :
    AMx P R (.code (.region id ops false) :: k) .normal s := by
  intro G Γ a w hC
  refine wp_region ?_
  unfold evReg at h
  split at h
  · rename_i cs1 s1 h1
    simp only [Option.some.injEq, Prod.mk.injEq] at h
    obtain ⟨rfl, rfl⟩ := h
    have := evR_ok (Q := fun e a' w' => ∃ s' Γ', AMx P R k e s' ∧ Conc G Γ' s' a' w') ops.toList 0 s s1 cs1 (fun j => by simp) h1 hc G Γ a w hC (fun Γ' a' w' hC' => ⟨_, Γ', hk, conc_le hC' (le_proj _ _ _)⟩)
    rwa [show List.range' 0 ops.toList.length = List.range ops.size by rw [List.range_eq_range']; simp] at this
  · cases h

/-- A loop: 'I m s': what holds at each round's head, m: what every round lowers. -/
theorem AMx.loop {c : Code} (I : Nat → AS → Prop) {m0 : Nat} (h0 : I m0 s) (round : ∀ m s, I m s → AMx P R (.code c :: .inv (fun s' => ∃ m', m' < m ∧ I m' s') :: k) .normal s) :
    AMx P R (.code (.loop c) :: k) .normal s := by
  intro G Γ a w hC
  let J : Nat → Act → World → Prop := fun m a w => ∃ s Γ, I m s ∧ Conc G Γ s a w
  have key : ∀ n a w, J n a w → (Code.loop c).wp P (fun e a' w' => ∃ s' Γ', AMx P R k e s' ∧ Conc G Γ' s' a' w') a w := by
    intro n
    induction n using Nat.strongRecOn with
    | _ n ih =>
      intro a w hJ
      refine wp_loop (fun a' w' => ∃ m, m ≤ n ∧ J m a' w') (fun a' w' => Classical.epsilon fun m => J m a' w' ∧ ∀ m', J m' a' w' → m ≤ m') ⟨n, Nat.le_refl _, hJ⟩ ?_
      have least : ∀ a' w', (∃ m, J m a' w') → ∃ m, J m a' w' ∧ ∀ m', J m' a' w' → m ≤ m' := by
        rintro a' w' ⟨m, hm⟩
        induction m using Nat.strongRecOn with
        | _ m ih =>
          by_cases hx : ∃ m', m' < m ∧ J m' a' w'
          · obtain ⟨m', h1, h2⟩ := hx; exact ih m' h1 h2
          · exact ⟨m, hm, fun m' h => Nat.le_of_not_lt fun hlt => hx ⟨m', hlt, h⟩⟩
      rintro a' w' ⟨m, hm, hJm⟩
      have hex := least a' w' ⟨m, hJm⟩
      have hsp := Classical.epsilon_spec hex
      generalize hμ : (Classical.epsilon fun m => J m a' w' ∧ ∀ m', J m' a' w' → m ≤ m') = μ at *
      obtain ⟨⟨s', Γ', hI, hC'⟩, hleast⟩ := hsp
      refine wp_mono (round μ s' hI G Γ' a' w' hC') ?_
      rintro e a2 w2 ⟨s2, Γ2, hq, hC2⟩
      cases e with
      | normal =>
        obtain ⟨s3, hent, m', hlt, hI'⟩ := hq
        obtain ⟨Γ3, hC2⟩ := hent G Γ2 a2 w2 hC2
        have hJ2 : J m' a2 w2 := ⟨s3, Γ3, hI', hC2⟩
        have hμm : μ ≤ m := hleast m hJm
        refine ⟨⟨m', by omega, hJ2⟩, ?_⟩
        have h2 := Classical.epsilon_spec (least a2 w2 ⟨m', hJ2⟩)
        exact Nat.lt_of_le_of_lt (h2.2 m' hJ2) hlt
      | _ => exact ⟨s2, Γ2, hq, hC2⟩
  exact key m0 a w ⟨s, Γ, h0, hC⟩

theorem AMx.ent {c : Code} {s' : AS} (hl : s.ent s') (h : AMx P R (.code c :: k) .normal s') : AMx P R (.code c :: k) .normal s := by
  intro G Γ a w hC
  obtain ⟨Γ', hC'⟩ := hl G Γ a w hC
  exact h G Γ' a w hC'

theorem AMx.ent_inv {I : AS → Prop} {s' : AS} (hl : s.ent s') (h : AMx P R (.inv I :: k) .normal s') : AMx P R (.inv I :: k) .normal s := by
  obtain ⟨s2, h1, h2⟩ := h
  exact ⟨s2, AS.ent_trans hl h1, h2⟩

/-- Ways meet again: what holds behind c is told once. -/
theorem AMx.cut {c : Code} (J : AS → Prop) (h1 : AMx P (fun e s => match e with | .normal => J s | e => AMx P R k e s) [.code c] .normal s) (h2 : ∀ s, J s → AMx P R k .normal s) : AMx P R (.code c :: k) .normal s := by
  intro G Γ a w hC
  refine wp_mono (h1 G Γ a w hC) ?_
  rintro e a' w' ⟨s', Γ', hq, hC'⟩
  cases e with
  | normal => exact ⟨s', Γ', h2 s' hq, hC'⟩
  | _ => exact ⟨s', Γ', hq, hC'⟩
end

/-! ### Functions -/
def evRes1 (P : Program) (s : AS) : ResultVar → Option TV
  | .tmp t => match s.reg t with
    | .t x => some x
    | _ => none
  | .cell a T => match evLoad P s.obj T (s.reg a) with
    | some ([], .t x) => match s.reg a with
      | .t (.c (.ptr _ _)) => some x
      | _ => none
    | _ => none
def evRess (P : Program) (s : AS) : List ResultVar → Option (List TV)
  | [] => some []
  | r :: l => match evRes1 P s r, evRess P s l with
    | some x, some xs => some (x :: xs)
    | _, _ => none
def evRes (P : Program) (fn : Func) (s : AS) : Option AV :=
  match evRess P s fn.results.toList with
  | some [x] => some (.t x)
  | some l => some (.tup l)
  | none => none

def resOne (tmps : Array Value) : ResultVar → Sem Value
  | .tmp t => pure (tmps.getD t undef)
  | .cell a T => do loadVar T (← asAddr (tmps.getD a undef))

theorem results_run {P : Program} {fn : Func} {tmps : Array Value} {w : World} {vs : List Value} (h : (fn.results.toList.mapM (resOne tmps)).run P w = Result.ok vs w) :
    (results fn tmps).run P w = Result.ok (if h : vs.length = 1 then vs[0] else .tuple vs.toArray) w := by
  have e : results fn tmps = (do let xs ← fn.results.mapM (resOne tmps); pure (if h : xs.size = 1 then xs[0] else .tuple xs)) := by
    unfold results
    congr 1
  rw [e, Array.mapM_eq_mapM_toList, map_eq_pure_bind]
  simp only [Sem.run_bind, h, Result.andThen_ok, Sem.run_pure]
  simp

theorem res_ok {P : Program} {fn : Func} {G Γ s a w r} (hC : Conc G Γ s a w) (h : evRes P fn s = some r) : ∃ v, (results fn a.tmps).run P w = Result.ok v w ∧ MV Γ s.obj w r v ∧ plainV r = true := by
  have one : ∀ (rv : ResultVar) (x : TV), evRes1 P s rv = some x → ∃ v, (resOne a.tmps rv).run P w = Result.ok v w ∧ MT Γ w x v := by
    intro rv x hx
    cases rv with
    | tmp t =>
      simp only [evRes1] at hx
      have hr := hC.regs t
      split at hx
      · rename_i y hy
        cases hx
        rw [hy] at hr
        exact ⟨_, rfl, hr⟩
      · cases hx
    | cell ad T =>
      simp only [evRes1] at hx
      have hr := hC.regs ad
      split at hx
      · rename_i y hl
        split at hx
        · rename_i id off hp
          cases hx
          obtain ⟨v, hv1, hv2⟩ := load_ok (P := P) hl hr hC.heap trivial
          rw [hp] at hr
          have hr : a.tmps.getD ad undef = .pointer (some ⟨Γ.ρ id, off, none⟩) := hr
          refine ⟨v, ?_, hv2⟩
          rw [hr] at hv1
          show Sem.run P (do loadVar T (← asAddr (a.tmps.getD ad undef))) w = _
          rw [hr]
          simpa [Instr.loadAt, Instr.sureAddr, asAddr] using hv1
        · cases hx
      · cases hx
  have all : ∀ (l : List ResultVar) (xs : List TV), evRess P s l = some xs → ∃ vs, (l.mapM (resOne a.tmps)).run P w = Result.ok vs w ∧ MTs Γ w xs vs := by
    intro l
    induction l with
    | nil => intro xs h; cases h; exact ⟨[], rfl, trivial⟩
    | cons rv l ih =>
      intro xs h
      simp only [evRess] at h
      split at h
      · rename_i x xs' h1 h2
        cases h
        obtain ⟨v, e1, e2⟩ := one rv x h1
        obtain ⟨vs, e3, e4⟩ := ih xs' h2
        refine ⟨v :: vs, ?_, e2, e4⟩
        simp only [List.mapM_cons, Sem.run_bind, e1, Result.andThen_ok, e3, Sem.run_pure]
      · cases h
  unfold evRes at h
  split at h
  · rename_i x hx
    cases h
    obtain ⟨vs, h1, h2⟩ := all _ _ hx
    match vs, h2 with
    | [v], h2 => exact ⟨v, by rw [results_run h1]; simp, h2.1, rfl⟩
    | [], h2 => exact h2.elim
    | _ :: _ :: _, h2 => exact h2.2.elim
  · rename_i l hx hl
    cases h
    obtain ⟨vs, h1, h2⟩ := all _ _ hl
    have hne : ¬ vs.length = 1 := by
      intro hlen
      match vs, hlen, h2 with
      | [v], _, h2 =>
        match l, h2 with
        | [x], _ => exact hx x rfl
        | [], h2 => exact h2.elim
        | _ :: _ :: _, h2 => exact h2.2.elim
    exact ⟨.tuple vs.toArray, by rw [results_run h1]; simp [hne], ⟨vs.toArray, rfl, by simpa using h2⟩, rfl⟩
  · cases h

def argRegs : Nat → List TV → List (Nat × AV)
  | _, [] => []
  | i, x :: l => (i, .t x) :: argRegs (i + 1) l

/-- What a function's end must come to. -/
def RetP (P : Program) (fn : Func) (res : AV) (H' : Nat → Option AObj) (e : Exit) (s : AS) : Prop :=
  (e = .ret ∨ e = .normal) ∧ ∃ r, evRes P fn s = some r ∧ r = res ∧ ∀ id o, H' id = some o → s.obj id = some o

theorem lkp_args {Γ obj w} : ∀ (args : List TV) (vs : List Value) (i t : Nat) (rest : List Value), MTs Γ w args vs → MV Γ obj w (lkp (argRegs i args) t) (((List.replicate i undef ++ vs) ++ rest).getD t undef)
  | [], vs, i, t, rest, _ => trivial
  | x :: args, [], _, _, _, h => h.elim
  | x :: args, v :: vs, i, t, rest, h => by
    simp only [argRegs, lkp]
    by_cases ht : t = i
    · subst ht
      rw [Nat.beq_refl]
      have : ((List.replicate t undef ++ v :: vs) ++ rest).getD t undef = v := by
        simp [List.getD]
      rw [this]
      exact h.1
    · rw [beq_false ht]
      by_cases hlt : t < i
      · -- below: nothing is known
        have : ∀ (args : List TV) (j : Nat), t < j → lkp (argRegs j args) t = .any := by
          intro args
          induction args with
          | nil => intro j _; rfl
          | cons y args ih => intro j hj; simp only [argRegs, lkp]; rw [beq_false (by omega)]; exact ih (j + 1) (by omega)
        simp only [cond_false]
        rw [this args (i + 1) (by omega)]
        trivial
      · have := lkp_args (obj := obj) args vs (i + 1) t rest h.2
        have e : ((List.replicate i undef ++ v :: vs) ++ rest).getD t undef = ((List.replicate (i + 1) undef ++ vs) ++ rest).getD t undef := by
          have e1 : (List.replicate i undef ++ v :: vs) ++ rest = List.replicate i undef ++ (v :: (vs ++ rest)) := by simp
          have e2 : (List.replicate (i + 1) undef ++ vs) ++ rest = List.replicate i undef ++ (undef :: (vs ++ rest)) := by rw [List.replicate_succ']; simp
          rw [e1, e2, List.getD_eq_getElem?_getD, List.getD_eq_getElem?_getD, List.getElem?_append_right (by simp; omega), List.getElem?_append_right (by simp; omega), List.length_replicate]
          rw [show t - i = (t - i - 1) + 1 by omega, List.getElem?_cons_succ, List.getElem?_cons_succ]
        simp only [cond_false]
        rw [e]
        exact this

theorem MTs.length {Γ w} : ∀ {l : List TV} {vs : List Value}, MTs Γ w l vs → vs.length = l.length
  | [], [], _ => rfl
  | _ :: l, _ :: vs, h => by simp [MTs.length h.2]
  | [], _ :: _, h => h.elim
  | _ :: _, [], h => h.elim

/-- The start of a body. -/
theorem body_start {P : Program} {fn : Func} {Γ : Ctx} {w : World} {args : List TV} {H : List (Nat × AObj)} {n : Nat} {cargs : Array Value} (hnt : fn.ntmps = n) (hle : Nat.ble args.length n = true) (hh : HeapOk Γ (ofH H) w) (hm : MTs Γ w args cargs.toList) :
    Conc ⟨w, prOf Γ (ofH H) w, Γ.I, Γ.ρ, Γ.η, []⟩ Γ (AS.lst n (argRegs 0 args) H) { tmps := cargs ++ Array.replicate (fn.ntmps - cargs.size) undef, defers := [] } w := by
  have hlen := hm.length
  have hle := Nat.le_of_ble_eq_true hle
  refine ⟨?_, rfl, fun t => ?_, hh, ⟨rfl, rfl, rfl, Nat.le_refl _, fun b hb => hb.1, fun b hb => rfl, fun b hb => hb, fun b _ hb => hb, fun id o b ho hf hb => hb.2 id o ho hf⟩, fun _ _ => ⟨rfl, rfl⟩⟩
  · simp only [Array.size_append, Array.size_replicate, AS.lst, hnt]
    rw [Array.length_toList] at hlen
    omega
  · have := lkp_args (Γ := Γ) (obj := ofH H) (w := w) args cargs.toList 0 t (List.replicate (fn.ntmps - cargs.size) undef) hm
    simp only [AS.lst]
    have e : (cargs ++ Array.replicate (fn.ntmps - cargs.size) undef).getD t undef = ((List.replicate 0 undef ++ cargs.toList) ++ List.replicate (fn.ntmps - cargs.size) undef).getD t undef := by
      rw [Array.getD_eq_getD_getElem?, List.getD_eq_getElem?_getD, ← Array.getElem?_toList]
      simp
    rw [e]
    exact this

/-! Values that name no object. -/
def capsNo : List Cap → Bool
  | [] => true
  | .s _ :: l => capsNo l
  | _ :: _ => false
def AC.no : AC → Bool
  | .s _ => true
  | .fn _ caps => capsNo caps
  | _ => false
def acsNo : List AC → Bool
  | [] => true
  | c :: l => c.no && acsNo l
def TV.no : TV → Bool
  | .c a => a.no
  | .agg l => acsNo l
  | .arr .. => true
def tvsNo : List TV → Bool
  | [] => true
  | c :: l => c.no && tvsNo l
def AV.no : AV → Bool
  | .t x => x.no
  | .tup l => tvsNo l
  | _ => false

theorem capsNo_has {D : Nat → Prop} : ∀ (l : List Cap), capsNo l = true → ∀ d, D d → capsHas d l = false
  | [], _, _, _ => rfl
  | .s _ :: l, h, d, hd => by simp only [capsHas, Cap.has, Bool.false_or]; exact capsNo_has l h d hd
  | .ptr .. :: _, h, _, _ => by cases h
theorem AC.no_has {D : Nat → Prop} (c : AC) (h : c.no = true) : ∀ d, D d → c.has d = false := by
  intro d hd
  cases c with
  | s c => rfl
  | fn f caps => exact capsNo_has caps h d hd
  | ptr => cases h
  | own => cases h
theorem acsNo_has {D : Nat → Prop} : ∀ (l : List AC), acsNo l = true → ∀ d, D d → acsHas d l = false
  | [], _, _, _ => rfl
  | c :: l, h, d, hd => by
    simp only [acsNo, Bool.and_eq_true] at h
    simp only [acsHas, Bool.or_eq_false_iff]
    exact ⟨AC.no_has c h.1 d hd, acsNo_has l h.2 d hd⟩
theorem TV.no_has {D : Nat → Prop} (c : TV) (h : c.no = true) : ∀ d, D d → c.has d = false := by
  intro d hd
  cases c with
  | c a => exact AC.no_has a h d hd
  | agg l => exact acsNo_has l h d hd
  | arr => rfl
theorem tvsNo_has {D : Nat → Prop} : ∀ (l : List TV), tvsNo l = true → ∀ d, D d → tvsHas d l = false
  | [], _, _, _ => rfl
  | c :: l, h, d, hd => by
    simp only [tvsNo, Bool.and_eq_true] at h
    simp only [tvsHas, Bool.or_eq_false_iff]
    exact ⟨TV.no_has c h.1 d hd, tvsNo_has l h.2 d hd⟩
theorem AV.no_has {D : Nat → Prop} (c : AV) (h : c.no = true) : ∀ d, D d → c.has d = false := by
  intro d hd
  cases c with
  | t x => exact TV.no_has x h d hd
  | tup l => exact tvsNo_has l h d hd
  | _ => cases h

/-- THE CONTRACT OF A FUNCTION OUT OF ITS BODY: one that owns nothing and hands out nothing of its own. -/
theorem Pure.of_body {P : Program} {f : FuncId} {fn : Func} {c : Code} {args : List TV} {res : AV} {n : Nat} (hf : P.funcs[f]? = some fn) (hb : fn.body = some c) (hn : (fn.name == "runtime.NumGoroutine") = false)
    (hnt : fn.ntmps = n) (hle : Nat.ble args.length n = true) (hno : res.no = true) (h : AMx P (RetP P fn res H0) [.code c] .normal (AS.lst n (argRegs 0 args) [])) : Pure P f args res := by
  refine ⟨⟨fn, hf, by rw [hb]; rfl, hn⟩, fun Γ w cargs hh hm => ?_⟩
  refine calls_of_wp hf hb ?_
  have hC := body_start (P := P) (H := []) hnt hle hh hm
  refine wp_mono (h _ _ _ _ hC) ?_
  rintro e a' w' ⟨s', Γ', ⟨he, r, hr, rfl, hH⟩, hC'⟩
  obtain ⟨v, h1, h2, h3⟩ := res_ok (P := P) (fn := fn) hC' hr
  have hpost : a'.defers = [] ∧ ∃ v, (results fn a'.tmps).run P w' = Result.ok v w' ∧ ∃ v_1 Γ', Ending.returned v = .returned v_1 ∧ MV Γ' H0 w' r v_1 ∧ HeapOk Γ' H0 w' ∧ GOk ⟨w, prOf Γ (ofH []) w, Γ.I, Γ.ρ, Γ.η, []⟩ Γ' H0 w' ∧ Agree (fun id => H0 id ≠ none ∧ H0 id = none) Γ Γ' := by
    have hh' := heap0 hC'.heap
    have hg' : GOk ⟨w, prOf Γ (ofH []) w, Γ.I, Γ.ρ, Γ.η, []⟩ Γ' H0 w' := hC'.g.sub_obj (fun _ _ h => by cases h)
    let Γ2 : Ctx := ⟨Γ'.I, Γ.ρ, Γ.η⟩
    have hx : Ext (fun _ => True) Γ' w' Γ2 w' := ⟨fun b hb => hb, fun b hb => rfl, fun id h => absurd trivial h⟩
    refine ⟨hC'.defers, v, h1, v, Γ2, rfl, MV.ext hx (fun id o h => absurd trivial h) (AV.no_has r hno) (plain_obj (obj' := H0) h3 h2), ⟨fun _ _ h => (by cases h), fun _ _ _ h => (by cases h), fun _ _ _ _ _ h => (by cases h), hh'.ilt, hh'.glob⟩,
      ⟨hg'.os, hg'.tape, hg'.output, hg'.size, hg'.prlt, hg'.keep, hg'.sub, hg'.bak, fun _ _ _ h => (by cases h)⟩, fun _ _ => ⟨rfl, rfl⟩⟩
  rcases he with rfl | rfl
  · exact hpost
  · exact hpost
end AL
namespace AL
open Go
set_option linter.unusedVariables false

/-- The operations of a region, found in a body by its number. -/
def findRg (id : Nat) : Code → Option (Array Oper)
  | .region i ops _ => bif Nat.beq i id then some ops else none
  | .seq a b => match findRg id a with
    | some r => some r
    | none => findRg id b
  | .cond _ a b => match findRg id a with
    | some r => some r
    | none => findRg id b
  | .block _ c => findRg id c
  | .loop c => findRg id c
  | .scope c => findRg id c
  | .rangeFunc _ _ a b => match findRg id a with
    | some r => some r
    | none => findRg id b
  | _ => none
def rg (f : Func) (id : Nat) : Array Oper := ((f.body.bind (findRg id))).getD #[]

abbrev i6 (n : Int) : SC := .int .i64 n
abbrev u8 (n : Int) : SC := .int .u8 n
abbrev u6 (n : Int) : SC := .int .u64 n
abbrev i3 (n : Int) : SC := .int .i32 n
abbrev bo (b : Bool) : SC := .bool b
abbrev st (s : Bytes) : SC := .str s
abbrev tc (c : SC) : TV := .c (.s c)
abbrev vc (c : SC) : AV := .t (.c (.s c))
abbrev vp (id off : Nat) : AV := .t (.c (.ptr id off))
abbrev vo (id : Nat) : AV := .t (.c (.own id))

theorem inR64 {n : Int} (h1 : -9223372036854775808 ≤ n) (h2 : n ≤ 9223372036854775807) : InR .i64 n := by
  simp [InR, IntKind.min, IntKind.max, IntKind.signed, IntKind.bits]; omega
theorem inR64_iff {n : Int} : InR .i64 n ↔ -9223372036854775808 ≤ n ∧ n ≤ 9223372036854775807 := by
  simp [InR, IntKind.min, IntKind.max, IntKind.signed, IntKind.bits]
theorem inR8_iff {n : Int} : InR .u8 n ↔ 0 ≤ n ∧ n ≤ 255 := by
  simp [InR, IntKind.min, IntKind.max, IntKind.signed, IntKind.bits]
theorem inRu64_iff {n : Int} : InR .u64 n ↔ 0 ≤ n ∧ n ≤ 18446744073709551615 := by
  simp [InR, IntKind.min, IntKind.max, IntKind.signed, IntKind.bits]
theorem inR32_iff {n : Int} : InR .i32 n ↔ -2147483648 ≤ n ∧ n ≤ 2147483647 := by
  simp [InR, IntKind.min, IntKind.max, IntKind.signed, IntKind.bits]

/-- The end of a function. -/
theorem RetP.mk {P : Program} {fn : Func} {res : AV} {s : AS} {r : AV} (h : evRes P fn s = some r) (hr : r = res) : RetP P fn res H0 .ret s := ⟨.inl rfl, r, h, hr, fun _ _ h => (by cases h)⟩
theorem RetP.mkn {P : Program} {fn : Func} {res : AV} {s : AS} {r : AV} (h : evRes P fn s = some r) (hr : r = res) : RetP P fn res H0 .normal s := ⟨.inr rfl, r, h, hr, fun _ _ h => (by cases h)⟩
end AL
namespace AL
open Go
set_option linter.unusedVariables false

/-! ### The list form -/
def subV (id : Nat) (c : FzV) : AV → AV
  | .t x => .t (subT id c x)
  | .tup l => .tup (l.map (subT id c))
  | .whn p x => .whn p (subV id c x)
  | x => x

def subL (id : Nat) (c : FzV) : List (Nat × AV) → List (Nat × AV)
  | [] => []
  | (t, v) :: l => (t, subV id c v) :: subL id c l

def subO (id : Nat) (c : FzV) : AObj → AObj
  | .row cells => .row (cells.map (subA id c))
  | o => o

def delL (id : Nat) (c : FzV) : List (Nat × AObj) → List (Nat × AObj)
  | [] => []
  | (j, o) :: l => bif Nat.beq j id then delL id c l else (j, subO id c o) :: delL id c l

theorem lkp_sub (id : Nat) (c : FzV) : ∀ (L : List (Nat × AV)) (t : Nat), lkp (subL id c L) t = subV id c (lkp L t)
  | [], t => rfl
  | (i, v) :: L, t => by
    simp only [subL, lkp]
    cases Nat.beq t i
    · exact lkp_sub id c L t
    · rfl

theorem ofH_del (id : Nat) (c : FzV) : ∀ (H : List (Nat × AObj)) {j o}, ofH (delL id c H) j = some o → j ≠ id ∧ ∃ o', ofH H j = some o' ∧ o = subO id c o'
  | [], j, o, h => by cases h
  | (i, o1) :: H, j, o, h => by
    simp only [delL] at h
    by_cases hi : i = id
    · subst hi
      rw [Nat.beq_refl] at h
      obtain ⟨h1, o', h2, h3⟩ := ofH_del i c H h
      refine ⟨h1, o', ?_, h3⟩
      simp only [ofH]
      rw [beq_false h1]
      exact h2
    · rw [beq_false hi] at h
      simp only [cond_false, ofH] at h ⊢
      by_cases hj : j = i
      · subst hj
        rw [Nat.beq_refl] at h ⊢
        cases h
        exact ⟨hi, o1, rfl, rfl⟩
      · rw [beq_false hj] at h ⊢
        exact ofH_del id c H h

theorem subV_ok {Γ : Ctx} {obj : Nat → Option AObj} {w : World} {id : Nat} {c : FzV} (hc : FzOk Γ w id c) : ∀ {x v}, MV Γ obj w x v → MV Γ obj w (subV id c x) v := by
  intro x
  induction x with
  | t x => intro v h; exact subT_ok hc h
  | tup l => rintro v ⟨vs, rfl, h⟩; exact ⟨vs, rfl, subTs_ok hc h⟩
  | whn p x ih => intro v h; exact ⟨fun hp => ih (h.1 hp), h.2⟩
  | _ => intro v h; exact h

theorem subO_width (id : Nat) (c : FzV) (o : AObj) : (subO id c o).width = o.width := by cases o <;> rfl
theorem subO_fp {Γ : Ctx} {id j : Nat} {c : FzV} {o : AObj} {b : Nat} : fp Γ j (subO id c o) b ↔ fp Γ j o b := by cases o <;> exact Iff.rfl

/-- An owned slice given up, all over the state. -/
theorem ent_freeze0 {n : Nat} {L : List (Nat × AV)} {H : List (Nat × AObj)} {id : Nat} {o : AObj} {z : FzV} (ho : ofH H id = some o) (hz : fzOb o = some z) :
    (AS.lst n L H).ent (AS.lst n (subL id z L) (delL id z H)) := by
  intro G Γ a w hC
  obtain ⟨Γ1, h1, g1, e1, m1, r1, n1, _⟩ := freeze_ok hC.heap hC.g ho hz
  have hsub : ∀ j o, ofH (delL id z H) j = some o → ∃ o', delObj id (ofH H) j = some o' ∧ o = subO id z o' := by
    intro j o h
    obtain ⟨g1, o', g2, g3⟩ := ofH_del id _ H h
    refine ⟨o', ?_, g3⟩
    unfold delObj
    rw [beq_false g1]; exact g2
  refine ⟨Γ1, ⟨hC.size, hC.defers, fun t => ?_, ⟨fun j o hj => ?_, fun j o b hj hb => ?_, fun j o j' o' b hj hj' hb hb' => ?_, h1.ilt, h1.glob⟩, ⟨g1.os, g1.tape, g1.output, g1.size, g1.prlt, g1.keep, g1.sub, g1.bak, fun j o b hj hb => ?_⟩, fun i hi => by rw [r1, n1]; exact hC.ids i hi⟩⟩
  · have h2 : MV Γ1 (ofH (delL id z H)) w (lkp L t) (a.tmps.getD t undef) := MV.ext e1 (fun j o _ hj => by
      obtain ⟨o', g1, rfl⟩ := hsub j o hj
      exact ⟨o', (delObj_some g1).2, subO_width _ _ _⟩) (fun d hd => hd.elim) (hC.regs t)
    simp only [AS.lst]
    rw [lkp_sub]
    exact subV_ok m1 h2
  · obtain ⟨o', q1, rfl⟩ := hsub j o hj
    have := h1.objs j o' q1
    cases o' with
    | row cells => obtain ⟨cs, T', q2, q3⟩ := this; exact ⟨cs, T', q2, subAs_ok m1 q3⟩
    | _ => exact this
  · obtain ⟨o', q1, rfl⟩ := hsub j o hj
    exact h1.lt j o' b q1 (subO_fp.1 hb)
  · obtain ⟨o1, q1, rfl⟩ := hsub j o hj
    obtain ⟨o2, q2, rfl⟩ := hsub j' o' hj'
    exact h1.inj j o1 j' o2 b q1 q2 (subO_fp.1 hb) (subO_fp.1 hb')
  · obtain ⟨o', q1, rfl⟩ := hsub j o hj
    exact g1.own j o' b q1 (subO_fp.1 hb)

theorem ent_freeze {n : Nat} {L : List (Nat × AV)} {H : List (Nat × AObj)} {id : Nat} {T k α d row l} (ho : ofH H id = some (.grow T k α d row l)) :
    (AS.lst n L H).ent (AS.lst n (subL id (.sl (.sl k α d row l)) L) (delL id (.sl (.sl k α d row l)) H)) := ent_freeze0 ho rfl

/-! ### nil as an owned slice -/
def setL (t : Nat) (v : AV) : List (Nat × AV) → List (Nat × AV)
  | [] => []
  | (i, u) :: l => bif Nat.beq i t then (i, v) :: setL t v l else (i, u) :: setL t v l

def hasL (d : Nat) : List (Nat × AV) → Bool
  | [] => false
  | (_, v) :: l => v.has d || hasL d l
def hasO (d : Nat) : List (Nat × AObj) → Bool
  | [] => false
  | (i, o) :: l => Nat.beq i d || (o.has d || hasO d l)

theorem hasL_ok {d : Nat} : ∀ {L : List (Nat × AV)}, hasL d L = false → ∀ t, (lkp L t).has d = false
  | [], _, t => rfl
  | (i, v) :: L, h, t => by
    simp only [hasL, Bool.or_eq_false_iff] at h
    simp only [lkp]
    cases Nat.beq t i
    · exact hasL_ok h.2 t
    · exact h.1
theorem hasO_ok {d : Nat} : ∀ {H : List (Nat × AObj)}, hasO d H = false → ofH H d = none ∧ ∀ j o, ofH H j = some o → o.has d = false
  | [], _ => ⟨rfl, fun _ _ h => (by cases h)⟩
  | (i, o) :: H, h => by
    simp only [hasO, Bool.or_eq_false_iff] at h
    obtain ⟨h1, h2, h3⟩ := h
    obtain ⟨g1, g2⟩ := hasO_ok h3
    have hne : d ≠ i := fun e => by subst e; rw [Nat.beq_refl] at h1; cases h1
    refine ⟨by simp only [ofH]; rw [beq_false hne]; exact g1, fun j o' hj => ?_⟩
    simp only [ofH] at hj
    by_cases hji : j = i
    · subst hji; rw [Nat.beq_refl] at hj; cases hj; exact h2
    · rw [beq_false hji] at hj; exact g2 j o' hj

theorem lkp_set {t : Nat} {v : AV} : ∀ {L : List (Nat × AV)} {u : Nat}, (u ≠ t → lkp (setL t v L) u = lkp L u) ∧ (lkp (setL t v L) t = v ∨ lkp (setL t v L) t = .any)
  | [], u => ⟨fun _ => rfl, .inr rfl⟩
  | (i, x) :: L, u => by
    obtain ⟨h1, h2⟩ := lkp_set (t := t) (v := v) (L := L) (u := u)
    by_cases hi : i = t
    · subst hi
      simp only [setL, Nat.beq_refl, cond_true, lkp]
      exact ⟨fun hu => by rw [beq_false hu]; exact h1 hu, .inl trivial⟩
    · simp only [setL, beq_false hi, cond_false, lkp]
      refine ⟨fun hu => ?_, by rw [beq_false (Ne.symm hi)]; exact h2⟩
      cases Nat.beq u i
      · exact h1 hu
      · rfl

/-- The nil slice in slot t is owned from now on, under the name d. -/
theorem ent_adopt {n : Nat} {L : List (Nat × AV)} {H : List (Nat × AObj)} {t d : Nat} (T : TypeId) (k : Nat) (α : Type) (dd : α) (row : α → Nat → SC) (ht : lkp L t = vc .nilsl) (hd : Nat.blt d n = true) (hf : hasL d L = false) (hf' : hasO d H = false) :
    (AS.lst n L H).ent (AS.lst n (setL t (vo d) L) ((d, .grow T k α dd row []) :: H)) := by
  intro G Γ a w hC
  obtain ⟨f1, f2⟩ := hasO_ok hf'
  let Γ' := mkΓ Γ d (Γ.ρ d) (.slice none 0 0)
  have hext : Ext (fun id => id = d) Γ w Γ' w := ⟨fun b hb => hb, fun b _ => rfl, mk_agree Γ d _ _⟩
  have hobj : ∀ j o, ofH ((d, AObj.grow T k α dd row []) :: H) j = some o → (j = d ∧ o = .grow T k α dd row []) ∨ (j ≠ d ∧ ofH H j = some o) := by
    intro j o h
    simp only [ofH] at h
    by_cases hj : j = d
    · subst hj; rw [Nat.beq_refl] at h; cases h; exact .inl ⟨rfl, rfl⟩
    · rw [beq_false hj] at h; exact .inr ⟨hj, h⟩
  have hfp : ∀ j o b, j ≠ d → fp Γ' j o b → fp Γ j o b := fun j o b hj h => (fp.ext (mk_agree Γ d (Γ.ρ d) (.slice none 0 0)) hj).1 h
  have hnf : ∀ b, ¬ fp Γ' d (.grow T k α dd row []) b := fun b h => by
    have := h.2
    simp only [Γ', mk_η] at this
    exact this rfl
  have hvv := hC.regs t
  simp only [AS.lst] at hvv
  rw [ht] at hvv
  have hvv : a.tmps.getD t undef = .slice none 0 0 := hvv
  refine ⟨Γ', ⟨hC.size, hC.defers, fun u => ?_, ⟨fun j o hj => ?_, fun j o b hj hb => ?_, fun j o j' o' b hj hj' hb hb' => ?_, hC.heap.ilt, hC.heap.glob⟩, ⟨hC.g.os, hC.g.tape, hC.g.output, hC.g.size, hC.g.prlt, hC.g.keep, hC.g.sub, hC.g.bak, fun j o b hj hb => ?_⟩, fun i hi => ?_⟩⟩
  · simp only [AS.lst]
    by_cases hu : u = t
    · subst hu
      rcases (lkp_set (t := u) (v := vo d) (L := L) (u := u)).2 with h | h
      · rw [h, hvv]; simp only [MV, MT, MC, Γ', mk_η]; exact ⟨trivial, rfl⟩
      · rw [h]; trivial
    · rw [(lkp_set (t := t) (v := vo d) (L := L) (u := u)).1 hu]
      refine MV.ext hext (fun j o hj ho => ?_) (fun e he => by subst he; exact hasL_ok hf u) (hC.regs u)
      rcases hobj j o ho with ⟨h, _⟩ | ⟨_, h⟩
      · exact absurd h hj
      · exact ⟨o, h, rfl⟩
  · rcases hobj j o hj with ⟨rfl, rfl⟩ | ⟨h1, h2⟩
    · exact .inl ⟨by simp only [Γ', mk_η], rfl⟩
    · exact MO.ext hext h1 (fun e he => by subst he; exact f2 j o h2) (fun b _ => rfl) (hC.heap.objs j o h2)
  · rcases hobj j o hj with ⟨rfl, rfl⟩ | ⟨h1, h2⟩
    · exact absurd hb (hnf b)
    · exact hC.heap.lt j o b h2 (hfp j o b h1 hb)
  · rcases hobj j o hj with ⟨rfl, rfl⟩ | ⟨h1, h2⟩
    · exact absurd hb (hnf b)
    · rcases hobj j' o' hj' with ⟨rfl, rfl⟩ | ⟨h1', h2'⟩
      · exact absurd hb' (hnf b)
      · exact hC.heap.inj j o j' o' b h2 h2' (hfp j o b h1 hb) (hfp j' o' b h1' hb')
  · rcases hobj j o hj with ⟨rfl, rfl⟩ | ⟨h1, h2⟩
    · exact absurd hb (hnf b)
    · exact hC.g.own j o b h2 (hfp j o b h1 hb)
  · have hdn := Nat.le_of_ble_eq_true hd
    obtain ⟨e1, e2⟩ := mk_agree Γ d (Γ.ρ d) (.slice none 0 0) i (by have : n ≤ i := hi; omega)
    show (mkΓ Γ d (Γ.ρ d) (.slice none 0 0)).ρ i = _ ∧ (mkΓ Γ d (Γ.ρ d) (.slice none 0 0)).η i = _
    rw [e1, e2]
    exact hC.ids i hi

/-! ### A name changed -/
def rnN (i j x : Nat) : Nat := bif Nat.beq x i then j else bif Nat.beq x j then i else x
def rnC (i j : Nat) : AC → AC
  | .ptr id o => .ptr (rnN i j id) o
  | .own id => .own (rnN i j id)
  | .fn f caps => .fn f (caps.map fun | .ptr id o => .ptr (rnN i j id) o | c => c)
  | c => c
def rnT (i j : Nat) : TV → TV
  | .c a => .c (rnC i j a)
  | .agg l => .agg (l.map (rnC i j))
  | x => x
def rnV (i j : Nat) : AV → AV
  | .t x => .t (rnT i j x)
  | .tup l => .tup (l.map (rnT i j))
  | .oel id a b => .oel (rnN i j id) a b
  | .whn p x => .whn p (rnV i j x)
  | x => x
def rnO (i j : Nat) : AObj → AObj
  | .row cells => .row (cells.map (rnC i j))
  | .hole T k α d row l q e => .hole T k α d row l q (rnN i j e)
  | o => o
def rnL (i j : Nat) : List (Nat × AV) → List (Nat × AV)
  | [] => []
  | (t, v) :: l => (t, rnV i j v) :: rnL i j l
def rnH (i j : Nat) : List (Nat × AObj) → List (Nat × AObj)
  | [] => []
  | (id, o) :: l => (rnN i j id, rnO i j o) :: rnH i j l

theorem rnN_inv (i j x : Nat) : rnN i j (rnN i j x) = x := by
  unfold rnN
  by_cases h1 : x = i
  · subst h1
    simp only [Nat.beq_refl, cond_true]
    by_cases h2 : j = x
    · subst h2; simp [Nat.beq_refl]
    · simp [beq_false h2]
  · rw [beq_false h1]
    by_cases h2 : x = j
    · subst h2; simp [Nat.beq_refl]
    · simp [beq_false h2, beq_false h1]

def rnΓ (i j : Nat) (Γ : Ctx) : Ctx := ⟨Γ.I, fun x => Γ.ρ (rnN i j x), fun x => Γ.η (rnN i j x)⟩

section
variable {i j : Nat} {Γ : Ctx} {w : World}
theorem rnCap_ok : ∀ {l : List Cap} {vs : List Value}, MCaps Γ w l vs → MCaps (rnΓ i j Γ) w (l.map fun | .ptr id o => .ptr (rnN i j id) o | c => c) vs
  | [], [], _ => trivial
  | .s c :: l, v :: vs, h => ⟨h.1, rnCap_ok h.2⟩
  | .ptr id o :: l, v :: vs, h => ⟨by have := h.1; simp only [MCap, rnΓ, rnN_inv] at this ⊢; exact this, rnCap_ok h.2⟩
  | [], _ :: _, h => h.elim
  | .s _ :: _, [], h => h.elim
  | .ptr .. :: _, [], h => h.elim
theorem rnC_ok {c v} (h : MC Γ w c v) : MC (rnΓ i j Γ) w (rnC i j c) v := by
  cases c with
  | s c => exact h
  | ptr id o => simp only [rnC, MC, rnΓ, rnN_inv] at h ⊢; exact h
  | own id => simp only [rnC, MC, rnΓ, rnN_inv] at h ⊢; exact h
  | fn f caps => obtain ⟨cs, rfl, h⟩ := h; exact ⟨cs, rfl, rnCap_ok h⟩
theorem rnCs_ok : ∀ {l : List AC} {vs : List Value}, MCs Γ w l vs → MCs (rnΓ i j Γ) w (l.map (rnC i j)) vs
  | [], [], _ => trivial
  | _ :: _, _ :: _, h => ⟨rnC_ok h.1, rnCs_ok h.2⟩
  | [], _ :: _, h => h.elim
  | _ :: _, [], h => h.elim
theorem rnT_ok {c v} (h : MT Γ w c v) : MT (rnΓ i j Γ) w (rnT i j c) v := by
  cases c with
  | c a => exact rnC_ok h
  | agg l => obtain ⟨cs, rfl, h⟩ := h; exact ⟨cs, rfl, rnCs_ok h⟩
  | arr => exact h
theorem rnTs_ok : ∀ {l : List TV} {vs : List Value}, MTs Γ w l vs → MTs (rnΓ i j Γ) w (l.map (rnT i j)) vs
  | [], [], _ => trivial
  | _ :: _, _ :: _, h => ⟨rnT_ok h.1, rnTs_ok h.2⟩
  | [], _ :: _, h => h.elim
  | _ :: _, [], h => h.elim
theorem rnV_ok {obj obj' : Nat → Option AObj} (ho : ∀ id o, obj' (rnN i j id) = some o → ∃ o', obj id = some o' ∧ o.width = o'.width) : ∀ {c v}, MV Γ obj w c v → MV (rnΓ i j Γ) obj' w (rnV i j c) v := by
  intro c
  induction c with
  | any => intro v _; trivial
  | t x => intro v h; exact rnT_ok h
  | tup l => rintro v ⟨vs, rfl, h⟩; exact ⟨vs, rfl, rnTs_ok h⟩
  | ro n f => intro v h; exact h
  | oel id a b =>
    rintro v ⟨k, rfl, hk⟩
    refine ⟨k, by simp only [rnΓ, rnN_inv], fun o hob => ?_⟩
    obtain ⟨o', h1, h2⟩ := ho id o hob
    rw [h2]; exact hk o' h1
  | whn p x ih => intro v h; exact ⟨fun hp => ih (h.1 hp), h.2⟩
theorem rnO_ok {id : Nat} {o : AObj} (h : MO Γ w id o) : MO (rnΓ i j Γ) w (rnN i j id) (rnO i j o) := by
  cases o with
  | row cells => obtain ⟨cs, T, h1, h2⟩ := h; exact ⟨cs, T, by simp only [rnΓ, rnN_inv]; exact h1, rnCs_ok h2⟩
  | grow T k α d row l => simp only [rnO, MO, rnΓ, rnN_inv] at h ⊢; exact h
  | arr k n α d row l => simp only [rnO, MO, rnΓ, rnN_inv] at h ⊢; exact h
  | iter s p => simp only [rnO, MO, rnΓ, rnN_inv] at h ⊢; exact h
  | hole T k α d row l q e => simp only [rnO, MO, rnΓ, rnN_inv] at h ⊢; exact h
theorem rnfp {id : Nat} {o : AObj} {b : Nat} : fp (rnΓ i j Γ) (rnN i j id) (rnO i j o) b ↔ fp Γ id o b := by
  cases o <;> simp only [rnO, fp, rnΓ, rnN_inv]
end

theorem lkp_rn (i j : Nat) : ∀ (L : List (Nat × AV)) (t : Nat), lkp (rnL i j L) t = rnV i j (lkp L t)
  | [], t => rfl
  | (x, v) :: L, t => by
    simp only [rnL, lkp]
    cases Nat.beq t x
    · exact lkp_rn i j L t
    · rfl

theorem rnN_inj {i j x y : Nat} (h : rnN i j x = rnN i j y) : x = y := by
  have := congrArg (rnN i j) h
  rwa [rnN_inv, rnN_inv] at this

theorem ofH_rn (i j : Nat) : ∀ (H : List (Nat × AObj)) {id o}, ofH (rnH i j H) id = some o → ∃ id' o', id = rnN i j id' ∧ o = rnO i j o' ∧ ofH H id' = some o'
  | [], id, o, h => by cases h
  | (x, o1) :: H, id, o, h => by
    simp only [rnH, ofH] at h
    by_cases hx : id = rnN i j x
    · subst hx
      rw [Nat.beq_refl] at h
      cases h
      exact ⟨x, o1, rfl, rfl, by simp only [ofH]; rw [Nat.beq_refl]; rfl⟩
    · rw [beq_false hx] at h
      obtain ⟨id', o', rfl, rfl, h3⟩ := ofH_rn i j H h
      refine ⟨id', o', rfl, rfl, ?_⟩
      simp only [ofH]
      rw [beq_false (fun e => hx (by rw [e]))]
      exact h3

/-- Two names exchanged (both of slots). -/
theorem ent_swap {n : Nat} {L : List (Nat × AV)} {H : List (Nat × AObj)} (i j : Nat) (hi : Nat.blt i n = true) (hj : Nat.blt j n = true) : (AS.lst n L H).ent (AS.lst n (rnL i j L) (rnH i j H)) := by
  intro G Γ a w hC
  have hi := Nat.le_of_ble_eq_true hi
  have hj := Nat.le_of_ble_eq_true hj
  refine ⟨rnΓ i j Γ, ⟨hC.size, hC.defers, fun t => ?_, ⟨fun id o ho => ?_, fun id o b ho hb => ?_, fun id o id' o' b ho ho' hb hb' => ?_, hC.heap.ilt, hC.heap.glob⟩, ⟨hC.g.os, hC.g.tape, hC.g.output, hC.g.size, hC.g.prlt, hC.g.keep, hC.g.sub, hC.g.bak, fun id o b ho hb => ?_⟩, fun x hx => ?_⟩⟩
  · simp only [AS.lst]
    rw [lkp_rn]
    refine rnV_ok (fun id o ho => ?_) (hC.regs t)
    obtain ⟨id', o', h1, rfl, h3⟩ := ofH_rn i j H ho
    have := rnN_inj h1
    subst this
    exact ⟨o', h3, by cases o' <;> rfl⟩
  · obtain ⟨id', o', rfl, rfl, h3⟩ := ofH_rn i j H ho
    exact rnO_ok (hC.heap.objs id' o' h3)
  · obtain ⟨id', o', rfl, rfl, h3⟩ := ofH_rn i j H ho
    exact hC.heap.lt id' o' b h3 (rnfp.1 hb)
  · obtain ⟨id1, o1, rfl, rfl, h3⟩ := ofH_rn i j H ho
    obtain ⟨id2, o2, rfl, rfl, h4⟩ := ofH_rn i j H ho'
    rw [hC.heap.inj id1 o1 id2 o2 b h3 h4 (rnfp.1 hb) (rnfp.1 hb')]
  · obtain ⟨id', o', rfl, rfl, h3⟩ := ofH_rn i j H ho
    exact hC.g.own id' o' b h3 (rnfp.1 hb)
  · have hx : n ≤ x := hx
    have : rnN i j x = x := by unfold rnN; rw [beq_false (by omega), beq_false (by omega)]; rfl
    simp only [rnΓ, this]
    exact hC.ids x hx

/-- A state that says less, told as lists: 'ks': the slots, 'hs': the objects that are kept. -/
theorem ent_proj {s : AS} (ks hs : List Nat) : s.ent (s.proj ks hs) := AS.ent_le (le_proj _ ks hs)

/-! ### What is learnt of a slot -/
theorem AMx.learn {P : Program} {R : Exit → AS → Prop} {k : List KI} {c : Code} {s : AS} (p : Prop) (hp : ∀ G Γ a w, Conc G Γ s a w → p) (h : p → AMx P R (.code c :: k) .normal s) : AMx P R (.code c :: k) .normal s :=
  fun G Γ a w hC => h (hp G Γ a w hC) G Γ a w hC

theorem AMx.int {P : Program} {R : Exit → AS → Prop} {k : List KI} {c : Code} {s : AS} (t : Nat) {ik n} (ht : s.reg t = vc (.int ik n)) (h : InR ik n → AMx P R (.code c :: k) .normal s) : AMx P R (.code c :: k) .normal s :=
  AMx.learn _ (fun G Γ a w hC => by have := hC.regs t; rw [ht] at this; exact this.2) h

theorem AMx.str {P : Program} {R : Exit → AS → Prop} {k : List KI} {c : Code} {s : AS} (t : Nat) {b} (ht : s.reg t = vc (.str b)) (h : b.length ≤ maxLen → AMx P R (.code c :: k) .normal s) : AMx P R (.code c :: k) .normal s :=
  AMx.learn _ (fun G Γ a w hC => by have := hC.regs t; rw [ht] at this; exact this.2) h

theorem AMx.sl {P : Program} {R : Exit → AS → Prop} {k : List KI} {c : Code} {s : AS} (t : Nat) {kk α d row} {l : List α} (ht : s.reg t = vc (.sl kk α d row l)) (h : l.length ≤ maxLen → AMx P R (.code c :: k) .normal s) : AMx P R (.code c :: k) .normal s :=
  AMx.learn _ (fun G Γ a w hC => by have := hC.regs t; rw [ht] at this; obtain ⟨_, cap, _, h1, h2, _⟩ := this; exact Nat.le_trans h1 h2) h
end AL
