/- An abstract logic, 17: one step of a region, whatever it is; a region in the order of its text. No condition. -/
import Derived.Test.YtphkoklgdkimmaaAL16
namespace AL
open Go
set_option linter.unusedVariables false

/-- An owned slice, cut short. -/
def evCutOwn (P : Program) (obj : Nat → Option AObj) (dst : Option Tmp) (T : TypeId) (x : AV) (lo hi mx : Option AV) : Option Eff :=
  match dst, x, lo, hi, mx with
  | some d, .t (.c (.own id)), none, some (.t (.c (.s (.int _ n)))), none =>
    match P.underlying T, obj id with
    | some (.slice e), some (.grow T' k α dd row l) =>
      if Nat.beq id d then none else
      if P.info? e ≠ none then some ⟨[0 ≤ n, n ≤ (l.length : Int)], .t (.c (.own d)), obj, [(id, .grow T' k α dd row l)], [(d, .grow T' k α dd row (l.take n.toNat))]⟩ else none
    | _, _ => none
  | _, _, _, _, _ => none

theorem cutOwn_ok {P : Program} {Γ : Ctx} {obj w dst T x} {lo hi mx : Option AV} {vx : Value} {vlo vhi vmx : Option Value} {f} (hh : HeapOk Γ obj w) (h : evCutOwn P obj dst T x lo hi mx = some f)
    (hx : MV Γ obj w x vx) (hlo : MVo Γ obj w lo vlo) (hhi : MVo Γ obj w hi vhi) (hmx : MVo Γ obj w mx vmx) (hc : allP f.conds) : EffOk P Γ obj w f ((Instr.sliceAt T vx vlo vhi vmx).run P w) := by
  unfold evCutOwn at h
  split at h
  · rename_i d id ik n
    split at h
    · rename_i e T' k α dd row l hu ho
      split at h
      · cases h
      · rename_i hne
        split at h
        · rename_i hi0
          cases h
          obtain ⟨h0, h1⟩ := (show 0 ≤ n ∧ n ≤ (l.length : Int) from hc)
          have hne : id ≠ d := fun e => hne (by subst e; exact Nat.beq_refl _)
          obtain ⟨inf, hinf⟩ : ∃ i, P.info? e = some i := by
            cases hx : P.info? e with
            | none => exact absurd hx hi0
            | some i => exact ⟨i, rfl⟩
          cases vlo with
          | some _ => exact hlo.elim
          | none =>
          cases vmx with
          | some _ => exact hmx.elim
          | none =>
          cases vhi with
          | none => exact hhi.elim
          | some vh =>
          obtain ⟨rfl, _⟩ : vh = .int ik n ∧ InR ik n := hhi
          obtain ⟨rfl, h1c⟩ := (show vx = Γ.η id ∧ _ from hx)
          have hsub : ∀ j o, ofH [(id, AObj.grow T' k α dd row l)] j = some o → obj j = some o := fun j o hj => by
            obtain ⟨rfl, rfl⟩ := ofH_one.1 hj; exact ho
          have hin : ofH [(id, AObj.grow T' k α dd row l)] id = some (.grow T' k α dd row l) := ofH_one.2 ⟨rfl, rfl⟩
          have hd0 : ofH [(id, AObj.grow T' k α dd row l)] d = none := by simp only [ofH]; rw [beq_false (Ne.symm hne)]; rfl
          have hn : n.toNat ≤ l.length := by omega
          have htk : (l.take n.toNat).length = n.toNat := by rw [List.length_take]; omega
          refine ⟨rfl, hsub, rfl, ?_⟩
          rcases hh.objs id _ ho with ⟨hη, rfl⟩ | ⟨cap, cur, hη, hb, hlc, hcm, hcs, hmm⟩
          · obtain rfl : n = 0 := by simp at h1; omega
            refine ⟨.slice none 0 0, w, mkΓ Γ d 0 (.slice none 0 0), ?_, ?_, by exact ⟨(mk_η Γ d _ _).symm, rfl⟩⟩
            · rw [hη]
              simp [Instr.sliceAt, run_underlying hu, Instr.slice, Instr.sliceBounds, run_sliceBound, run_sizeOf' hinf]
            · refine new_post (heap_sub hh hsub) hd0 rfl rfl rfl (Nat.le_refl _) (fun b hb => rfl) (.inl ⟨by rw [mk_η], by simp⟩) fun b hb => ?_
              obtain ⟨_, h2⟩ := hb
              simp only [mk_η] at h2
              exact absurd rfl h2
          · have hfp : fp Γ id (.grow T' k α dd row l) (Γ.ρ id) := ⟨rfl, by rw [hη]; simp⟩
            refine ⟨.slice (some ⟨Γ.ρ id, 0, none⟩) n.toNat cap, w, mkΓ Γ d (Γ.ρ id) (.slice (some ⟨Γ.ρ id, 0, none⟩) n.toNat cap), ?_, ?_, by exact ⟨(mk_η Γ d _ _).symm, rfl⟩⟩
            · rw [hη]
              have hb1 := run_sliceBound (P := P) (k := ik) (code := .sliceAcap) (w := w) (y := cap) h0 (by omega)
              simp [Instr.sliceAt, run_underlying hu, Instr.slice, Instr.sliceBounds, hb1, run_sizeOf' hinf, add_mk]
            · refine new_post (heap_sub hh hsub) hd0 rfl rfl rfl (Nat.le_refl _) (fun b hb => rfl) (.inr ⟨cap, cur, by rw [mk_η, mk_ρ, htk], by rw [mk_ρ]; exact hb, by rw [htk]; omega, hcm, hcs, fun j x hx i hi => ?_⟩) fun b hb' => ?_
              · rw [List.getElem?_take] at hx
                split at hx
                · exact hmm j x hx i hi
                · cases hx
              · obtain ⟨h1, _⟩ := hb'
                rw [mk_ρ] at h1
                subst h1
                exact ⟨fp_lt hh ho hfp, (hh.lt id _ _ ho hfp).2, fun hp => hp.2 id _ hin hfp⟩
        · cases h
    · cases h
  · cases h

/-- So many zero elements, appended onto nil. -/
theorem app_zero {P : Program} {w : World} {t u ty e : TypeId} {i : TypeInfo} {z : Value} {k0 : IntKind} (ht : P.underlying t = some (.slice e)) (hu : P.underlying u = some (.int k0)) (hi : P.info? e = some i) (hz : i.zero = some z) (hs : 0 < i.size)
    (n : Nat) (h1 : 1 ≤ n) (hfit : n * i.bytes ≤ 140737488355328) (h63 : n ≤ maxLen) :
    (Builtin.append_ #[t, u] ty #[.slice none 0 0, .int .i64 n]).run P w = Result.ok (.slice (some ⟨w.heap.size, 0, none⟩) n (grownCap w n 0 e))
      (w.drew.alloc (.cells (Builtin.zeroCells z.cells n ++ Builtin.zeroCells z.cells (grownCap w n 0 e - n)) e)) := by
  have hw : IntKind.wrap .i64 (n : Int) = n := wrap_of_inR (inR_len h63)
  simp only [maxLen] at h63
  have h63' : ¬ (9223372036854775807 < (n : Int)) := by omega
  have h0 : ¬ ((n : Int) < 0) := by omega
  have hfit' := growslice_fits (show 0 < n by omega) hfit
  have h48' : ¬ (281474976710656 < Builtin.nextslicecap n 0 * i.bytes) := by omega
  have h48 : ¬ (281474976710656 < (n : Int) * (i.bytes : Int)) := by
    have : ((n * i.bytes : Nat) : Int) ≤ 140737488355328 := by omega
    rw [Int.natCast_mul] at this; omega
  have hsz : ¬ (n * i.size = 0) := by
    have := Nat.mul_pos (show 0 < n by omega) hs; omega
  have hn0 : n ≠ 0 := by omega
  have hai : ∀ w, (asInt (.int .i64 (n : Int))).run P w = Result.ok (n : Int) w := fun w => rfl
  simp [Builtin.append_, run_underlying ht, run_underlying hu, run_sizeOf' hi, typeInfo, zeroValue, hi, hz, hw, h0, h48, h63', h48', Question.forced, newRow, grownCap, Builtin.firstCells, hai, hn0]
  exact fun h => absurd h hsz

def evAppZero (P : Program) (obj : Nat → Option AObj) (dst : Option Tmp) (t : TypeId) (s x : AV) (ce : Option CE) : Option Eff :=
  match dst, P.underlying t, ce, s, x with
  | some d, some (.slice e), some (.obj (.grow T' k α dd row l)), .t (.c (.s .nilsl)), .t (.c (.s (.int .i64 n))) =>
    match P.info? e, zeroCellsOf P e with
    | some i, some zc => if Nat.beq T' e && (Nat.beq k i.size && Nat.blt 0 k) then
        some ⟨[1 ≤ n, n * (i.bytes : Int) ≤ 140737488355328, MakeC n.toNat zc (.grow T' k α dd row l)], .t (.c (.own d)), obj, [], [(d, .grow T' k α dd row l)]⟩ else none
    | _, _ => none
  | _, _, _, _, _ => none

theorem appZero_ok {P : Program} {Γ : Ctx} {obj w dst t u ty s x vs vx ce f} {k0 : IntKind} (hu : P.underlying u = some (.int k0)) (hh : HeapOk Γ obj w) (h : evAppZero P obj dst t s x ce = some f) (hs : MV Γ obj w s vs) (hx : MV Γ obj w x vx) (hc : allP f.conds) :
    EffOk P Γ obj w f ((Builtin.append_ #[t, u] ty #[vs, vx]).run P w) := by
  unfold evAppZero at h
  split at h
  · rename_i d e T' k α dd row l n ht
    split at h
    · rename_i i zc hi hz
      split at h
      · rename_i hcc
        simp only [Bool.and_eq_true] at hcc
        have e1 := Nat.eq_of_beq_eq_true hcc.1
        have e2 := Nat.eq_of_beq_eq_true hcc.2.1
        have e3 : 0 < k := Nat.le_of_ble_eq_true hcc.2.2
        subst e1 e2
        cases h
        obtain ⟨h1, h2, x, h4, h5⟩ := hc
        have h1 : 1 ≤ n := h1
        have h2 : n * (i.bytes : Int) ≤ 140737488355328 := h2
        obtain rfl : vs = .slice none 0 0 := hs
        obtain ⟨rfl, hin⟩ := hx
        obtain ⟨i', z, hi', hzz, hzs, hmz⟩ := zero_ok hz
        rw [hi] at hi'; cases hi'
        obtain ⟨m, rfl⟩ : ∃ m : Nat, n = m := ⟨n.toNat, by omega⟩
        have hm63 : m ≤ maxLen := by
          have := hin.2
          have e : IntKind.max .i64 = 9223372036854775807 := by decide +kernel
          rw [e] at this
          simp only [maxLen]; omega
        have hr := app_zero (P := P) (w := w) (ty := ty) ht hu hi hzz e3 m (by omega) (by rw [← Int.natCast_mul] at h2; omega) hm63
        rw [hr]
        simp only [Int.toNat_natCast] at h4
        have hln : l.length = m := by rw [h4]; simp
        have hge := grownCap_ge w m 0 T'
        have hcm := grownCap_le_maxLen w m 0 T' hm63
        refine ⟨rfl, fun _ _ h => (by cases h), rfl, _, _, _, rfl, alloc_grow (k := i.size) (cap := grownCap w m 0 T') (dd := dd) (row := row) (l := l) (w1 := w.drew) (heap0 hh) rfl rfl rfl rfl ?_ (by omega) hcm fun j y hy i' hi' => ?_, ?_⟩
        · simp only [Array.size_append, size_zeroCells, hzs, ← Nat.add_mul]
          congr 1; omega
        · have hy' : y = x := by
            rw [h4] at hy
            rw [List.getElem?_replicate] at hy
            split at hy
            · cases hy; rfl
            · cases hy
          subst hy'
          have hj : j < l.length := (List.getElem?_eq_some_iff.1 hy).1
          have hmm := hmz Γ w
          rw [← h5] at hmm
          have e : (ofS i.size (row y))[i']? = some (.s (row y i')) := by simp [ofS, hi']
          obtain ⟨u, hu1, hu2⟩ := hmm.get e
          refine ⟨u, ?_, hu2⟩
          have hlt : j * i.size + i' < m * i.size := by
            have : (j + 1) * i.size ≤ m * i.size := Nat.mul_le_mul_right _ (by omega)
            rw [Nat.add_mul] at this; omega
          have hmod : (j * i.size + i') % i.size = i' := by rw [Nat.mul_comm, Nat.mul_add_mod, Nat.mod_eq_of_lt hi']
          rw [Array.getElem?_append_left (by rw [size_zeroCells, hzs]; exact hlt)]
          simp only [Builtin.zeroCells, Array.getElem?_map, Array.getElem?_range, hzs]
          rw [if_pos hlt]
          simp only [Option.map_some, hmod]
          rw [Array.getElem?_toList] at hu1
          simp [getElem!_def, hu1]
        · simp only [MV, MT, MC, mk_η]
          exact ⟨by rw [hln], rfl⟩
      · cases h
    · cases h
  · cases h

/-- All cells of an owned slice are written over by those of a slice as long. -/
def evCopy (P : Program) (obj : Nat → Option AObj) (t : TypeId) (s x : AV) (ce : Option CE) : Option Eff :=
  match s, ce with
  | .t (.c (.own id)), some (.obj (.grow T2 k2 α2 d2 row2 l2)) =>
    match P.underlying t, obj id with
    | some (.slice e), some (.grow T k α dd row l) =>
      match P.info? e with
      | some i =>
        match evSrc obj i.size x with
        | some (cells, n) =>
          if Nat.beq T2 T && (Nat.beq k2 k && Nat.beq k i.size) then
            some ⟨[flat k2 row2 l2 = cells, l2.length = n, l.length = n], .t (.c (.s (.int .i64 n))), obj, [(id, .grow T k α dd row l)], [(id, .grow T2 k2 α2 d2 row2 l2)]⟩
          else none
        | none => none
      | none => none
    | _, _ => none
  | _, _ => none

theorem copy_ok {P : Program} {Γ : Ctx} {obj w t u ty s x} {vs vx : Value} {ce f} (hh : HeapOk Γ obj w) (h : evCopy P obj t s x ce = some f)
    (hs : MV Γ obj w s vs) (hx : MV Γ obj w x vx) (hc : allP f.conds) : EffOk P Γ obj w f ((Builtin.copy_ #[t, u] ty #[vs, vx]).run P w) := by
  unfold evCopy at h
  split at h
  · rename_i id T2 k2 α2 d2 row2 l2
    split at h
    · rename_i e T k α dd row l hu ho
      split at h
      · rename_i inf hinf
        split at h
        · rename_i cells n hsrc
          split at h
          · rename_i hcc
            simp only [Bool.and_eq_true] at hcc
            have hT := Nat.eq_of_beq_eq_true hcc.1
            have hk2 := Nat.eq_of_beq_eq_true hcc.2.1
            have hk := Nat.eq_of_beq_eq_true hcc.2.2
            subst hT hk2 hk
            cases h
            obtain ⟨c1, c2, c3⟩ := (show flat inf.size row2 l2 = cells ∧ l2.length = n ∧ l.length = n from hc)
            obtain ⟨hlen, news, hm, hnl, hfc⟩ := lenOf_src (P := P) hh hsrc hx
            obtain ⟨rfl, _⟩ := (show vs = Γ.η id ∧ _ from hs)
            have hsub : ∀ j o, ofH [(id, AObj.grow T2 inf.size α dd row l)] j = some o → obj j = some o := fun j o hj => by
              obtain ⟨rfl, rfl⟩ := ofH_one.1 hj; exact ho
            have hin : ofH [(id, AObj.grow T2 inf.size α dd row l)] id = some (.grow T2 inf.size α dd row l) := ofH_one.2 ⟨rfl, rfl⟩
            refine ⟨rfl, hsub, rfl, ?_⟩
            rcases hh.objs id _ ho with ⟨hη, rfl⟩ | ⟨cap, cur, hη, hb, hlc, hcm, hcs, hmm⟩
            · obtain rfl : 0 = n := c3
              have hl2 : l2 = [] := List.eq_nil_of_length_eq_zero c2
              have hn0 : news = [] := List.eq_nil_of_length_eq_zero (by omega)
              subst hn0
              refine ⟨.int .i64 0, w, Γ, ?_, upd_post (heap_sub hh hsub) rfl rfl rfl (Nat.le_refl _) (fun b hb => rfl) (fun b hb => hb) (.inl ⟨hη, hl2⟩), ⟨rfl, by decide⟩⟩
              rw [hη]
              simp [Builtin.copy_, run_underlying hu, hlen, run_sizeOf' hinf, hfc w rfl, goInt]
            · have hfp : fp Γ id (.grow T2 inf.size α dd row l) (Γ.ρ id) := ⟨rfl, by rw [hη]; simp⟩
              have hnI := (hh.lt id _ _ ho hfp).2
              have hk' : ∀ cs b, b ≠ Γ.ρ id → (w.setRow (Γ.ρ id) cs).heap[b]? = w.heap[b]? := fun cs b hb => setRow_other w _ b _ hb
              have hle : n * inf.size ≤ cur.size := by rw [hcs, ← c3]; exact Nat.mul_le_mul_right _ hlc
              have hst := run_storeCells_at P (Γ.ρ id) 0 T2 news 0 cur w hb (by omega) hm.one
              simp only [Nat.add_zero, Nat.zero_add, List.take_zero, List.nil_append] at hst
              have hx2 : Ext (fun _ => False) Γ w Γ (w.setRow (Γ.ρ id) (news ++ cur.toList.drop news.length).toArray) := mk_ext fun b hb => hk' _ b fun e => hnI (e ▸ hb)
              refine ⟨.int .i64 n, w.setRow (Γ.ρ id) (news ++ cur.toList.drop news.length).toArray, Γ, ?_, upd_post (heap_sub hh hsub) rfl rfl rfl (by rw [setRow_size]; exact Nat.le_refl _) (fun b hb => hk' _ b (hb _ hfp)) (fun b hb => hb)
                (.inr ⟨cap, _, by rw [c2, ← c3]; exact hη, setRow_heap w _ _ _ _ _ hb, by rw [c2, ← c3]; exact hlc, hcm, ?_, fun j y hy i hi => ?_⟩), ⟨rfl, by simp only [maxLen] at hcm; simp [InR, IntKind.min, IntKind.max, IntKind.signed, IntKind.bits]; omega⟩⟩
              · rw [hη]
                simp [Builtin.copy_, run_underlying hu, hlen, run_sizeOf' hinf, hfc w rfl, goInt, c3, hst]
              · simp; omega
              · rw [← c1] at hm
                obtain ⟨u0, h1, h2⟩ := get_flat inf.size row2 l2 news hm j y hy i hi
                have hlt := (List.getElem?_eq_some_iff.1 h1).1
                refine ⟨u0, ?_, MS.mono (fun b hb => hb) (fun b hb => hk' _ b fun e => hnI (e ▸ hb)) h2⟩
                rw [List.getElem?_toArray, List.getElem?_append_left hlt]
                exact h1
          · cases h
        · cases h
      · cases h
    · cases h
  · cases h

/-- The operations with an effect (but a store): what is made is owned. -/
def evE0 (P : Program) (obj : Nat → Option AObj) (val : Operand → AV) (o : Oper) (ce : Option CE) : Option Eff :=
  match o.op with
  | .alloc T => evAlloc P obj o.dst T ce
  | .box _ x => evBox obj o.dst (val x) ce
  | .buildSlice T len parts => evBuildSlice P obj o.dst T len (parts.toList.map fun p => (p.1, val p.2)) ce
  | .makeSlice T l c => evMakeSlice P obj o.dst T (val l) (val c) ce
  | .call c => match c.callee with
    | .builtin .append => match c.args.toList, c.argTypes.toList with
      | [s, x], [t, u] => match P.underlying u with
        | some (.int _) => evAppZero P obj o.dst t (val s) (val x) ce
        | _ => evAppend P obj o.dst t u (val s) (val x) ce
      | _, _ => none
    | .builtin .copy => match c.args.toList, c.argTypes.toList with
      | [s, x], [t, u] => evCopy P obj t (val s) (val x) ce
      | _, _ => none
    | _ => none
  | .slice T x lo hi mx => evCutOwn P obj o.dst T (val x) (lo.map val) (hi.map val) (mx.map val)
  | _ => none

theorem evE0_ok {P : Program} {Γ : Ctx} {obj w} {val : Operand → AV} {ρ : Operand → Value} {o : Oper} {ce f} (hh : HeapOk Γ obj w) (h : evE0 P obj val o ce = some f) (hv : ∀ x ∈ o.op.operands.toList, MV Γ obj w (val x) (ρ x)) (hc : allP f.conds) :
    ∃ run, EffOk P Γ obj w f run ∧ (execOp ρ o).run P w = run.andThen fun v w' => Result.ok (.value v) w' := by
  have tl : ∀ {α : Type} {xs : Array α} {l : List α}, xs.toList = l → xs = l.toArray := fun h => by rw [← h]
  unfold evE0 at h
  unfold execOp
  split at h
  · rename_i T e; simp only [e]; exact ⟨_, alloc_ok hh h hc, by simp⟩
  · rename_i T x e; simp only [e]; exact ⟨_, box_ok (T := T) hh h (hv x (by simp [e, Op.operands])) hc, by simp⟩
  · rename_i T len parts e
    simp only [e]
    have := buildSlice_ok (P := P) hh h (mparts_map parts.toList fun y hy => hv y (by simpa [e, Op.operands] using hy)) hc
    rw [show (parts.toList.map fun p => (p.1, ρ p.2)).toArray = parts.map fun (i, x) => (i, ρ x) by apply Array.ext'; simp] at this
    exact ⟨_, this, by simp⟩
  · rename_i T l c e; simp only [e]; exact ⟨_, makeSlice_ok hh h (hv l (by simp [e, Op.operands])) (hv c (by simp [e, Op.operands])) hc, by simp⟩
  · rename_i c e
    simp only [e]
    split at h
    · rename_i hcal
      split at h
      · rename_i s x t u e1 e2
        split at h
        · rename_i k0 hu
          exact ⟨_, appZero_ok (ty := o.type) hu hh h (hv s (by simp [e, Op.operands, Call.operands, hcal, e1])) (hv x (by simp [e, Op.operands, Call.operands, hcal, e1])) hc, by simp [resolve, hcal, invoke, builtin, tl e1, tl e2]⟩
        · obtain ⟨h1, h2, h3, h4⟩ := append_ok (P := P) (ty := o.type) hh h (hv s (by simp [e, Op.operands, Call.operands, hcal, e1])) (hv x (by simp [e, Op.operands, Call.operands, hcal, e1])) hc
          exact ⟨_, ⟨h1, h2, h3, h4⟩, by simp [resolve, hcal, invoke, builtin, tl e1, tl e2]⟩
      · cases h
    · rename_i hcal
      split at h
      · rename_i s x t u e1 e2
        exact ⟨_, copy_ok (ty := o.type) (u := u) hh h (hv s (by simp [e, Op.operands, Call.operands, hcal, e1])) (hv x (by simp [e, Op.operands, Call.operands, hcal, e1])) hc, by simp [resolve, hcal, invoke, builtin, tl e1, tl e2]⟩
      · cases h
    · cases h
  · rename_i T x lo hi mx e
    simp only [e]
    have hm : ∀ (q : Option Operand), (∀ y, q = some y → y ∈ o.op.operands.toList) → MVo Γ obj w (q.map val) (q.map ρ) := fun q hq => mvo_map q fun y hy => hv y (hq y hy)
    refine ⟨_, cutOwn_ok hh h (hv x (by simp [e, Op.operands])) (hm lo fun y hy => by simp [e, Op.operands, hy]) (hm hi fun y hy => by simp [e, Op.operands, hy]) (hm mx fun y hy => by simp [e, Op.operands, hy]) hc, by simp⟩
  · cases h

/-- What was made is shared at once. -/
def shr (f : Eff) : Option Eff :=
  match f.new, f.res with
  | [(d, o)], .t (.c (.own d')) => if Nat.beq d' d then
      match fzOb o with
      | some (.sl c) => some ⟨f.conds, .t (.c (.s c)), f.obj, f.hin, []⟩
      | _ => none
    else none
  | [(d, o)], .t (.c (.ptr d' 0)) => if Nat.beq d' d then
      match fzOb o with
      | some (.row l) => some ⟨f.conds, .t (.c (.s (.ref l.length (rl l)))), f.obj, f.hin, []⟩
      | _ => none
    else none
  | _, _ => none

theorem shr_ok {P : Program} {Γ : Ctx} {obj w f f'} {run : Result Value} (h : EffOk P Γ obj w f run) (hs : shr f = some f') : f'.conds = f.conds ∧ EffOk P Γ obj w f' run := by
  obtain ⟨h1, h2, h3, v, w', Γ', h4, h5, h6⟩ := h
  have key : ∀ (d : Nat) (o : AObj) (z : FzV), f.new = [(d, o)] → fzOb o = some z → ∃ Γ2 : Ctx, Post Γ (ofH f.hin) w Γ2 [] w' ∧ ∃ Γ1 : Ctx, FzOk Γ1 w' d z ∧ Γ1.I = Γ2.I ∧ Γ1.ρ = Γ'.ρ ∧ Γ1.η = Γ'.η := by
    intro d o z hn hz
    rw [hn] at h5
    obtain ⟨Γ1, q1, q2, q3, q4, q5, q6, _⟩ := freeze_ok h5.heap h5.g (ofH_one.2 ⟨rfl, rfl⟩) hz
    refine ⟨⟨Γ1.I, Γ.ρ, Γ.η⟩, ⟨⟨fun _ _ h => (by cases h), fun _ _ _ h => (by cases h), fun _ _ _ _ _ h => (by cases h), q1.ilt⟩, ⟨q2.os, q2.tape, q2.output, q2.size, q2.prlt, q2.keep, q2.sub, q2.bak, fun _ _ _ h => (by cases h)⟩, fun _ _ => ⟨rfl, rfl⟩⟩, Γ1, q4, rfl, q5, q6⟩
  unfold shr at hs
  split at hs
  · rename_i d o d' hn hr
    split at hs
    · rename_i hd
      obtain rfl := Nat.eq_of_beq_eq_true hd
      split at hs
      · rename_i c hz
        cases hs
        obtain ⟨Γ2, hp, Γ1, hf, e1, e2, e3⟩ := key _ o _ hn hz
        rw [hr] at h6
        obtain ⟨rfl, _⟩ := (show v = Γ'.η _ ∧ _ from h6)
        refine ⟨rfl, h1, h2, rfl, _, w', Γ2, h4, hp, ?_⟩
        show MS Γ2.I w' c _
        rw [← e1, ← e3]; exact hf
      · cases hs
    · cases hs
  · rename_i d o d' hn hr
    split at hs
    · rename_i hd
      obtain rfl := Nat.eq_of_beq_eq_true hd
      split at hs
      · rename_i l hz
        cases hs
        obtain ⟨Γ2, hp, Γ1, hf, e1, e2, e3⟩ := key _ o _ hn hz
        rw [hr] at h6
        obtain rfl : v = .pointer (some ⟨Γ'.ρ _, 0, none⟩) := h6
        refine ⟨rfl, h1, h2, rfl, _, w', Γ2, h4, hp, ?_⟩
        have := hf 0
        rw [List.drop_zero, e1, e2] at this
        exact this
      · cases hs
    · cases hs
  · cases hs

/-- The operations with an effect (but a store): what is made is owned, or, if so told, shared at once. -/
def evE (P : Program) (obj : Nat → Option AObj) (val : Operand → AV) (o : Oper) (ce : Option CE) : Option Eff :=
  match ce with
  | some (.shr oo) => (evE0 P obj val o (oo.map .obj)).bind shr
  | ce => evE0 P obj val o ce

theorem evE_ok {P : Program} {Γ : Ctx} {obj w} {val : Operand → AV} {ρ : Operand → Value} {o : Oper} {ce f} (hh : HeapOk Γ obj w) (h : evE P obj val o ce = some f) (hv : ∀ x ∈ o.op.operands.toList, MV Γ obj w (val x) (ρ x)) (hc : allP f.conds) :
    ∃ run, EffOk P Γ obj w f run ∧ (execOp ρ o).run P w = run.andThen fun v w' => Result.ok (.value v) w' := by
  unfold evE at h
  split at h
  · rename_i oo
    simp only [Option.bind_eq_some_iff] at h
    obtain ⟨f0, h1, h2⟩ := h
    have hcc : f.conds = f0.conds := by
      unfold shr at h2
      repeat' split at h2
      all_goals first | (cases h2; rfl) | cases h2
    obtain ⟨run, q1, q2⟩ := evE0_ok hh h1 hv (by rw [← hcc]; exact hc)
    exact ⟨run, (shr_ok q1 h2).2, q2⟩
  · exact evE0_ok hh h hv hc

/-- A call, by its contract. -/
def evCall (P : Program) (obj : Nat → Option AObj) (val : Operand → AV) (c : Call) (ce : Option CE) : Option Eff :=
  match c.callee, ce with
  | .value fo, some (.call fz hin res new) =>
    match val fo, tvsOf (c.args.toList.map val) with
    | .t (.c (.fn f caps)), some args =>
      match evFreeze obj (args ++ caps.map capT) fz with
      | some (obj', args') => if plainV res then some ⟨[Spec P f args' (ofH (restr obj' hin)) res (ofH new)], res, obj', restr obj' hin, new⟩ else none
      | none => none
    | _, _ => none
  | _, _ => none

theorem evCall_ok {P : Program} {G : Gd} {Γ : Ctx} {obj w} {val : Operand → AV} {ρ : Operand → Value} {o : Oper} {c : Call} {ce f} (he : o.op = .call c) (hh : HeapOk Γ obj w) (hg : GOk G Γ obj w) (h : evCall P obj val c ce = some f) (hv : ∀ x ∈ o.op.operands.toList, MV Γ obj w (val x) (ρ x)) (hc : allP f.conds) :
    plainV f.res = true ∧ ∃ Γ1, HeapOk Γ1 f.obj w ∧ GOk G Γ1 f.obj w ∧ Ext (fun _ => False) Γ w Γ1 w ∧ (∀ id o, f.obj id = some o → obj id = some o) ∧ (∀ id o, ofH f.hin id = some o → f.obj id = some o) ∧
    ∃ fid args, (execOp ρ o).run P w = Result.ok (.enter fid args) w ∧ Calls P fid args w fun e w' => ∃ v Γ', e = .returned v ∧ Post Γ1 (ofH f.hin) w Γ' f.new w' ∧ MV Γ' (ofH f.new) w' f.res v := by
  unfold evCall at h
  split at h
  · rename_i fo fz hin res new hcal
    split at h
    · rename_i fid caps args hfo hargs
      split at h
      · rename_i obj' args' hfr
        split at h
        · rename_i hpl
          cases h
          obtain ⟨⟨fn, hfn, hbody, hname⟩, hspec⟩ := hc
          have hm := tvsOf_ok _ _ (fun y hy => hv y (by simp only [he, Op.operands, Call.operands, hcal, Array.toList_append]; exact List.mem_append_right _ hy)) hargs
          have hf := hv fo (by simp [he, Op.operands, Call.operands, hcal])
          rw [hfo] at hf
          obtain ⟨cs, hfv, hcaps⟩ := hf
          have hm2 := MTs.append hm (capsT_ok hcaps)
          obtain ⟨Γ1, h1, g1, m1, e1, r1, n1, s1⟩ := evFreeze_ok fz hfr hh hg hm2
          have hsub : ∀ id o, ofH (restr obj' hin) id = some o → obj' id = some o := fun id o h => restr_ok hin h
          refine ⟨hpl, Γ1, h1, g1, e1, s1, hsub, fid, c.args.map ρ ++ cs, ?_, ?_⟩
          · have hname' : fn.name ≠ "runtime.NumGoroutine" := by simpa using hname
            unfold execOp
            simp only [he]
            simp [resolve, hcal, hfv, Deferred.ofValue, invoke, callFunc, hfn, hname']
            intro h0
            rw [h0] at hbody
            cases hbody
          · refine (hspec Γ1 w _ (heap_sub h1 hsub) (by simpa using m1)).mono ?_
            rintro e w' ⟨v, Γ', rfl, hv', hh', hg', ha⟩
            exact ⟨v, Γ', rfl, ⟨hh', hg', ha⟩, hv'⟩
        · cases h
      · cases h
    · cases h
  · cases h

/-! ### 'pick' -/
def evPick (s : AS) (c a b : Operand) : Option (List Prop × AV) :=
  match (s.val c).strip with
  | .t (.c (.s (.bool cb))) =>
    match a, b with
    | .const (.bool true), b => match (s.val b).strip with
      | .t (.c (.s (.bool y))) => some ((s.val c).cond ++ [cb = false → allP (s.val b).cond], .t (.c (.s (.bool (cb || y)))))
      | _ => none
    | a, .const (.bool false) => match (s.val a).strip with
      | .t (.c (.s (.bool y))) => some ((s.val c).cond ++ [cb = true → allP (s.val a).cond], .t (.c (.s (.bool (cb && y)))))
      | _ => none
    | _, _ => none
  | _ => none

/-! ### One step -/
def condsOf (s : AS) (op : Op) : List Prop := op.operands.toList.flatMap fun x => (s.val x).cond

def okDst (s : AS) (o : Oper) : Bool := match o.dst with | none => true | some d => Nat.blt d s.n

/-- The state behind an effect. -/
def effSt (s : AS) (dst : Option Tmp) (f : Eff) : AS :=
  AS.set ⟨s.n, fun t => scrubV (ofH f.hin) (keysNew (ofH f.hin) f.new) (s.reg t), afterObj f.obj (ofH f.hin) (ofH f.new) (keysNew (ofH f.hin) f.new)⟩ dst f.res

/-- The names that a step makes are slots' numbers. -/
def effIds (s : AS) (f : Eff) : Bool := (keysNew (ofH f.hin) f.new).all (fun d => Nat.blt d s.n)

/-- Without a change of the owned objects: nothing is to be scrubbed. -/
def effSt' (s : AS) (dst : Option Tmp) (f : Eff) : AS :=
  match f.hin, f.new with
  | [], [] => AS.set ⟨s.n, s.reg, f.obj⟩ dst f.res
  | _, _ => effSt s dst f

/-- A guard: the condition under which the operation runs. -/
def guardP (ops : Array Oper) (s : AS) (j : Nat) (want : Bool) : Option Prop :=
  match (ops[j]?).bind (·.dst) with
  | some t => match s.reg t with
    | .t (.c (.s (.bool b))) => some (b = want)
    | .whn p (.t (.c (.s (.bool b)))) => some (p ∧ b = want)
    | _ => none
  | none => none

/-- One operation that bears no guard. 'some (conditions, the state behind it)'. -/
def ev1 (P : Program) (s : AS) (o : Oper) (ce : Option CE) : Option (List Prop × AS) :=
  if okDst s o then
    match o.op with
    | .move x | .assign x => some ([], s.set o.dst (s.val x))
    | .pick c a b => (evPick s c a b).map fun r => (r.1, s.set o.dst r.2)
    | .store T a x => match o.dst with
      | none => match evStore P s.obj T (s.val a).strip (s.val x).strip ce with
        | some f => if effIds s f then some (condsOf s o.op ++ f.conds, effSt' s none ⟨[], .any, f.obj, f.hin, f.new⟩) else none
        | none => none
      | some _ => none
    | op =>
      match evV P s.obj (fun x => (s.val x).strip) op with
      | some r => some (condsOf s op ++ r.1, s.set o.dst r.2)
      | none =>
        match evE P s.obj (fun x => (s.val x).strip) o ce with
        | some f => if effIds s f then some (condsOf s op ++ f.conds, effSt' s o.dst f) else none
        | none => match op with
          | .call c => match evCall P s.obj (fun x => (s.val x).strip) c ce with
            | some f => if effIds s f then some (condsOf s op ++ f.conds, effSt' s o.dst f) else none
            | none => none
          | _ => none
  else none

/-- One operation under a guard: it computes, or calls what owns nothing. -/
def evGv (P : Program) (s : AS) (op : Op) : Option (List Prop × AV) :=
  match op with
  | .pick c a b => evPick s c a b
  | op => match evV P s.obj (fun x => (s.val x).strip) op with
    | some r => some (condsOf s op ++ r.1, r.2)
    | none => none

def ev1g (P : Program) (ops : Array Oper) (s : AS) (o : Oper) (ce : Option CE) (j : Nat) (want : Bool) : Option (List Prop × AS) :=
  if okDst s o then
    match guardP ops s j want with
    | some p =>
      match evGv P s o.op with
      | some r => some ([p → allP r.1], s.set o.dst (.whn p r.2))
      | none => match o.op, ce with
        | .call c, some (.call [] [] res []) => match evCall P s.obj (fun x => (s.val x).strip) c (some (.call [] [] res [])) with
          | some f => some ([p → allP (condsOf s o.op ++ f.conds)], s.set o.dst (.whn p f.res))
          | none => none
        | _, some (.shr oo) => match evE P s.obj (fun x => (s.val x).strip) o (some (.shr oo)) with
          | some f => match f.hin, f.new with
            | [], [] => some ([p → allP (condsOf s o.op ++ f.conds)], s.set o.dst (.whn p f.res))
            | _, _ => none
          | none => none
        | _, _ => none
    | none => none
  else none

def evOp (P : Program) (ops : Array Oper) (s : AS) (o : Oper) (ce : Option CE) : Option (List Prop × AS) :=
  match o.guard with
  | none => ev1 P s o ce
  | some (j, want) => ev1g P ops s o ce j want

/-- What one operation must come to, whatever stands behind it. -/
def wpO (P : Program) (ops : Array Oper) (Q : Exit → Act → World → Prop) (o : Oper) (K : Act → World → Prop) (a : Act) (w : World) : Prop :=
  if Region.wanted o (yielded ops a.tmps) then o.wp P a w K Q ∨ (o.asks P a w ∧ LetsOut Q) else K (a.put o.dst undef) w

theorem conc_obj {G Γ s a w} (h : Conc G Γ s a w) {obj' : Nat → Option AObj} {Γ' : Ctx} (hh : HeapOk Γ' obj' w) (hg : GOk G Γ' obj' w) (he : Ext (fun _ => False) Γ w Γ' w) (hs : ∀ id o, obj' id = some o → s.obj id = some o) :
    Conc G Γ' ⟨s.n, s.reg, obj'⟩ a w :=
  ⟨h.size, h.defers, fun t => MV.ext he (fun id o _ ho => ⟨o, hs id o ho, rfl⟩) (fun d hd => hd.elim) (h.regs t), hh, hg, fun id hid => by
    obtain ⟨e1, e2⟩ := he.agree id (fun h => h)
    rw [e1, e2]; exact h.ids id hid⟩

theorem scrub_nil {H : Nat → Option AObj} (hH : ∀ id, H id = none) (v : AV) : scrubV H [] v = v := by
  unfold scrubV
  have : ∀ v, oelIn H v = false := by
    intro v
    induction v with
    | oel id i j => simp [oelIn, hH]
    | whn p x ih => simpa [oelIn] using ih
    | _ => rfl
  simp [this]

theorem after_nil (obj : Nat → Option AObj) : afterObj obj (ofH []) (ofH []) (keysNew (ofH []) []) = obj := by
  funext j
  unfold afterObj
  simp only [ofH, H0, keysNew]
  cases obj j <;> simp

theorem effSt_eq (s : AS) (dst : Option Tmp) (f : Eff) : effSt' s dst f = effSt s dst f := by
  unfold effSt'
  split
  · rename_i h1 h2
    unfold effSt
    rw [h1, h2, after_nil]
    congr 2
    funext t
    exact (scrub_nil (fun _ => rfl) _).symm
  · rfl

/-- Behind an effect. -/
theorem eff_conc {G Γ s a w dst f Γ' w' v} (h : Conc G Γ ⟨s.n, s.reg, f.obj⟩ a w) (hsub : ∀ id o, ofH f.hin id = some o → f.obj id = some o) (hp : Post Γ (ofH f.hin) w Γ' f.new w')
    (hpl : dst = none ∨ plainV f.res = true) (hv : dst = none ∨ MV Γ' (ofH f.new) w' f.res v) (hd : ∀ d, dst = some d → d < s.n) (hids : effIds s f = true) : Conc G Γ' (effSt s dst f) (a.put dst v) w' := by
  have h1 := call_ok h.size h.defers h.regs h.heap h.g hsub hp.heap hp.g hp.agree h.ids hids
  cases dst with
  | none => exact h1
  | some d =>
    refine conc_set h1 hd ?_
    have hpl := hpl.resolve_left (by simp)
    have hv := hv.resolve_left (by simp)
    exact plain_obj hpl hv

theorem okDst_ok {s : AS} {o : Oper} (h : okDst s o = true) : ∀ d, o.dst = some d → d < s.n := by
  intro d hd
  unfold okDst at h
  rw [hd] at h
  exact Nat.lt_of_lt_of_le (Nat.lt_succ_self d) (Nat.le_of_ble_eq_true h)

theorem cond_operand {s : AS} {op : Op} (hc : allP (condsOf s op)) {x : Operand} (hx : x ∈ op.operands.toList) : allP (s.val x).cond := by
  unfold condsOf at hc
  generalize op.operands.toList = l at hc hx
  induction l with
  | nil => cases hx
  | cons y l ih =>
    rw [List.flatMap_cons, allP_append] at hc
    rcases List.mem_cons.1 hx with rfl | hx
    · exact hc.1
    · exact ih hc.2 hx
end AL
