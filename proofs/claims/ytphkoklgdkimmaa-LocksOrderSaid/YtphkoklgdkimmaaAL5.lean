/- An abstract logic, 5: indexing, slicing, fields, lengths, conversions. No condition. -/
import Derived.Test.YtphkoklgdkimmaaAL4
namespace AL
open Go
set_option linter.unusedVariables false

theorem run_asIntOf {P : Program} {k n w} : (asIntOf (.int k n)).run P w = Result.ok (k, n) w := rfl

/-- 'indexAddr'. -/
def evIndexAddr (P : Program) (obj : Nat → Option AObj) (T : TypeId) (v ix : AV) : Option (List Prop × AV) :=
  match ix with
  | .t (.c (.s (.int _ n))) =>
    match P.underlying T with
    | some (.slice e) =>
      match v with
      | .t (.c (.s (.sl k α d row l))) => if P.cellsOf e = k ∧ P.info? e ≠ none then some ([0 ≤ n, n < l.length], .ro k (row (l.getD n.toNat d))) else none
      | .t (.c (.own id)) =>
        match obj id with
        | some (.grow _ k α d row l) => if P.cellsOf e = k ∧ P.info? e ≠ none then some ([0 ≤ n, n < l.length], .oel id n.toNat 0) else none
        | _ => none
      | _ => none
    | some (.array N e) =>
      match v with
      | .t (.c (.ptr id off)) =>
        match obj id with
        | some (.row _) => if P.info? e ≠ none then some ([0 ≤ n, n < N], .t (.c (.ptr id (off + n.toNat * P.cellsOf e)))) else none
        | some (.arr k m α d row l) => if P.cellsOf e = k ∧ P.info? e ≠ none ∧ off = 0 then some ([0 ≤ n, n < N], .oel id n.toNat 0) else none
        | _ => none
      | .ro m f => if P.info? e ≠ none then some ([0 ≤ n, n < N], .ro (m - n.toNat * P.cellsOf e) (fun i => f (n.toNat * P.cellsOf e + i))) else none
      | _ => none
    | _ => none
  | _ => none

theorem info_some {P : Program} {e : TypeId} (h : P.info? e ≠ none) : ∃ i, P.info? e = some i ∧ P.cellsOf e = i.size := by
  cases hi : P.info? e with
  | none => exact absurd hi h
  | some i => exact ⟨i, rfl, by simp [Program.cellsOf, hi]⟩

theorem indexAddr_ok {P : Program} {Γ obj w T av iv a i cs r} (h : evIndexAddr P obj T av iv = some (cs, r)) (hv : MV Γ obj w av a) (hx : MV Γ obj w iv i)
    (hh : HeapOk Γ obj w) (hc : allP cs) : ∃ v, (Instr.indexAt T a i).run P w = .ok v w ∧ MV Γ obj w r v := by
  unfold evIndexAddr at h
  split at h
  · rename_i kk n
    obtain ⟨rfl, hn⟩ := hx
    split at h
    · rename_i e hu
      split at h
      · rename_i k α d row l
        split at h
        · rename_i he
          obtain ⟨hk, he⟩ := he
          obtain ⟨inf, hi, hsz⟩ := info_some he
          simp only [Option.some.injEq, Prod.mk.injEq] at h
          obtain ⟨rfl, rfl⟩ := h
          obtain ⟨h0, h1⟩ := hc
          have h1 : n < l.length := h1
          obtain ⟨ad, cap, rfl, _, _, hl⟩ := hv
          have hne : l ≠ [] := by intro e; subst e; simp at h1; omega
          rcases hl with ⟨hl, _⟩ | ⟨b, off, rfl, hb, hl⟩
          · exact absurd hl hne
          refine ⟨.pointer (some ((⟨b, off, none⟩ : Addr).add (n.toNat * k))), ?_, b, off + n.toNat * k, by rw [add_mk], hb, fun j hj => ?_⟩
          · simp [Instr.indexAt, run_asIntOf, run_underlying hu, h0, h1, run_sizeOf' hi, ← hsz, hk]
          · have hlt : n.toNat < l.length := by omega
            exact hl n.toNat _ (by simp [List.getD, List.getElem?_eq_getElem hlt]) j hj
        · cases h
      · rename_i id
        split at h
        · rename_i T' k α d row l hob
          split at h
          · rename_i he
            obtain ⟨hk, he⟩ := he
            obtain ⟨inf, hi, hsz⟩ := info_some he
            simp only [Option.some.injEq, Prod.mk.injEq] at h
            obtain ⟨rfl, rfl⟩ := h
            obtain ⟨h0, h1⟩ := hc
            have h1 : n < l.length := h1
            obtain ⟨rfl, _⟩ := hv
            rcases hh.objs id _ hob with ⟨_, rfl⟩ | ⟨cap, cur, hη, hb, _, _, _, hm⟩
            · simp at h1; omega
            refine ⟨.pointer (some ((⟨Γ.ρ id, 0, none⟩ : Addr).add (n.toNat * k))), ?_, k, by rw [add_mk]; simp, fun o ho => by rw [hob] at ho; cases ho; rfl⟩
            rw [hη]
            simp [Instr.indexAt, run_asIntOf, run_underlying hu, h0, h1, run_sizeOf' hi, ← hsz, hk]
          · cases h
        · cases h
      · cases h
    · rename_i N e hu
      split at h
      · rename_i id off
        obtain rfl : a = .pointer (some ⟨Γ.ρ id, off, none⟩) := hv
        split at h
        · rename_i cells hob
          split at h
          · rename_i he
            obtain ⟨inf, hi, hsz⟩ := info_some he
            simp only [Option.some.injEq, Prod.mk.injEq] at h
            obtain ⟨rfl, rfl⟩ := h
            obtain ⟨h0, h1⟩ := hc
            have h1 : n < (N : Int) := h1
            refine ⟨.pointer (some ((⟨Γ.ρ id, off, none⟩ : Addr).add (n.toNat * P.cellsOf e))), ?_, by rw [add_mk]; rfl⟩
            simp [Instr.indexAt, run_asIntOf, run_underlying hu, h0, h1, run_sizeOf' hi, ← hsz, Instr.sureAddr]
          · cases h
        · rename_i k m α d row l hob
          split at h
          · rename_i he
            obtain ⟨hk, he, rfl⟩ := he
            obtain ⟨inf, hi, hsz⟩ := info_some he
            simp only [Option.some.injEq, Prod.mk.injEq] at h
            obtain ⟨rfl, rfl⟩ := h
            obtain ⟨h0, h1⟩ := hc
            have h1 : n < (N : Int) := h1
            refine ⟨.pointer (some ((⟨Γ.ρ id, 0, none⟩ : Addr).add (n.toNat * k))), ?_, k, by rw [add_mk]; simp, fun o ho => by rw [hob] at ho; cases ho; rfl⟩
            simp [Instr.indexAt, run_asIntOf, run_underlying hu, h0, h1, run_sizeOf' hi, ← hsz, hk, Instr.sureAddr]
          · cases h
        · cases h
      · rename_i m f
        obtain ⟨b, off, rfl, hb, hf⟩ := hv
        split at h
        · rename_i he
          obtain ⟨inf, hi, hsz⟩ := info_some he
          simp only [Option.some.injEq, Prod.mk.injEq] at h
          obtain ⟨rfl, rfl⟩ := h
          obtain ⟨h0, h1⟩ := hc
          have h1 : n < (N : Int) := h1
          refine ⟨.pointer (some ((⟨b, off, none⟩ : Addr).add (n.toNat * P.cellsOf e))), ?_, b, off + n.toNat * P.cellsOf e, by rw [add_mk], hb, fun j hj => ?_⟩
          · simp [Instr.indexAt, run_asIntOf, run_underlying hu, h0, h1, run_sizeOf' hi, ← hsz, Instr.sureAddr]
          · rw [Nat.add_assoc]; exact hf _ (by omega)
        · cases h
      · cases h
    · cases h
  · cases h

/-- 'index'. -/
def evIndex (P : Program) (T : TypeId) (v ix : AV) : Option (List Prop × AV) :=
  match ix with
  | .t (.c (.s (.int _ n))) =>
    match P.underlying T, v with
    | some .string, .t (.c (.s (.str s))) => some ([0 ≤ n, n < s.length], .t (.c (.s (.int .u8 (s.getD n.toNat 0).toNat))))
    | some (.array N e), .t (.arr k m α d row l) =>
      if P.cellsOf e = k ∧ N = m ∧ P.info? e ≠ none then
        match P.underlying e with
        | some de => (gather de (ofS k (row (l.getD n.toNat d)))).map fun r => ([0 ≤ n, n < N], .t r)
        | none => none
      else none
    | some (.array N e), .t (.agg l) =>
      if P.info? e ≠ none then
        match P.underlying e with
        | some de => if n.toNat * P.cellsOf e + P.cellsOf e ≤ l.length then (gather de ((l.drop (n.toNat * P.cellsOf e)).take (P.cellsOf e))).map fun r => ([0 ≤ n, n < N], .t r) else none
        | none => none
      else none
    | _, _ => none
  | _ => none

theorem run_part {P : Program} {Γ : Ctx} {w w0 : World} {T d i o r} {cs : List AC} {vs : List Value} {cur : Array Value} (hu : P.underlying T = some d) (hi : P.info? T = some i) (hl : cs.length = i.size)
    (hm : MCs Γ w0 cs vs) (hv : ∀ j v, vs[j]? = some v → cur[o + j]? = some v) (hg : gather d cs = some r) :
    ∃ v, (part T cur o).run P w = .ok v w ∧ MT Γ w0 r v := by
  unfold gather at hg
  have hlen := hm.length
  split at hg
  · rename_i ha
    cases hg
    refine ⟨.agg vs.toArray, ?_, _, rfl, by simpa using hm⟩
    simp [part, run_isAgg hu, ha, run_sizeOf' hi]
    apply Array.ext_getElem?
    intro j
    by_cases hj : j < i.size
    · have hjv : j < vs.length := by omega
      rw [Array.getElem?_extract]
      have := hv j vs[j] (List.getElem?_eq_getElem hjv)
      have hcs : o + j < cur.size := (Array.getElem?_eq_some_iff.1 this).1
      rw [if_pos (by omega), this]
      simp [hjv]
    · rw [Array.getElem?_extract, if_neg (by omega)]
      simp; omega
  · rename_i ha
    split at hg
    · rename_i c
      cases hg
      obtain ⟨v, hv1, hv2⟩ := hm.get (i := 0) rfl
      refine ⟨v, ?_, hv2⟩
      have := hv 0 v hv1
      simp [part, run_isAgg hu, ha, this] at this ⊢
    · cases hg

theorem index_ok {P : Program} {Γ obj w T av iv a i cs r} (h : evIndex P T av iv = some (cs, r)) (hv : MV Γ obj w av a) (hx : MV Γ obj w iv i)
    (hc : allP cs) : ∃ v, (Instr.index T a i).run P w = .ok v w ∧ MV Γ obj w r v := by
  unfold evIndex at h
  split at h
  · rename_i kk n
    obtain ⟨rfl, hn⟩ := hx
    split at h
    · rename_i s hu
      simp only [Option.some.injEq, Prod.mk.injEq] at h
      obtain ⟨rfl, rfl⟩ := h
      obtain ⟨h0, h1⟩ := hc
      have h1 : n < s.length := h1
      obtain ⟨rfl, _⟩ := hv
      have hlt : n.toNat < s.length := by omega
      have hget : (ba s)[n.toNat]? = some (s.getD n.toNat 0) := by
        have h2 : n.toNat < (ba s).size := by rw [size_ba]; exact hlt
        rw [getElem?_pos (ba s) n.toNat h2]
        simp [ba, List.getD, List.getElem?_eq_getElem hlt, ByteArray.getElem_eq_getElem_data]
      refine ⟨.int .u8 (s.getD n.toNat 0).toNat, ?_, rfl, ?_⟩
      · simp [Instr.index, run_asIntOf, run_underlying hu, h0, hget]
      · have := UInt8.toNat_lt (s.getD n.toNat 0)
        generalize (s.getD n.toNat 0).toNat = q at *
        simp [InR, IntKind.min, IntKind.max, IntKind.signed, IntKind.bits]; omega
    · rename_i N e k m α d row l hu
      split at h
      · rename_i he
        obtain ⟨hk, rfl, he⟩ := he
        obtain ⟨inf, hi, hsz⟩ := info_some he
        split at h
        · rename_i de hde
          simp only [Option.map_eq_some_iff, Prod.mk.injEq] at h
          obtain ⟨x, hg, rfl, rfl⟩ := h
          obtain ⟨h0, h1⟩ := hc
          have h1 : n < (N : Int) := h1
          obtain ⟨cur, rfl, hl, hcs, hm⟩ := hv
          have hlt : n.toNat < l.length := by omega
          obtain ⟨vs, g1, g2⟩ := pick_cells (Γ := Γ) (w := w) k (row (l.getD n.toNat d)) (fun x => cur[n.toNat * k + x]?) (fun x hx => hm n.toNat _ (by simp [List.getD, List.getElem?_eq_getElem hlt]) x hx)
          obtain ⟨v, hr, hmv⟩ := run_part (w := w) (o := n.toNat * k) hde hi (by rw [length_ofS, ← hsz, hk]) g1 g2 hg
          refine ⟨v, ?_, hmv⟩
          simp [Instr.index, run_asIntOf, run_underlying hu, h0, h1, run_sizeOf' hi, ← hsz, hk, hr]
        · cases h
      · cases h
    · rename_i N e l hu
      split at h
      · rename_i he
        obtain ⟨inf, hi, hsz⟩ := info_some he
        split at h
        · rename_i de hde
          split at h
          · rename_i hle
            simp only [Option.map_eq_some_iff, Prod.mk.injEq] at h
            obtain ⟨x, hg, rfl, rfl⟩ := h
            obtain ⟨h0, h1⟩ := hc
            have h1 : n < (N : Int) := h1
            obtain ⟨cur, rfl, hm⟩ := hv
            obtain ⟨v, hr, hmv⟩ := run_part (P := P) (w := w) (cur := cur) (o := n.toNat * P.cellsOf e) hde hi (by simp; omega) ((hm.drop (n.toNat * P.cellsOf e)).take (P.cellsOf e)) (fun j v hj => by
              by_cases hjs : j < P.cellsOf e
              · rw [List.getElem?_take_of_lt hjs, List.getElem?_drop, Array.getElem?_toList] at hj; exact hj
              · rw [List.getElem?_take, if_neg hjs] at hj; cases hj) hg
            refine ⟨v, ?_, hmv⟩
            simp [Instr.index, run_asIntOf, run_underlying hu, h0, h1, run_sizeOf' hi, ← hsz, hr]
          · cases h
        · cases h
      · cases h
    · cases h
  · cases h

/-- 'field'. -/
def evField (P : Program) (T : TypeId) (f : Nat) (v : AV) : Option (List Prop × AV) :=
  match P.underlying T, v with
  | some (.struct fs), .t (.agg l) =>
    match fs[f]? with
    | some fd =>
      match P.underlying fd.type, P.info? fd.type with
      | some d, some i => if fd.offset + i.size ≤ l.length then (gather d ((l.drop fd.offset).take i.size)).map fun r => ([], .t r) else none
      | _, _ => none
    | none => none
  | _, _ => none

theorem field_ok {P : Program} {Γ obj w T f av a cs r} (h : evField P T f av = some (cs, r)) (hv : MV Γ obj w av a) :
    ∃ v, (Instr.field T a f).run P w = .ok v w ∧ MV Γ obj w r v := by
  unfold evField at h
  split at h
  · rename_i fs l hu
    split at h
    · rename_i fd hf
      split at h
      · rename_i d i hud hi
        split at h
        · rename_i hle
          simp only [Option.map_eq_some_iff, Prod.mk.injEq] at h
          obtain ⟨x, hg, rfl, rfl⟩ := h
          obtain ⟨cur, rfl, hm⟩ := hv
          obtain ⟨v, hr, hmv⟩ := run_part (P := P) (w := w) (cur := cur) (o := fd.offset) hud hi (by simp; omega) ((hm.drop fd.offset).take i.size) (fun j v hj => by
              by_cases hjs : j < i.size
              · rw [List.getElem?_take_of_lt hjs, List.getElem?_drop, Array.getElem?_toList] at hj; exact hj
              · rw [List.getElem?_take, if_neg hjs] at hj; cases hj) hg
          refine ⟨v, ?_, hmv⟩
          simp [Instr.field, run_underlying hu, hf, asAgg, hr]
        · cases h
      · cases h
    · cases h
  · cases h
end AL
