/- An abstract logic, 4: loads, parts, places. No condition. -/
import Derived.Test.YtphkoklgdkimmaaAL3
namespace AL
open Go
set_option linter.unusedVariables false

theorem MCs.length {Γ w} : ∀ {l : List AC} {vs : List Value}, MCs Γ w l vs → vs.length = l.length
  | [], [], _ => rfl
  | _ :: l, _ :: vs, h => by simp [MCs.length h.2]
  | [], _ :: _, h => h.elim
  | _ :: _, [], h => h.elim

theorem MCs.get {Γ w} : ∀ {l : List AC} {vs : List Value}, MCs Γ w l vs → ∀ {i : Nat} {c}, l[i]? = some c → ∃ v, vs[i]? = some v ∧ MC Γ w c v
  | [], [], _, i, c, hc => by simp at hc
  | a :: l, v :: vs, h, 0, c, hc => by simp at hc; subst hc; exact ⟨v, rfl, h.1⟩
  | a :: l, v :: vs, h, i + 1, c, hc => by simp at hc; obtain ⟨u, hu, hm⟩ := MCs.get h.2 hc; exact ⟨u, by simpa using hu, hm⟩
  | [], _ :: _, h, _, _, _ => h.elim
  | _ :: _, [], h, _, _, _ => h.elim

theorem MCs.mk {Γ w} : ∀ {l : List AC} {vs : List Value}, vs.length = l.length → (∀ (i : Nat) c v, l[i]? = some c → vs[i]? = some v → MC Γ w c v) → MCs Γ w l vs
  | [], [], _, _ => trivial
  | c :: l, v :: vs, h, hh => ⟨hh 0 c v rfl rfl, MCs.mk (by simpa using h) fun i c v h1 h2 => hh (i + 1) c v (by simpa using h1) (by simpa using h2)⟩
  | [], _ :: _, h, _ => by simp at h
  | _ :: _, [], h, _ => by simp at h

theorem MCs.drop {Γ w} {l : List AC} {vs : List Value} (h : MCs Γ w l vs) (n : Nat) : MCs Γ w (l.drop n) (vs.drop n) := by
  refine MCs.mk (by simp [h.length]) fun i c v h1 h2 => ?_
  rw [List.getElem?_drop] at h1 h2
  obtain ⟨u, hu, hm⟩ := h.get h1
  rw [h2] at hu; cases hu; exact hm

theorem MCs.take {Γ w} {l : List AC} {vs : List Value} (h : MCs Γ w l vs) (n : Nat) : MCs Γ w (l.take n) (vs.take n) := by
  refine MCs.mk (by simp [h.length]) fun i c v h1 h2 => ?_
  by_cases hi : i < n
  · rw [List.getElem?_take_of_lt hi] at h1 h2
    obtain ⟨u, hu, hm⟩ := h.get h1
    rw [h2] at hu; cases hu; exact hm
  · rw [List.getElem?_take, if_neg hi] at h1; cases h1

theorem MCs.append {Γ w} {l m : List AC} {vs us : List Value} (h : MCs Γ w l vs) (h' : MCs Γ w m us) : MCs Γ w (l ++ m) (vs ++ us) := by
  refine MCs.mk (by simp [h.length, h'.length]) fun i c v h1 h2 => ?_
  by_cases hi : i < l.length
  · rw [List.getElem?_append_left hi] at h1
    rw [List.getElem?_append_left (by rw [h.length]; exact hi)] at h2
    obtain ⟨u, hu, hm⟩ := h.get h1
    rw [h2] at hu; cases hu; exact hm
  · rw [List.getElem?_append_right (by omega)] at h1
    rw [List.getElem?_append_right (by rw [h.length]; omega), h.length] at h2
    obtain ⟨u, hu, hm⟩ := h'.get h1
    rw [h2] at hu; cases hu; exact hm

theorem MCs.one {Γ w} {l : List AC} {vs : List Value} (h : MCs Γ w l vs) : ∀ v ∈ vs, v.oneCell' = true := by
  intro v hv
  obtain ⟨i, hi⟩ := List.getElem?_of_mem hv
  have hl : i < l.length := by rw [← h.length]; exact (List.getElem?_eq_some_iff.1 hi).1
  obtain ⟨u, hu, hm⟩ := h.get (List.getElem?_eq_getElem hl)
  rw [hi] at hu; cases hu; exact hm.one

def aggD : TypeDesc → Bool
  | .struct _ | .array _ _ => true
  | _ => false

theorem run_isAgg {P : Program} {T d w} (h : P.underlying T = some d) : (isAgg T).run P w = .ok (aggD d) w := by
  cases d <;> simp [isAgg, run_underlying h, aggD]

theorem run_sizeOf' {P : Program} {T i w} (h : P.info? T = some i) : (Go.sizeOf T).run P w = Result.ok i.size w := by
  simp [Go.sizeOf, typeInfo, h]

theorem add_mk (b o n : Nat) : (⟨b, o, none⟩ : Addr).add n = ⟨b, o + n, none⟩ := by
  unfold Addr.add; split <;> simp_all

/-- The value that is read where n cells stand. -/
def gather (d : TypeDesc) (cs : List AC) : Option TV := if aggD d then some (.agg cs) else match cs with | [c] => some (.c c) | _ => none

theorem run_load_cells {P : Program} {Γ : Ctx} {w w0 : World} {T d i b o r} {cs : List AC} {vs : List Value} (hu : P.underlying T = some d) (hi : P.info? T = some i) (hl : cs.length = i.size)
    (hm : MCs Γ w0 cs vs) (hv : ∀ j v, vs[j]? = some v → w.cell? ⟨b, o + j, none⟩ = some v) (hg : gather d cs = some r) :
    ∃ v, (loadVar T ⟨b, o, none⟩).run P w = .ok v w ∧ MT Γ w0 r v := by
  unfold gather at hg
  have hlen := hm.length
  split at hg
  · rename_i ha
    cases hg
    have h1 := run_loadCells_list (P := P) w ⟨b, o, none⟩ vs (fun j v h => by rw [add_mk]; exact hv j v h)
    rw [hlen, hl] at h1
    exact ⟨.agg vs.toArray, by simp [loadVar, run_isAgg hu, ha, run_sizeOf' hi, h1], _, rfl, by simpa using hm⟩
  · rename_i ha
    split at hg
    · rename_i c
      cases hg
      obtain ⟨v, hv1, hv2⟩ := hm.get (i := 0) rfl
      refine ⟨v, ?_, hv2⟩
      have := hv 0 v hv1
      simp [loadVar, run_isAgg hu, ha, load, Sem.run, this] at this ⊢
    · cases hg

theorem cell_of_heap {w : World} {b T fr} {cur : Array Value} (h : w.heap[b]? = some (.cells cur T fr)) (o : Nat) : w.cell? ⟨b, o, none⟩ = cur[o]? := by
  simp [World.cell?, h]

/-- A list of shared cells as cells. -/
def ofS (k : Nat) (f : Nat → SC) : List AC := (List.range k).map fun i => .s (f i)

theorem length_ofS (k f) : (ofS k f).length = k := by simp [ofS]
theorem get_ofS {k f i c} (h : (ofS k f)[i]? = some c) : i < k ∧ c = .s (f i) := by
  simp only [ofS, List.getElem?_map, Option.map_eq_some_iff] at h
  obtain ⟨a, ha, rfl⟩ := h
  rw [List.getElem?_eq_some_iff] at ha
  obtain ⟨h1, h2⟩ := ha
  simp at h1 h2
  subst h2
  exact ⟨h1, rfl⟩

/-- Values of k shared cells that stand somewhere. -/
theorem pick_cells {Γ : Ctx} {w : World} (k : Nat) (f : Nat → SC) (q : Nat → Option Value) (h : ∀ i, i < k → ∃ u, q i = some u ∧ MS Γ.I w (f i) u) :
    ∃ vs : List Value, MCs Γ w (ofS k f) vs ∧ ∀ j v, vs[j]? = some v → q j = some v := by
  induction k with
  | zero => exact ⟨[], trivial, by simp⟩
  | succ k ih =>
    obtain ⟨vs, h1, h2⟩ := ih fun i hi => h i (by omega)
    obtain ⟨u, hu, hm⟩ := h k (by omega)
    have hl := h1.length
    rw [length_ofS] at hl
    refine ⟨vs ++ [u], ?_, fun j v hj => ?_⟩
    · have : ofS (k + 1) f = ofS k f ++ [.s (f k)] := by simp [ofS, List.range_succ]
      rw [this]
      exact h1.append ⟨hm, trivial⟩
    · by_cases hjk : j < vs.length
      · rw [List.getElem?_append_left hjk] at hj; exact h2 j v hj
      · rw [List.getElem?_append_right (by omega)] at hj
        have : j - vs.length = 0 := by
          rcases Nat.eq_zero_or_pos (j - vs.length) with h0 | h0
          · exact h0
          · rw [List.getElem?_eq_none (by simp; omega)] at hj; cases hj
        rw [this] at hj
        have : j = k := by omega
        subst this
        simp at hj; subst hj; exact hu

/-- 'load'. -/
def evLoad (P : Program) (obj : Nat → Option AObj) (T : TypeId) (v : AV) : Option (List Prop × AV) :=
  match P.underlying T, P.info? T with
  | some d, some i =>
    match v with
    | .t (.c (.ptr id off)) =>
      match obj id with
      | some (.row cells) => if off + i.size ≤ cells.length then (gather d ((cells.drop off).take i.size)).map fun r => ([], .t r) else none
      | some (.arr k n α dd row l) => if off = 0 ∧ i.size = n * k ∧ aggD d = true then some ([], .t (.arr k n α dd row l)) else none
      | _ => none
    | .ro n f => if i.size ≤ n then (gather d (ofS i.size f)).map fun r => ([], .t r) else none
    | .oel id j o =>
      match obj id with
      | some (.grow _ k α dd row l) => if o + i.size ≤ k then (gather d (ofS i.size fun x => row (l.getD j dd) (o + x))).map fun r => ([j < l.length], .t r) else none
      | some (.arr k n α dd row l) => if o + i.size ≤ k then (gather d (ofS i.size fun x => row (l.getD j dd) (o + x))).map fun r => ([j < l.length], .t r) else none
      | _ => none
    | _ => none
  | _, _ => none

theorem load_ok {P : Program} {Γ obj w T av a cs r} (h : evLoad P obj T av = some (cs, r)) (hv : MV Γ obj w av a) (hh : HeapOk Γ obj w) (hc : allP cs) :
    ∃ v, (Instr.loadAt T a).run P w = .ok v w ∧ MV Γ obj w r v := by
  unfold evLoad at h
  cases hu : P.underlying T with
  | none => simp [hu] at h
  | some d =>
  cases hi : P.info? T with
  | none => simp [hu, hi] at h
  | some i =>
  simp only [hu, hi] at h
  split at h
  · rename_i id off
    obtain rfl : a = .pointer (some ⟨Γ.ρ id, off, none⟩) := hv
    simp only [Instr.loadAt, Instr.sureAddr, pure_bind]
    split at h
    · rename_i cells hob
      split at h
      · rename_i hle
        simp only [Option.map_eq_some_iff, Prod.mk.injEq] at h
        obtain ⟨x, hg, rfl, rfl⟩ := h
        obtain ⟨cur, T', hb, hm⟩ := hh.objs id _ hob
        refine run_load_cells (cs := (cells.drop off).take i.size) (vs := (cur.toList.drop off).take i.size) hu hi (by simp; omega) ((hm.drop _).take _) (fun j v hj => ?_) hg
        rw [cell_of_heap hb]
        by_cases hjs : j < i.size
        · rw [List.getElem?_take_of_lt hjs, List.getElem?_drop, Array.getElem?_toList] at hj; exact hj
        · rw [List.getElem?_take, if_neg hjs] at hj; cases hj
      · cases h
    · rename_i k n α dd row l hob
      split at h
      · rename_i hle
        obtain ⟨rfl, hsz, ha⟩ := hle
        simp only [Option.some.injEq, Prod.mk.injEq] at h
        obtain ⟨rfl, rfl⟩ := h
        obtain ⟨cur, T', hb, hn, hcs, hm⟩ := hh.objs id _ hob
        have h1 := run_loadCells_list (P := P) w ⟨Γ.ρ id, 0, none⟩ cur.toList (fun j v hj => by rw [add_mk, cell_of_heap hb]; simpa using hj)
        rw [Array.length_toList, hcs, ← hsz] at h1
        exact ⟨.agg cur, by simp [loadVar, run_isAgg hu, ha, run_sizeOf' hi, h1], cur, rfl, hn, hcs, hm⟩
      · cases h
    · cases h
  · rename_i n f
    obtain ⟨b, off, rfl, hb, hf⟩ := hv
    simp only [Instr.loadAt, Instr.sureAddr, pure_bind]
    split at h
    · rename_i hle
      simp only [Option.map_eq_some_iff, Prod.mk.injEq] at h
      obtain ⟨x, hg, rfl, rfl⟩ := h
      obtain ⟨vs, h1, h2⟩ := pick_cells (Γ := Γ) (w := w) i.size f (fun j => w.cell? ⟨b, off + j, none⟩) (fun j hj => hf j (by omega))
      exact run_load_cells hu hi (length_ofS _ _) h1 h2 hg
    · cases h
  · rename_i id j o
    obtain ⟨k', rfl, hk⟩ := hv
    simp only [Instr.loadAt, Instr.sureAddr, pure_bind]
    split at h
    · rename_i T' k α dd row l hob
      obtain rfl : k = k' := hk _ hob
      split at h
      · rename_i hle
        simp only [Option.map_eq_some_iff, Prod.mk.injEq] at h
        obtain ⟨x, hg, rfl, rfl⟩ := h
        have hj : j < l.length := hc
        rcases hh.objs id _ hob with ⟨_, rfl⟩ | ⟨cap, cur, _, hb, _, _, _, hm⟩
        · simp at hj
        obtain ⟨vs, h1, h2⟩ := pick_cells (Γ := Γ) (w := w) i.size (fun x => row (l.getD j dd) (o + x)) (fun x => w.cell? ⟨Γ.ρ id, j * k + o + x, none⟩) (fun x hx => by
          obtain ⟨u, hu, hm'⟩ := hm j (l.getD j dd) (by simp [List.getD, List.getElem?_eq_getElem hj]) (o + x) (by omega)
          exact ⟨u, by rw [cell_of_heap hb, Nat.add_assoc]; exact hu, hm'⟩)
        exact run_load_cells hu hi (length_ofS _ _) h1 h2 hg
      · cases h
    · rename_i k n α dd row l hob
      obtain rfl : k = k' := hk _ hob
      split at h
      · rename_i hle
        simp only [Option.map_eq_some_iff, Prod.mk.injEq] at h
        obtain ⟨x, hg, rfl, rfl⟩ := h
        have hj : j < l.length := hc
        obtain ⟨cur, T', hb, _, _, hm⟩ := hh.objs id _ hob
        obtain ⟨vs, h1, h2⟩ := pick_cells (Γ := Γ) (w := w) i.size (fun x => row (l.getD j dd) (o + x)) (fun x => w.cell? ⟨Γ.ρ id, j * k + o + x, none⟩) (fun x hx => by
          obtain ⟨u, hu, hm'⟩ := hm j (l.getD j dd) (by simp [List.getD, List.getElem?_eq_getElem hj]) (o + x) (by omega)
          exact ⟨u, by rw [cell_of_heap hb, Nat.add_assoc]; exact hu, hm'⟩)
        exact run_load_cells hu hi (length_ofS _ _) h1 h2 hg
      · cases h
    · cases h
  · cases h

/-- 'fieldAddr'. -/
def evFieldAddr (P : Program) (T : TypeId) (f : Nat) (v : AV) : Option (List Prop × AV) :=
  match P.underlying T with
  | some (.struct fs) =>
    match fs[f]? with
    | some fd =>
      if (P.info? fd.type).map (fun i => decide (i.size = 0)) = some false then
        match v with
        | .t (.c (.ptr id off)) => some ([], .t (.c (.ptr id (off + fd.offset))))
        | .ro n g => some ([], .ro (n - fd.offset) (fun i => g (fd.offset + i)))
        | .oel id j o => some ([], .oel id j (o + fd.offset))
        | _ => none
      else none
    | _ => none
  | _ => none

theorem fieldAddr_ok {P : Program} {Γ obj w T f av a cs r} (h : evFieldAddr P T f av = some (cs, r)) (hv : MV Γ obj w av a) :
    ∃ v, (Instr.fieldAt T a f).run P w = .ok v w ∧ MV Γ obj w r v := by
  unfold evFieldAddr at h
  split at h
  · rename_i fs hu
    split at h
    · rename_i fd hf
      split at h
      · rename_i hs
        cases hi : P.info? fd.type with
        | none => simp [hi] at hs
        | some i =>
        have hs0 : i.size ≠ 0 := by simpa [hi] using hs
        have hrun : ∀ b off, (Instr.fieldAt T (.pointer (some ⟨b, off, none⟩)) f).run P w = .ok (.pointer (some ⟨b, off + fd.offset, none⟩)) w := by
          intro b off
          simp [Instr.fieldAt, run_underlying hu, hf, Instr.sureAddr, fieldPlace, run_sizeOf' hi, hs0, add_mk]
        split at h
        · rename_i id off
          simp only [Option.some.injEq, Prod.mk.injEq] at h
          obtain ⟨rfl, rfl⟩ := h
          obtain rfl : a = .pointer (some ⟨Γ.ρ id, off, none⟩) := hv
          exact ⟨_, hrun _ _, rfl⟩
        · rename_i n g
          simp only [Option.some.injEq, Prod.mk.injEq] at h
          obtain ⟨rfl, rfl⟩ := h
          obtain ⟨b, off, rfl, hb, hg⟩ := hv
          refine ⟨_, hrun _ _, b, off + fd.offset, rfl, hb, fun i hi => ?_⟩
          rw [Nat.add_assoc]
          exact hg _ (by omega)
        · rename_i id j o
          simp only [Option.some.injEq, Prod.mk.injEq] at h
          obtain ⟨rfl, rfl⟩ := h
          obtain ⟨k, rfl, hk⟩ := hv
          exact ⟨_, hrun _ _, k, by rw [Nat.add_assoc], hk⟩
        · cases h
      · cases h
    · cases h
  · cases h
end AL
