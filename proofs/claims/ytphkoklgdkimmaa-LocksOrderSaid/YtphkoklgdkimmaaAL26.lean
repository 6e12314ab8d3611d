/- An abstract logic, 26: what a law is handed is read; a law's contract is its statement. No condition. -/
import Derived.Test.YtphkoklgdkimmaaAL25
import Derived.Deep.Slices
import Derived.WalkKit
import Derived.ProofKit
import Derived.OpenShut
import Derived.ShutString
import Derived.ChangeOld
import Derived.Below
import Derived.Carry
namespace AL
open Go Go.RowKit
set_option linter.unusedVariables false
set_option linter.unusedSimpArgs false

/-- The blocks that were there. -/
abbrev Iw (w : World) (b : Nat) : Prop := b < w.heap.size

/-- What a reading of type t tells: its cells are an 'α''s. -/
def Reads (P : Program) (t : TypeId) (α : Type) (row : α → Nat → SC) : Prop :=
  ∀ {H : Type} {enc : TypeId × Value → H} {w : World} {spare : Nat → Bool} {held : Bool} {fuel : Nat} {cs : List Value} {x : DataW H × List MemPlace},
    DataW.trod enc P w 0 spare held fuel t cs = some x → ∃ a : α, cs.length = P.cellsOf t ∧ ∀ (i : Nat) (v : Value), cs[i]? = some v → MS (Iw w) w (row a i) v

theorem InR_of_wf {k : IntKind} {n : Int} (h : (Lit.int k n).wf = true) : InR k n := by
  simpa [Lit.wf, InR] using h

theorem one_cell {cs : List Value} {u : Value} {p : Value → Prop} (h : cs = [u]) (hp : p u) : ∀ (i : Nat) (v : Value), cs[i]? = some v → p v := by
  intro i v hi
  subst h
  cases i with
  | zero => simp at hi; subst hi; exact hp
  | succ i => simp at hi

theorem Reads.int {P : Program} {t : TypeId} {k : IntKind} (ht : P.underlying t = some (.int k)) (hc : P.cellsOf t = 1) : Reads P t Int (fun n _ => .int k n) := by
  intro H enc w spare held fuel cs x h
  obtain ⟨n, rfl, _, hw⟩ := DataW.trod_int ht h
  exact ⟨n, by rw [hc]; rfl, one_cell rfl ⟨rfl, InR_of_wf hw⟩⟩

theorem Reads.bool {P : Program} {t : TypeId} (ht : P.underlying t = some .bool) (hc : P.cellsOf t = 1) : Reads P t Bool (fun b _ => .bool b) := by
  intro H enc w spare held fuel cs x h
  obtain ⟨n, rfl, _⟩ := DataW.trod_bool ht h
  exact ⟨n, by rw [hc]; rfl, one_cell rfl rfl⟩

theorem ba_bytes (s : ByteArray) : ba s.data.toList = s := by
  cases s; rfl

theorem Reads.str {P : Program} {t : TypeId} (ht : P.underlying t = some .string) (hc : P.cellsOf t = 1) : Reads P t Bytes (fun b _ => .str b) := by
  intro H enc w spare held fuel cs x h
  obtain ⟨s, rfl, _, hs⟩ := DataW.trod_string ht h
  exact ⟨s.data.toList, by rw [hc]; rfl, one_cell rfl ⟨by rw [ba_bytes], by simpa using hs⟩⟩

theorem cell_lt {w : World} {a : Addr} {v : Value} (h : w.cell? a = some v) : a.block < w.heap.size := by
  unfold World.cell? at h
  split at h
  · rename_i e
    exact (Array.getElem?_eq_some_iff.1 e).1
  · cases h

theorem Reads.slice {P : Program} {t e : TypeId} {α : Type} {row : α → Nat → SC} (d : α) (hr : Reads P e α row) (ht : P.underlying t = some (.slice e)) (hc : P.cellsOf t = 1) {k : Nat} (hk : P.cellsOf e = k) (h0 : 0 < k) :
    Reads P t (List α) (fun l _ => .sl k α d row l) := by
  intro H enc w spare held fuel cs x h
  rcases Go.Deep.open_slice ht h with ⟨rfl, _⟩ | ⟨a, len, cap, m, n, D, Pl, rfl, _, hl, hm, hmm, _, hx⟩
  · refine ⟨[], by rw [hc]; rfl, one_cell rfl ⟨none, 0, rfl, Nat.le_refl _, Nat.zero_le _, .inl ⟨rfl, fun _ => rfl⟩⟩⟩
  · have hlm : len ≤ m := by rw [hmm]; split <;> omega
    have hel : ∀ i, i < len → ∃ y : α, ∀ j, j < k → ∃ u, w.cell? ((a.add (i * k)).add j) = some u ∧ MS (Iw w) w (row y j) u := by
      intro i hi
      obtain ⟨cs', h1, h2⟩ := hx i (by omega)
      rw [hk] at h1
      obtain ⟨_, g2, g3⟩ := World.cells?_some h1
      obtain ⟨y, q1, q2⟩ := hr h2
      refine ⟨y, fun j hj => ?_⟩
      have : cs'[j]? = some cs'[j] := List.getElem?_eq_getElem (by omega)
      exact ⟨_, by rw [g3 j hj]; exact this, q2 j _ this⟩
    let f : Nat → α := fun i => if h : i < len then Classical.choose (hel i h) else d
    have hf : ∀ i, i < len → ∀ j, j < k → ∃ u, w.cell? ((a.add (i * k)).add j) = some u ∧ MS (Iw w) w (row (f i) j) u := by
      intro i hi
      have := Classical.choose_spec (hel i hi)
      simp only [f, dif_pos hi]
      exact this
    refine ⟨(List.range len).map f, by rw [hc]; rfl, one_cell rfl ?_⟩
    refine ⟨some a, cap, by simp, by simpa using hl, hm, ?_⟩
    by_cases hl0 : len = 0
    · subst hl0; exact .inl ⟨rfl, fun h => by cases h⟩
    · right
      obtain ⟨u, hu, _⟩ := hf 0 (by omega) 0 h0
      have hu0 : w.cell? a = some u := by simpa [Addr.add] using hu
      obtain ⟨b, off, spot⟩ := a
      have hspot : spot = none := World.cell?_spot hu0
      subst hspot
      refine ⟨b, off, rfl, cell_lt hu0, fun j x hx i hi => ?_⟩
      have hj : j < len := by
        have := (List.getElem?_eq_some_iff.1 hx).1
        simpa using this
      rw [List.getElem?_map, List.getElem?_range hj] at hx
      simp only [Option.map_some, Option.some.injEq] at hx
      subst hx
      obtain ⟨u', h1, h2⟩ := hf j hj i hi
      rw [add_mk, add_mk] at h1
      exact ⟨u', h1, h2⟩

/-- The fields of a struct, from one on. -/
def ReadsF (P : Program) (fl : List Field) (off : Nat) (α : Type) (row : α → Nat → SC) (n : Nat) : Prop :=
  ∀ {H : Type} {enc : TypeId × Value → H} {w : World} {spare : Nat → Bool} {held : Bool} {fuel : Nat} {cs : List Value}, (∀ f ∈ fl, ∃ x, DataW.trod enc P w 0 spare held fuel f.type ((cs.drop f.offset).take (P.cellsOf f.type)) = some x) →
    ∃ a : α, ∀ (i : Nat) (v : Value), i < n → cs[off + i]? = some v → MS (Iw w) w (row a i) v

theorem ReadsF.nil {P : Program} {off : Nat} : ReadsF P [] off Unit (fun _ _ => .any) 0 := by
  intro H enc w spare held fuel cs h
  exact ⟨(), fun i v hi => by omega⟩

theorem ReadsF.cons {P : Program} {f : Field} {fl : List Field} {off k n : Nat} {α β : Type} {row : α → Nat → SC} {row' : β → Nat → SC} (h : Reads P f.type α row) (hk : P.cellsOf f.type = k) (ho : f.offset = off) (hf : ReadsF P fl (off + k) β row' n) :
    ReadsF P (f :: fl) off (α × β) (fun x i => if i < k then row x.1 i else row' x.2 (i - k)) (k + n) := by
  intro H enc w spare held fuel cs hx
  obtain ⟨x, h1⟩ := hx f (List.mem_cons_self ..)
  obtain ⟨a, ha, hb⟩ := h h1
  obtain ⟨b, hb'⟩ := hf fun g hg => hx g (List.mem_cons_of_mem _ hg)
  refine ⟨(a, b), fun i v hi hv => ?_⟩
  by_cases hik : i < k
  · simp only [if_pos hik]
    refine hb i v ?_
    rw [List.getElem?_take_of_lt (by rw [hk]; exact hik), List.getElem?_drop, ho]
    exact hv
  · simp only [if_neg hik]
    refine hb' (i - k) v (by omega) ?_
    rw [show off + k + (i - k) = off + i by omega]
    exact hv

/-- A struct: 'g' gives the fields their names, 'row0' tells the cells. -/
theorem Reads.struct {P : Program} {t : TypeId} {fs : Array Field} {α β : Type} {row : α → Nat → SC} {n : Nat} {row0 : β → Nat → SC} (ht : P.underlying t = some (.struct fs)) (hc : P.cellsOf t = n) (hf : ReadsF P fs.toList 0 α row n) (g : α → β)
    (hg : ∀ a i, i < n → row0 (g a) i = row a i) : Reads P t β row0 := by
  intro H enc w spare held fuel cs x h
  obtain ⟨xs, m, _, _, hl, hlen, hfs⟩ := DataW.trod_struct ht h
  obtain ⟨a, ha⟩ := hf (enc := enc) (w := w) (spare := spare) (held := held) (fuel := m) (cs := cs) fun f hf => by
    obtain ⟨i, hi⟩ := List.getElem?_of_mem hf
    have hi' : fs[i]? = some f := by simpa using hi
    have := hfs i f hi'
    have hlt : i < xs.length := by rw [hlen]; exact (Array.getElem?_eq_some_iff.1 hi').1
    exact ⟨xs[i], by rw [this, List.getElem?_eq_getElem hlt]⟩
  refine ⟨g a, hl, fun i v hi => ?_⟩
  have hin : i < n := by rw [← hc, ← hl]; exact (List.getElem?_eq_some_iff.1 hi).1
  rw [hg a i hin]
  exact ha i v hin (by rw [Nat.zero_add]; exact hi)

/-- An argument of one cell. -/
theorem Reads.arg {P : Program} {t : TypeId} {α : Type} {row : α → Nat → SC} (hr : Reads P t α row) {H : Type} {enc : TypeId × Value → H} {w : World} {spare : Nat → Bool} {held : Bool} {v : Value} {d : DataW H} {ps : List MemPlace}
    (h : DataW.Trod enc P w 0 spare held t v d ps) (hv : v.cells.toList = [v]) : ∃ a : α, MS (Iw w) w (row a 0) v := by
  obtain ⟨fuel, hf⟩ := h
  obtain ⟨a, _, h2⟩ := hr hf
  exact ⟨a, h2 0 v (by rw [hv]; rfl)⟩

/-- What a law is called with. -/
def Γw (w : World) : Ctx := ⟨Iw w, fun _ => 0, fun _ => undef⟩

/-- A law's contract: true; what was there is as it was. -/
theorem law_walk {P : Program} {f : FuncId} {args : List TV} {cargs : Array Value} {w : World} (h : Pure P f args (vc (bo true))) (hm : MTs (Γw w) w args cargs.toList) :
    Calls P f cargs w fun e w' => e = .returned (.bool true) ∧ Below w.heap.size w w' := by
  refine (h.2 (Γw w) w cargs ⟨fun id ob h => (by cases h), fun id ob b h => (by cases h), fun id ob id' ob' b h => (by cases h), fun b hb => hb⟩ hm).mono ?_
  rintro e w' ⟨v, Γ', rfl, hv, _, hg, _⟩
  obtain rfl : v = .bool true := hv
  exact ⟨rfl, hg.os, hg.tape, hg.output, hg.size, fun b hb => hg.keep b ⟨hb, fun id o h => (by cases h)⟩⟩
end AL
