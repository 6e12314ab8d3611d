/- An abstract logic, 26: what a law is handed is read; a law's contract is its statement. No condition. An abstract logic, 27: the facts of the seat's program that the rules ask for. No condition. An abstract logic, 28: a nil slice is an empty one. No condition. An abstract logic, 29: arguments of many cells. No condition. An abstract logic, 30: what says more may stand for what says less; a slice that may be nil; functions that hand out a slice of their own. No condition. An abstract logic, 31: a nil slice in a cell of an owned object, owned from now on. No condition. An abstract logic, 32: functions of the library that sort and shorten an owned slice, by contracts of theirs. No condition. An abstract logic, 33: an owned slice told by another row. No condition. An abstract logic, 36: contracts out of the library's, and back. No condition. An abstract logic, 38: functions that take one owned struct by pointer, and leave it changed. No condition. An abstract logic, 40: functions that take a slice of their own and hand out one, or hand out one beside plain values. No condition.  -/
import Derived.Test.YtbfhmgbgehenoaaALd
import Derived.Deep.Slices
import Derived.WalkKit
import Derived.ProofKit
import Derived.OpenShut
import Derived.ShutString
import Derived.ChangeOld
import Derived.Below
import Derived.Carry
import Derived.Test.YtbfhmgbgehenoaaRows
import Derived.Sort.Grow
namespace AL
open Go Go.RowKit
set_option linter.unusedVariables false
set_option linter.unusedSimpArgs false

/-- The blocks that were there. -/
abbrev Iw (w : World) (b : Nat) : Prop := b < w.heap.size

/-- What a reading of type t tells: its cells are an 'α''s. -/
def Reads (P : Program) (t : TypeId) (α : Type) (row : α → Nat → SC) : Prop :=
  ∀ {H : Type} {enc : TypeId × Value → H} {w : World} {spare : Nat → Bool} {held : Bool} {fuel : Nat} {cs : List Value} {x : DataW H × List MemPlace},
    DataW.trod enc P w 0 spare held fuel t cs = some x → ∃ a : α, cs.length = P.cellsOf t ∧ ∀ (i : Nat) (v : Value), cs[i]? = some v → MS (Iw w) w (row a i) v

theorem InR_of_wf {k : IntKind} {n : Int} (h : (Lit.int k n).wf = true) : InR k n := by
  simpa [Lit.wf, InR] using h

theorem one_cell {cs : List Value} {u : Value} {p : Value → Prop} (h : cs = [u]) (hp : p u) : ∀ (i : Nat) (v : Value), cs[i]? = some v → p v := by
  intro i v hi
  subst h
  cases i with
  | zero => simp at hi; subst hi; exact hp
  | succ i => simp at hi

theorem Reads.int {P : Program} {t : TypeId} {k : IntKind} (ht : P.underlying t = some (.int k)) (hc : P.cellsOf t = 1) : Reads P t Int (fun n _ => .int k n) := by
  intro H enc w spare held fuel cs x h
  obtain ⟨n, rfl, _, hw⟩ := DataW.trod_int ht h
  exact ⟨n, by rw [hc]; rfl, one_cell rfl ⟨rfl, InR_of_wf hw⟩⟩

theorem Reads.bool {P : Program} {t : TypeId} (ht : P.underlying t = some .bool) (hc : P.cellsOf t = 1) : Reads P t Bool (fun b _ => .bool b) := by
  intro H enc w spare held fuel cs x h
  obtain ⟨n, rfl, _⟩ := DataW.trod_bool ht h
  exact ⟨n, by rw [hc]; rfl, one_cell rfl rfl⟩

theorem ba_bytes (s : ByteArray) : ba s.data.toList = s := by
  cases s; rfl

theorem Reads.str {P : Program} {t : TypeId} (ht : P.underlying t = some .string) (hc : P.cellsOf t = 1) : Reads P t Bytes (fun b _ => .str b) := by
  intro H enc w spare held fuel cs x h
  obtain ⟨s, rfl, _, hs⟩ := DataW.trod_string ht h
  exact ⟨s.data.toList, by rw [hc]; rfl, one_cell rfl ⟨by rw [ba_bytes], by simpa using hs⟩⟩

theorem cell_lt {w : World} {a : Addr} {v : Value} (h : w.cell? a = some v) : a.block < w.heap.size := by
  unfold World.cell? at h
  split at h
  · rename_i e
    exact (Array.getElem?_eq_some_iff.1 e).1
  · cases h

theorem Reads.slice {P : Program} {t e : TypeId} {α : Type} {row : α → Nat → SC} (d : α) (hr : Reads P e α row) (ht : P.underlying t = some (.slice e)) (hc : P.cellsOf t = 1) {k : Nat} (hk : P.cellsOf e = k) (h0 : 0 < k) :
    Reads P t (List α) (fun l _ => .sl k α d row l) := by
  intro H enc w spare held fuel cs x h
  rcases Go.Deep.open_slice ht h with ⟨rfl, _⟩ | ⟨a, len, cap, m, n, D, Pl, rfl, _, hl, hm, hmm, _, hx⟩
  · refine ⟨[], by rw [hc]; rfl, one_cell rfl ⟨none, 0, rfl, Nat.le_refl _, Nat.zero_le _, .inl ⟨rfl, fun _ => rfl⟩⟩⟩
  · have hlm : len ≤ m := by rw [hmm]; split <;> omega
    have hel : ∀ i, i < len → ∃ y : α, ∀ j, j < k → ∃ u, w.cell? ((a.add (i * k)).add j) = some u ∧ MS (Iw w) w (row y j) u := by
      intro i hi
      obtain ⟨cs', h1, h2⟩ := hx i (by omega)
      rw [hk] at h1
      obtain ⟨_, g2, g3⟩ := World.cells?_some h1
      obtain ⟨y, q1, q2⟩ := hr h2
      refine ⟨y, fun j hj => ?_⟩
      have : cs'[j]? = some cs'[j] := List.getElem?_eq_getElem (by omega)
      exact ⟨_, by rw [g3 j hj]; exact this, q2 j _ this⟩
    let f : Nat → α := fun i => if h : i < len then Classical.choose (hel i h) else d
    have hf : ∀ i, i < len → ∀ j, j < k → ∃ u, w.cell? ((a.add (i * k)).add j) = some u ∧ MS (Iw w) w (row (f i) j) u := by
      intro i hi
      have := Classical.choose_spec (hel i hi)
      simp only [f, dif_pos hi]
      exact this
    refine ⟨(List.range len).map f, by rw [hc]; rfl, one_cell rfl ?_⟩
    refine ⟨some a, cap, by simp, by simpa using hl, hm, ?_⟩
    by_cases hl0 : len = 0
    · subst hl0; exact .inl ⟨rfl, fun h => by cases h⟩
    · right
      obtain ⟨u, hu, _⟩ := hf 0 (by omega) 0 h0
      have hu0 : w.cell? a = some u := by simpa [Addr.add] using hu
      obtain ⟨b, off, spot⟩ := a
      have hspot : spot = none := World.cell?_spot hu0
      subst hspot
      refine ⟨b, off, rfl, cell_lt hu0, fun j x hx i hi => ?_⟩
      have hj : j < len := by
        have := (List.getElem?_eq_some_iff.1 hx).1
        simpa using this
      rw [List.getElem?_map, List.getElem?_range hj] at hx
      simp only [Option.map_some, Option.some.injEq] at hx
      subst hx
      obtain ⟨u', h1, h2⟩ := hf j hj i hi
      rw [add_mk, add_mk] at h1
      exact ⟨u', h1, h2⟩

/-- The fields of a struct, from one on. -/
def ReadsF (P : Program) (fl : List Field) (off : Nat) (α : Type) (row : α → Nat → SC) (n : Nat) : Prop :=
  ∀ {H : Type} {enc : TypeId × Value → H} {w : World} {spare : Nat → Bool} {held : Bool} {fuel : Nat} {cs : List Value}, (∀ f ∈ fl, ∃ x, DataW.trod enc P w 0 spare held fuel f.type ((cs.drop f.offset).take (P.cellsOf f.type)) = some x) →
    ∃ a : α, ∀ (i : Nat) (v : Value), i < n → cs[off + i]? = some v → MS (Iw w) w (row a i) v

theorem ReadsF.nil {P : Program} {off : Nat} : ReadsF P [] off Unit (fun _ _ => .any) 0 := by
  intro H enc w spare held fuel cs h
  exact ⟨(), fun i v hi => by omega⟩

theorem ReadsF.cons {P : Program} {f : Field} {fl : List Field} {off k n : Nat} {α β : Type} {row : α → Nat → SC} {row' : β → Nat → SC} (h : Reads P f.type α row) (hk : P.cellsOf f.type = k) (ho : f.offset = off) (hf : ReadsF P fl (off + k) β row' n) :
    ReadsF P (f :: fl) off (α × β) (fun x i => if i < k then row x.1 i else row' x.2 (i - k)) (k + n) := by
  intro H enc w spare held fuel cs hx
  obtain ⟨x, h1⟩ := hx f (List.mem_cons_self ..)
  obtain ⟨a, ha, hb⟩ := h h1
  obtain ⟨b, hb'⟩ := hf fun g hg => hx g (List.mem_cons_of_mem _ hg)
  refine ⟨(a, b), fun i v hi hv => ?_⟩
  by_cases hik : i < k
  · simp only [if_pos hik]
    refine hb i v ?_
    rw [List.getElem?_take_of_lt (by rw [hk]; exact hik), List.getElem?_drop, ho]
    exact hv
  · simp only [if_neg hik]
    refine hb' (i - k) v (by omega) ?_
    rw [show off + k + (i - k) = off + i by omega]
    exact hv

/-- A struct: 'g' gives the fields their names, 'row0' tells the cells. -/
theorem Reads.struct {P : Program} {t : TypeId} {fs : Array Field} {α β : Type} {row : α → Nat → SC} {n : Nat} {row0 : β → Nat → SC} (ht : P.underlying t = some (.struct fs)) (hc : P.cellsOf t = n) (hf : ReadsF P fs.toList 0 α row n) (g : α → β)
    (hg : ∀ a i, i < n → row0 (g a) i = row a i) : Reads P t β row0 := by
  intro H enc w spare held fuel cs x h
  obtain ⟨xs, m, _, _, hl, hlen, hfs⟩ := DataW.trod_struct ht h
  obtain ⟨a, ha⟩ := hf (enc := enc) (w := w) (spare := spare) (held := held) (fuel := m) (cs := cs) fun f hf => by
    obtain ⟨i, hi⟩ := List.getElem?_of_mem hf
    have hi' : fs[i]? = some f := by simpa using hi
    have := hfs i f hi'
    have hlt : i < xs.length := by rw [hlen]; exact (Array.getElem?_eq_some_iff.1 hi').1
    exact ⟨xs[i], by rw [this, List.getElem?_eq_getElem hlt]⟩
  refine ⟨g a, hl, fun i v hi => ?_⟩
  have hin : i < n := by rw [← hc, ← hl]; exact (List.getElem?_eq_some_iff.1 hi).1
  rw [hg a i hin]
  exact ha i v hin (by rw [Nat.zero_add]; exact hi)

/-- An argument of one cell. -/
theorem Reads.arg {P : Program} {t : TypeId} {α : Type} {row : α → Nat → SC} (hr : Reads P t α row) {H : Type} {enc : TypeId × Value → H} {w : World} {spare : Nat → Bool} {held : Bool} {v : Value} {d : DataW H} {ps : List MemPlace}
    (h : DataW.Trod enc P w 0 spare held t v d ps) (hv : v.cells.toList = [v]) : ∃ a : α, MS (Iw w) w (row a 0) v := by
  obtain ⟨fuel, hf⟩ := h
  obtain ⟨a, _, h2⟩ := hr hf
  exact ⟨a, h2 0 v (by rw [hv]; rfl)⟩

/-- What a law is called with. -/
def Γw (w : World) : Ctx := ⟨Iw w, fun _ => 0, fun _ => undef⟩

/-- A law's contract: true; what was there is as it was. -/
theorem law_walk {P : Program} {f : FuncId} {args : List TV} {cargs : Array Value} {w : World} (h : Pure P f args (vc (bo true))) (hG : GlobOk (Iw w) w) (hm : MTs (Γw w) w args cargs.toList) :
    Calls P f cargs w fun e w' => e = .returned (.bool true) ∧ Below w.heap.size w w' := by
  refine (h.2 (Γw w) w cargs ⟨fun id ob h => (by cases h), fun id ob b h => (by cases h), fun id ob id' ob' b h => (by cases h), fun b hb => hb, hG⟩ hm).mono ?_
  rintro e w' ⟨v, Γ', rfl, hv, _, hg, _⟩
  obtain rfl : v = .bool true := hv
  exact ⟨rfl, hg.os, hg.tape, hg.output, hg.size, fun b hb => hg.keep b ⟨hb, fun id o h => (by cases h)⟩⟩
end AL
namespace AL
open Go Go.Proofs
set_option linter.unusedVariables false

theorem mixed : Try.prog.follows .mixedOrders = true := Try.checked.mixed
theorem own : ownKnob Try.prog.godebug = none := by kernel_rfl
theorem laidOut : laidOutB Try.prog = true := by kernel_rfl
end AL
namespace AL
open Go
set_option linter.unusedVariables false

theorem ent_nil {s : AS} (t : Nat) (k : Nat) (α : Type) (d : α) (row : α → Nat → SC) (ht : s.reg t = vc .nilsl) : s.ent (s.set (some t) (vc (.sl k α d row []))) := by
  intro G Γ a w hC
  refine ⟨Γ, hC.size, hC.defers, fun t' => ?_, hC.heap, hC.g, hC.ids⟩
  simp only [AS.set]
  by_cases h : t' = t
  · subst h
    rw [Nat.beq_refl]
    have := hC.regs t'
    rw [ht] at this
    have h0 : a.tmps.getD t' undef = .slice none 0 0 := this
    rw [h0]
    exact ⟨none, 0, rfl, Nat.le_refl _, Nat.zero_le _, .inl ⟨rfl, fun _ => rfl⟩⟩
  · rw [beq_false h]; exact hC.regs t'
end AL
namespace AL
open Go
set_option linter.unusedVariables false

theorem okWide_st {P : Program} {t : TypeId} {fs : Array Field} {w : World} {r : Reach} {base : Nat} {v : Value} (ht : P.underlying t = some (.struct fs)) (h : Value.okWide P w r base t v) : ∃ cs, v = .agg cs := by
  unfold Value.okWide at h; rw [ht] at h; obtain ⟨cs, h, _⟩ := h; exact ⟨cs, h⟩
theorem okWide_ar {P : Program} {t e : TypeId} {n : Nat} {w : World} {r : Reach} {base : Nat} {v : Value} (ht : P.underlying t = some (.array n e)) (h : Value.okWide P w r base t v) : ∃ cs, v = .agg cs := by
  unfold Value.okWide at h; rw [ht] at h; obtain ⟨cs, h, _⟩ := h; exact ⟨cs, h⟩

theorem Reads.array {P : Program} {t e : TypeId} {n k : Nat} {α : Type} {row : α → Nat → SC} (hr : Reads P e α row) (ht : P.underlying t = some (.array n e)) (he : P.cellsOf e = k) (hc : P.cellsOf t = n * k) (h0 : 0 < k) (d : α) :
    Reads P t (Nat → α) (fun f i => row (f (i / k)) (i % k)) := by
  intro H enc w spare held fuel cs x h
  obtain ⟨xs, m, _, _, hl, hlen, hx⟩ := DataW.trod_array ht h
  have hel : ∀ i, i < n → ∃ y : α, ∀ j v, j < k → cs[i * k + j]? = some v → MS (Iw w) w (row y j) v := by
    intro i hi
    have h1 := hx i hi
    rw [List.getElem?_eq_getElem (by omega)] at h1
    obtain ⟨y, _, h2⟩ := hr h1
    refine ⟨y, fun j v hj hv => h2 j v ?_⟩
    rw [List.getElem?_take_of_lt (by omega), List.getElem?_drop, he]
    exact hv
  refine ⟨fun i => if h : i < n then Classical.choose (hel i h) else d, hl, fun i v hi => ?_⟩
  have hin : i < n * k := by rw [← hc, ← hl]; exact (List.getElem?_eq_some_iff.1 hi).1
  have hdiv : i / k < n := (Nat.div_lt_iff_lt_mul h0).2 hin
  have := Classical.choose_spec (hel (i / k) hdiv)
  simp only [dif_pos hdiv]
  refine this (i % k) v (Nat.mod_lt _ h0) ?_
  rw [show i / k * k + i % k = i by rw [Nat.mul_comm]; exact Nat.div_add_mod i k]
  exact hi

theorem mcs_ofS {Γ : Ctx} {w : World} : ∀ (k : Nat) (f : Nat → SC) (vs : List Value), vs.length = k → (∀ i v, vs[i]? = some v → MS Γ.I w (f i) v) → MCs Γ w (ofS k f) vs := by
  intro k f vs hl h
  have key : ∀ (l : List Nat) (vs : List Value), vs.length = l.length → (∀ (i : Nat) (v : Value) (q : Nat), vs[i]? = some v → l[i]? = some q → MS Γ.I w (f q) v) → MCs Γ w (l.map fun i => AC.s (f i)) vs := by
    intro l
    induction l with
    | nil => intro vs hl _; cases vs with
      | nil => trivial
      | cons v vs => simp at hl
    | cons q l ih =>
      intro vs hl h
      cases vs with
      | nil => simp at hl
      | cons v vs => exact ⟨h 0 v q rfl rfl, ih vs (by simpa using hl) fun i u q' h1 h2 => h (i + 1) u q' h1 h2⟩
  refine key (List.range k) vs (by simpa using hl) fun i v q h1 h2 => ?_
  have hi : i < k := by
    have := (List.getElem?_eq_some_iff.1 h2).1
    simpa using this
  rw [List.getElem?_range hi] at h2
  cases h2
  exact h i v h1

/-- An argument of many cells. -/
theorem Reads.agg {P : Program} {t : TypeId} {α : Type} {row : α → Nat → SC} {k : Nat} (hr : Reads P t α row) (hk : P.cellsOf t = k) {H : Type} {enc : TypeId × Value → H} {w : World} {spare : Nat → Bool} {held : Bool} {cs : Array Value} {d : DataW H} {ps : List MemPlace}
    (h : DataW.Trod enc P w 0 spare held t (.agg cs) d ps) : ∃ a : α, MT (Γw w) w (.agg (ofS k (row a))) (.agg cs) := by
  obtain ⟨fuel, hf⟩ := h
  obtain ⟨a, h1, h2⟩ := hr hf
  exact ⟨a, cs, rfl, mcs_ofS k _ _ (by rw [← hk, ← h1]; rfl) h2⟩

theorem MCs.int {Γ : Ctx} {w : World} {k : IntKind} {n : Int} : ∀ {l : List AC} {vs : List Value} {i : Nat}, MCs Γ w l vs → l[i]? = some (.s (.int k n)) → InR k n
  | c :: l, v :: vs, 0, h, hi => by simp at hi; subst hi; exact h.1.2
  | c :: l, v :: vs, i + 1, h, hi => MCs.int h.2 (by simpa using hi)
  | [], [], i, _, hi => by simp at hi

/-- A number in a slot of many cells: it is of its kind. -/
theorem AMx.cell {P : Program} {R : Exit → AS → Prop} {k : List KI} {c : Code} {s : AS} (t : Nat) (i : Nat) {l : List AC} {ik n} (ht : s.reg t = .t (.agg l)) (hi : l[i]? = some (.s (.int ik n))) (h : InR ik n → AMx P R (.code c :: k) .normal s) : AMx P R (.code c :: k) .normal s :=
  AMx.learn _ (fun G Γ a w hC => by have := hC.regs t; rw [ht] at this; obtain ⟨cs, _, hm⟩ := this; exact hm.int hi) h
end AL
namespace AL
open Go
set_option linter.unusedVariables false

/-! ### Less -/
def AC.le (a b : AC) : Prop := ∀ Γ w v, MC Γ w a v → MC Γ w b v
def acsLe : List AC → List AC → Prop
  | [], [] => True
  | a :: l, b :: m => AC.le a b ∧ acsLe l m
  | _, _ => False
def TV.le (a b : TV) : Prop := ∀ Γ w v, MT Γ w a v → MT Γ w b v
def tvsLe : List TV → List TV → Prop
  | [], [] => True
  | a :: l, b :: m => TV.le a b ∧ tvsLe l m
  | _, _ => False
def AV.le (a b : AV) : Prop := ∀ Γ obj w v, MV Γ obj w a v → MV Γ obj w b v

theorem AC.le_rfl {a : AC} : AC.le a a := fun _ _ _ h => h
theorem TV.le_rfl {a : TV} : TV.le a a := fun _ _ _ h => h
theorem AC.le_nil {k α d row} : AC.le (.s .nilsl) (.s (.sl k α d row [])) := by
  intro Γ w v h
  have h : v = .slice none 0 0 := h
  subst h
  exact ⟨none, 0, rfl, Nat.le_refl _, Nat.zero_le _, .inl ⟨rfl, fun _ => rfl⟩⟩
theorem AC.le_nn {c} : AC.le (.s (.nn c)) (.s c) := fun _ _ _ h => h.1
theorem acsLe.ok {Γ w} : ∀ {l m : List AC} {vs : List Value}, acsLe l m → MCs Γ w l vs → MCs Γ w m vs
  | [], [], _, _, h => h
  | _ :: _, _ :: _, _ :: _, h, h' => ⟨h.1 _ _ _ h'.1, acsLe.ok h.2 h'.2⟩
  | [], _ :: _, _, h, _ => h.elim
  | _ :: _, [], _, h, _ => h.elim
  | _ :: _, _ :: _, [], _, h => h.elim
theorem TV.le_c {a b : AC} (h : AC.le a b) : TV.le (.c a) (.c b) := fun Γ w v hv => h Γ w v hv
theorem TV.le_agg {l m : List AC} (h : acsLe l m) : TV.le (.agg l) (.agg m) := fun Γ w v ⟨cs, e, hm⟩ => ⟨cs, e, h.ok hm⟩
theorem tvsLe.ok {Γ w} : ∀ {l m : List TV} {vs : List Value}, tvsLe l m → MTs Γ w l vs → MTs Γ w m vs
  | [], [], _, _, h => h
  | _ :: _, _ :: _, _ :: _, h, h' => ⟨h.1 _ _ _ h'.1, tvsLe.ok h.2 h'.2⟩
  | [], _ :: _, _, h, _ => h.elim
  | _ :: _, [], _, h, _ => h.elim
  | _ :: _, _ :: _, [], _, h => h.elim
theorem AV.le_t {a b : TV} (h : TV.le a b) : AV.le (.t a) (.t b) := fun Γ obj w v hv => h Γ w v hv
theorem AV.le_tup {l m : List TV} (h : tvsLe l m) : AV.le (.tup l) (.tup m) := fun Γ obj w v ⟨cs, e, hm⟩ => ⟨cs, e, h.ok hm⟩

theorem Spec.weak {P : Program} {f : FuncId} {args args' : List TV} {H H' : Nat → Option AObj} {res : AV} (h : tvsLe args args') (hs : Spec P f args' H res H') : Spec P f args H res H' :=
  ⟨hs.1, fun Γ w cargs hh hm => hs.2 Γ w cargs hh (h.ok hm)⟩

/-- A slot told less of. -/
theorem ent_weak {s : AS} (t : Nat) {v v' : AV} (ht : s.reg t = v) (h : AV.le v v') : s.ent (s.set (some t) v') := by
  intro G Γ a w hC
  refine ⟨Γ, hC.size, hC.defers, fun t' => ?_, hC.heap, hC.g, hC.ids⟩
  simp only [AS.set]
  by_cases hx : t' = t
  · subst hx
    rw [Nat.beq_refl]
    have := hC.regs t'
    rw [ht] at this
    exact h _ _ _ _ this
  · rw [beq_false hx]; exact hC.regs t'

/-- The cells of an owned object told less of. -/
theorem ent_row {s : AS} (id : Nat) {l m : List AC} (ho : s.obj id = some (.row l)) (h : acsLe l m) : s.ent ⟨s.n, s.reg, fun j => bif Nat.beq j id then some (.row m) else s.obj j⟩ := by
  intro G Γ a w hC
  have key : ∀ j o, (bif Nat.beq j id then some (.row m) else s.obj j) = some o → ∃ o', s.obj j = some o' ∧ o'.width = o.width ∧ (∀ b, fp Γ j o b → fp Γ j o' b) ∧ (MO Γ w j o' → MO Γ w j o) := by
    intro j o hj
    by_cases hx : j = id
    · subst hx
      rw [Nat.beq_refl] at hj
      cases hj
      refine ⟨_, ho, rfl, fun b hb => hb, ?_⟩
      rintro ⟨cs, T, h1, h2⟩
      exact ⟨cs, T, h1, h.ok h2⟩
    · rw [beq_false hx] at hj
      exact ⟨o, hj, rfl, fun b hb => hb, fun h => h⟩
  refine ⟨Γ, hC.size, hC.defers, fun t => ?_, ⟨fun j o hj => ?_, fun j o b hj hb => ?_, fun j o j' o' b hj hj' hb hb' => ?_, hC.heap.ilt, hC.heap.glob⟩, ⟨hC.g.os, hC.g.tape, hC.g.output, hC.g.size, hC.g.prlt, hC.g.keep, hC.g.sub, hC.g.bak, fun j o b hj hb => ?_⟩, hC.ids⟩
  · refine MV.ext (D := fun _ => False) ⟨fun b hb => hb, fun b hb => rfl, fun _ _ => ⟨rfl, rfl⟩⟩ (fun j o _ hj => ?_) (fun d hd => hd.elim) (hC.regs t)
    obtain ⟨o', h1, h2, _⟩ := key j o hj
    exact ⟨o', h1, h2.symm⟩
  · obtain ⟨o', h1, _, _, h4⟩ := key j o hj
    exact h4 (hC.heap.objs j o' h1)
  · obtain ⟨o', h1, _, h3, _⟩ := key j o hj
    exact hC.heap.lt j o' b h1 (h3 b hb)
  · obtain ⟨o1, h1, _, h3, _⟩ := key j o hj
    obtain ⟨o2, g1, _, g3, _⟩ := key j' o' hj'
    exact hC.heap.inj j o1 j' o2 b h1 g1 (h3 b hb) (g3 b hb')
  · obtain ⟨o', h1, _, h3, _⟩ := key j o hj
    exact hC.g.own j o' b h1 (h3 b hb)

section
variable {P : Program} {R : Exit → AS → Prop} {K : List KI} {s : AS}
/-- A slice is nil, or it is not. -/
theorem AMx.isnil {c : Code} (t : Nat) {k : Nat} {α : Type} {d : α} {row : α → Nat → SC} {l : List α} (ht : s.reg t = vc (.sl k α d row l)) (h1 : l = [] → AMx P R (.code c :: K) .normal (s.set (some t) (vc .nilsl)))
    (h2 : AMx P R (.code c :: K) .normal (s.set (some t) (vc (.nn (.sl k α d row l))))) : AMx P R (.code c :: K) .normal s := by
  intro G Γ a w hC
  have hv := hC.regs t
  rw [ht] at hv
  have hv' : MS Γ.I w (.sl k α d row l) (a.tmps.getD t undef) := hv
  obtain ⟨ad, cap, e, e1, e2, e3⟩ := hv
  have mk : ∀ v', MV Γ s.obj w v' (a.tmps.getD t undef) → Conc G Γ (s.set (some t) v') a w := fun v' hv' => by
    refine ⟨hC.size, hC.defers, fun t' => ?_, hC.heap, hC.g, hC.ids⟩
    simp only [AS.set]
    by_cases hx : t' = t
    · subst hx; rw [Nat.beq_refl]; exact hv'
    · rw [beq_false hx]; exact hC.regs t'
  cases ad with
  | none =>
    have hl : l = [] ∧ cap = 0 := by
      rcases e3 with ⟨h, h'⟩ | ⟨b, off, h, _⟩
      · exact ⟨h, h' rfl⟩
      · cases h
    obtain ⟨rfl, rfl⟩ := hl
    exact h1 rfl G Γ a w (mk _ e)
  | some ad => exact h2 G Γ a w (mk _ ⟨hv', ad, _, _, e⟩)
end

/-! ### What is known of numbers and lengths -/
theorem MCs.len {Γ : Ctx} {w : World} {k : Nat} {α : Type} {d : α} {row : α → Nat → SC} {m : List α} : ∀ {l : List AC} {vs : List Value} {i : Nat}, MCs Γ w l vs → l[i]? = some (.s (.sl k α d row m)) → m.length ≤ maxLen
  | c :: l, v :: vs, 0, h, hi => by
    simp at hi; subst hi
    obtain ⟨a, cap, _, h1, h2, _⟩ := (show MS Γ.I w (.sl k α d row m) v from h.1)
    omega
  | c :: l, v :: vs, i + 1, h, hi => MCs.len h.2 (by simpa using hi)
  | [], [], i, _, hi => by simp at hi
section
variable {P : Program} {R : Exit → AS → Prop} {K : List KI} {s : AS}
/-- A slice in a slot of many cells: its length. -/
theorem AMx.celln {c : Code} (t i : Nat) {l : List AC} {k : Nat} {α : Type} {d : α} {row : α → Nat → SC} {m : List α} (ht : s.reg t = .t (.agg l)) (hi : l[i]? = some (.s (.sl k α d row m))) (h : m.length ≤ maxLen → AMx P R (.code c :: K) .normal s) : AMx P R (.code c :: K) .normal s :=
  AMx.learn _ (fun G Γ a w hC => by have := hC.regs t; rw [ht] at this; obtain ⟨cs, _, hm⟩ := this; exact hm.len hi) h
/-- The numbers in a slice: each is of its kind. -/
theorem AMx.slint {c : Code} (t i : Nat) {k : Nat} {α : Type} {d : α} {row : α → Nat → SC} {m : List α} {ik : IntKind} {f : α → Int} (ht : s.reg t = vc (.sl k α d row m)) (hi : i < k) (hr : ∀ x, row x i = .int ik (f x)) (h : (∀ x ∈ m, InR ik (f x)) → AMx P R (.code c :: K) .normal s) : AMx P R (.code c :: K) .normal s :=
  AMx.learn _ (fun G Γ a w hC => by
    have := hC.regs t
    rw [ht] at this
    obtain ⟨ad, cap, _, _, _, h3⟩ := (show MS Γ.I w (.sl k α d row m) (a.tmps.getD t undef) from this)
    intro x hx
    rcases h3 with ⟨rfl, _⟩ | ⟨b, off, _, _, h3⟩
    · cases hx
    · obtain ⟨j, hj⟩ := List.getElem?_of_mem hx
      obtain ⟨u, _, hm⟩ := h3 j x hj i hi
      rw [hr] at hm
      exact hm.2) h
end

/-! ### A function that hands out a slice of its own -/
def isGrow : AObj → Bool
  | .grow .. => true
  | _ => false
def RetO (P : Program) (fn : Func) (o : AObj) (e : Exit) (s : AS) : Prop :=
  (e = .ret ∨ e = .normal) ∧ ∃ id o', evRes P fn s = some (.t (.c (.own id))) ∧ s.obj id = some o' ∧ o' = o

theorem Own.of_body {P : Program} {f : FuncId} {fn : Func} {c : Code} {args : List TV} {o : AObj} {n : Nat} (hf : P.funcs[f]? = some fn) (hb : fn.body = some c) (hn : (fn.name == "runtime.NumGoroutine") = false)
    (hnt : fn.ntmps = n) (hle : Nat.ble args.length n = true) (hg : isGrow o = true) (h : AMx P (RetO P fn o) [.code c] .normal (AS.lst n (argRegs 0 args) [])) (d : Nat) : Spec P f args H0 (vo d) (ofH [(d, o)]) := by
  refine ⟨⟨fn, hf, by rw [hb]; rfl, hn⟩, fun Γ w cargs hh hm => ?_⟩
  refine calls_of_wp hf hb ?_
  have hC := body_start (P := P) (H := []) hnt hle hh hm
  refine wp_mono (h _ _ _ _ hC) ?_
  rintro e a' w' ⟨s', Γ', ⟨he, id, _, hr, hid, rfl⟩, hC'⟩
  obtain ⟨v, h1, h2, h3⟩ := res_ok (P := P) (fn := fn) hC' hr
  rename_i o
  have hpost : a'.defers = [] ∧ ∃ v, (results fn a'.tmps).run P w' = Result.ok v w' ∧ ∃ v_1 Γ', Ending.returned v = .returned v_1 ∧ MV Γ' (ofH [(d, o)]) w' (vo d) v_1 ∧ HeapOk Γ' (ofH [(d, o)]) w' ∧ GOk ⟨w, prOf Γ (ofH []) w, Γ.I, Γ.ρ, Γ.η, []⟩ Γ' (ofH [(d, o)]) w' ∧ Agree (fun id => ofH [(d, o)] id ≠ none ∧ H0 id = none) Γ Γ' := by
    let Γ2 : Ctx := ⟨Γ'.I, fun j => bif Nat.beq j d then Γ'.ρ id else Γ.ρ j, fun j => bif Nat.beq j d then Γ'.η id else Γ.η j⟩
    have er : Γ2.ρ d = Γ'.ρ id := by show (bif Nat.beq d d then _ else _) = _; rw [Nat.beq_refl]; rfl
    have ee : Γ2.η d = Γ'.η id := by show (bif Nat.beq d d then _ else _) = _; rw [Nat.beq_refl]; rfl
    have hfp : ∀ b, fp Γ2 d o b → fp Γ' id o b := fun b hb => by
      unfold fp at hb ⊢
      rw [er, ee] at hb
      exact hb
    refine ⟨hC'.defers, v, h1, v, Γ2, rfl, ?_, ⟨fun j o' hj => ?_, fun j o' b hj hb => ?_, fun j o1 j' o2 b hj hj' _ _ => ?_, hC'.heap.ilt, hC'.heap.glob⟩,
      ⟨hC'.g.os, hC'.g.tape, hC'.g.output, hC'.g.size, hC'.g.prlt, hC'.g.keep, hC'.g.sub, hC'.g.bak, fun j o' b hj hb => ?_⟩, fun j hj => ?_⟩
    · have h2' : v = Γ'.η id ∧ v.oneCell' = true := h2
      exact ⟨h2'.1.trans ee.symm, h2'.2⟩
    · obtain ⟨rfl, rfl⟩ := ofH_one.1 hj
      have := hC'.heap.objs id _ hid
      cases o' with
      | grow T k α dd row l =>
        unfold MO at this ⊢
        rw [er, ee]
        exact this
      | _ => cases hg
    · obtain ⟨rfl, rfl⟩ := ofH_one.1 hj
      exact hC'.heap.lt id _ b hid (hfp b hb)
    · obtain ⟨rfl, _⟩ := ofH_one.1 hj
      obtain ⟨rfl, _⟩ := ofH_one.1 hj'
      rfl
    · obtain ⟨rfl, rfl⟩ := ofH_one.1 hj
      exact hC'.g.own id _ b hid (hfp b hb)
    · have : j ≠ d := fun e => hj ⟨by subst e; rw [ofH_one.2 ⟨rfl, rfl⟩]; simp, rfl⟩
      refine ⟨?_, ?_⟩
      · show (bif Nat.beq j d then _ else _) = _; rw [beq_false this]; rfl
      · show (bif Nat.beq j d then _ else _) = _; rw [beq_false this]; rfl
  rcases he with rfl | rfl
  · exact hpost
  · exact hpost
end AL
namespace AL
open Go
set_option linter.unusedVariables false

theorem MCs.set_own {Γ : Ctx} {w : World} {d : Nat} {post : List AC} : ∀ {pre : List AC} {vs : List Value}, Γ.η d = .slice none 0 0 → MCs Γ w (pre ++ .s .nilsl :: post) vs → MCs Γ w (pre ++ .own d :: post) vs
  | [], v :: vs, hη, h => by
    refine ⟨?_, h.2⟩
    have h1 : v = .slice none 0 0 := h.1
    subst h1
    exact ⟨hη.symm, rfl⟩
  | c :: pre, v :: vs, hη, h => ⟨h.1, MCs.set_own hη h.2⟩
  | [], [], _, h => h.elim
  | _ :: _, [], _, h => h.elim

theorem acsHas_app (d : Nat) : ∀ (l m : List AC), acsHas d (l ++ m) = (acsHas d l || acsHas d m)
  | [], m => rfl
  | c :: l, m => by simp only [List.cons_append, acsHas, acsHas_app d l m, Bool.or_assoc]

/-- The nil slice in a cell of the object h is owned from now on, under the name d. -/
theorem ent_adoptO {n : Nat} {L : List (Nat × AV)} {H : List (Nat × AObj)} (h d : Nat) (pre post : List AC) (T : TypeId) (k : Nat) (α : Type) (dd : α) (row : α → Nat → SC) (ho : ofH H h = some (.row (pre ++ .s .nilsl :: post)))
    (hd : Nat.blt d n = true) (hf : hasL d L = false) (hf' : hasO d H = false) :
    (AS.lst n L H).ent ⟨n, lkp L, fun j => bif Nat.beq j d then some (.grow T k α dd row []) else bif Nat.beq j h then some (.row (pre ++ .own d :: post)) else ofH H j⟩ := by
  intro G Γ a w hC
  obtain ⟨f1, f2⟩ := hasO_ok hf'
  let Γ' := mkΓ Γ d (Γ.ρ d) (.slice none 0 0)
  have hext : Ext (fun id => id = d) Γ w Γ' w := ⟨fun b hb => hb, fun b _ => rfl, mk_agree Γ d _ _⟩
  have hdh : h ≠ d := fun e => by subst e; rw [f1] at ho; cases ho
  have hobj : ∀ j o, (bif Nat.beq j d then some (AObj.grow T k α dd row []) else bif Nat.beq j h then some (.row (pre ++ .own d :: post)) else ofH H j) = some o →
      (j = d ∧ o = .grow T k α dd row []) ∨ (j ≠ d ∧ j = h ∧ o = .row (pre ++ .own d :: post)) ∨ (j ≠ d ∧ j ≠ h ∧ ofH H j = some o) := by
    intro j o hj
    by_cases h1 : j = d
    · subst h1; rw [Nat.beq_refl] at hj; cases hj; exact .inl ⟨rfl, rfl⟩
    · rw [beq_false h1] at hj
      by_cases h2 : j = h
      · subst h2; rw [Nat.beq_refl] at hj; cases hj; exact .inr (.inl ⟨h1, rfl, rfl⟩)
      · rw [beq_false h2] at hj; exact .inr (.inr ⟨h1, h2, hj⟩)
  have hfp : ∀ j o b, j ≠ d → fp Γ' j o b → fp Γ j o b := fun j o b hj h => (fp.ext (mk_agree Γ d (Γ.ρ d) (.slice none 0 0)) hj).1 h
  have hnf : ∀ b, ¬ fp Γ' d (.grow T k α dd row []) b := fun b h => by
    have := h.2
    simp only [Γ', mk_η] at this
    exact this rfl
  have hrow : ∀ b, fp Γ' h (.row (pre ++ .own d :: post)) b → fp Γ h (.row (pre ++ .s .nilsl :: post)) b := fun b hb => (fp.ext (mk_agree Γ d (Γ.ρ d) (.slice none 0 0)) hdh).1 (show fp Γ' h (.row (pre ++ .s .nilsl :: post)) b from hb)
  have hmo : MO Γ' w h (.row (pre ++ .s .nilsl :: post)) := MO.ext hext hdh (fun e he => by subst he; exact f2 h _ ho) (fun b _ => rfl) (hC.heap.objs h _ ho)
  have old : ∀ j o, (bif Nat.beq j d then some (AObj.grow T k α dd row []) else bif Nat.beq j h then some (.row (pre ++ .own d :: post)) else ofH H j) = some o → j ≠ d → ∃ o', ofH H j = some o' ∧ o'.width = o.width ∧ ∀ b, fp Γ' j o b → fp Γ j o' b := by
    intro j o hj hjd
    rcases hobj j o hj with ⟨h1, _⟩ | ⟨_, rfl, rfl⟩ | ⟨h1, h2, h3⟩
    · exact absurd h1 hjd
    · exact ⟨_, ho, rfl, hrow⟩
    · exact ⟨o, h3, rfl, fun b => hfp j o b h1⟩
  refine ⟨Γ', ⟨hC.size, hC.defers, fun u => ?_, ⟨fun j o hj => ?_, fun j o b hj hb => ?_, fun j o j' o' b hj hj' hb hb' => ?_, hC.heap.ilt, hC.heap.glob⟩, ⟨hC.g.os, hC.g.tape, hC.g.output, hC.g.size, hC.g.prlt, hC.g.keep, hC.g.sub, hC.g.bak, fun j o b hj hb => ?_⟩, fun i hi => ?_⟩⟩
  · refine MV.ext hext (fun j o hj ho' => ?_) (fun e he => by subst he; exact hasL_ok hf u) (hC.regs u)
    obtain ⟨o', h1, h2, _⟩ := old j o ho' hj
    exact ⟨o', h1, h2.symm⟩
  · rcases hobj j o hj with ⟨rfl, rfl⟩ | ⟨h1, rfl, rfl⟩ | ⟨h1, h2, h3⟩
    · exact .inl ⟨by simp only [Γ', mk_η], rfl⟩
    · obtain ⟨cs, T', q1, q2⟩ := hmo
      exact ⟨cs, T', q1, q2.set_own (by simp only [Γ', mk_η])⟩
    · exact MO.ext hext h1 (fun e he => by subst he; exact f2 j o h3) (fun b _ => rfl) (hC.heap.objs j o h3)
  · by_cases hjd : j = d
    · rcases hobj j o hj with ⟨rfl, rfl⟩ | ⟨h1, _⟩ | ⟨h1, _⟩
      · exact absurd hb (hnf b)
      · exact absurd hjd h1
      · exact absurd hjd h1
    · obtain ⟨o', h1, _, h3⟩ := old j o hj hjd
      exact hC.heap.lt j o' b h1 (h3 b hb)
  · by_cases hjd : j = d
    · rcases hobj j o hj with ⟨rfl, rfl⟩ | ⟨h1, _⟩ | ⟨h1, _⟩
      · exact absurd hb (hnf b)
      · exact absurd hjd h1
      · exact absurd hjd h1
    · by_cases hjd' : j' = d
      · rcases hobj j' o' hj' with ⟨rfl, rfl⟩ | ⟨h1, _⟩ | ⟨h1, _⟩
        · exact absurd hb' (hnf b)
        · exact absurd hjd' h1
        · exact absurd hjd' h1
      · obtain ⟨o1, h1, _, h3⟩ := old j o hj hjd
        obtain ⟨o2, g1, _, g3⟩ := old j' o' hj' hjd'
        exact hC.heap.inj j o1 j' o2 b h1 g1 (h3 b hb) (g3 b hb')
  · by_cases hjd : j = d
    · rcases hobj j o hj with ⟨rfl, rfl⟩ | ⟨h1, _⟩ | ⟨h1, _⟩
      · exact absurd hb (hnf b)
      · exact absurd hjd h1
      · exact absurd hjd h1
    · obtain ⟨o', h1, _, h3⟩ := old j o hj hjd
      exact hC.g.own j o' b h1 (h3 b hb)
  · have hdn := Nat.le_of_ble_eq_true hd
    obtain ⟨e1, e2⟩ := mk_agree Γ d (Γ.ρ d) (.slice none 0 0) i (by have : n ≤ i := hi; omega)
    show (mkΓ Γ d (Γ.ρ d) (.slice none 0 0)).ρ i = _ ∧ (mkΓ Γ d (Γ.ρ d) (.slice none 0 0)).η i = _
    rw [e1, e2]
    exact hC.ids i hi
end AL
namespace AL
open Go
set_option linter.unusedVariables false

theorem put_heap {α : Type} [Inhabited α] {enc : α → Value} {w : World} {n b : Nat} {d : Array α} {cur : Array Value} {T : TypeId} (h : w.heap[b]? = some (.cells cur T (0, 0))) :
    (Sort.putRow enc (Sort.ahead w n) b 0 d).heap[b]? = some (.cells (Sort.putCells enc 0 d cur) T (0, 0)) := by
  unfold Sort.putRow Sort.mapBlock
  simp only [Sort.ahead, Array.getElem?_modify, if_pos, h, Option.map_some]
  rfl
theorem put_other {α : Type} [Inhabited α] {enc : α → Value} {w : World} {n b k : Nat} {d : Array α} (h : k ≠ b) : (Sort.putRow enc (Sort.ahead w n) b 0 d).heap[k]? = w.heap[k]? := by
  unfold Sort.putRow Sort.mapBlock
  simp only [Sort.ahead, Array.getElem?_modify]
  rw [if_neg (Ne.symm h)]
theorem put_size {α : Type} [Inhabited α] {enc : α → Value} {w : World} {n b : Nat} {d : Array α} : (Sort.putRow enc (Sort.ahead w n) b 0 d).heap.size = w.heap.size := by
  unfold Sort.putRow Sort.mapBlock; simp [Sort.ahead]
theorem put_get {α : Type} [Inhabited α] {enc : α → Value} {l : List α} {cur : Array Value} {j : Nat} {x : α} (h : l[j]? = some x) (hj : j < cur.size) : (Sort.putCells enc 0 l.toArray cur)[j]? = some (enc x) := by
  have hl := (List.getElem?_eq_some_iff.1 h).1
  unfold Sort.putCells
  rw [Array.getElem?_mapIdx, Array.getElem?_eq_getElem hj, Option.map_some, if_pos ⟨Nat.zero_le _, by simpa using hl⟩, Nat.sub_zero]
  congr 2
  rw [getElem!_pos _ j (by simpa using hl)]
  have := (List.getElem?_eq_some_iff.1 h).2
  simpa using this
theorem put_csize {α : Type} [Inhabited α] {enc : α → Value} {d : Array α} {cur : Array Value} : (Sort.putCells enc 0 d cur).size = cur.size := by simp [Sort.putCells]

/-- Elements of one cell, told by 'enc'. -/
structure OneRow (α : Type) [Inhabited α] (row : α → Nat → SC) (enc : α → Value) (good : α → Prop) : Prop where
  ms : ∀ {I w x v}, MS I w (row x 0) v → v = enc x ∧ good x
  put : ∀ {I w x}, good x → MS I w (row x 0) (enc x)

section
variable {P : Program} {f : FuncId} {α : Type} [Inhabited α] {row : α → Nat → SC} {enc : α → Value} {good : α → Prop} {d : α} {T : TypeId} {l : List α}

theorem grow_holds (hr : OneRow α row enc good) {Γ : Ctx} {w : World} {cur : Array Value} {b : Nat} (hb : w.heap[b]? = some (.cells cur T (0, 0)))
    (hm : ∀ j x, l[j]? = some x → ∀ i, i < 1 → ∃ u, cur[j * 1 + i]? = some u ∧ MS Γ.I w (row x i) u) : Sort.Holds enc w b 0 l.toArray ∧ ∀ x ∈ l, good x := by
  constructor
  · intro j hj
    have hj : j < l.length := by simpa using hj
    obtain ⟨u, hu, hms⟩ := hm j l[j] (List.getElem?_eq_getElem hj) 0 (by omega)
    obtain ⟨rfl, _⟩ := hr.ms hms
    refine ⟨?_, ?_⟩
    · rw [Nat.zero_add, cell_of_heap hb]
      have e : j * 1 + 0 = j := by omega
      rw [e] at hu
      rw [hu, getElem!_pos _ j (by simpa using hj)]
      simp
    · unfold World.frozen?
      rw [hb]
      simp
  · intro x hx
    obtain ⟨j, hj⟩ := List.getElem?_of_mem hx
    obtain ⟨u, _, hms⟩ := hm j x hj 0 (by omega)
    exact (hr.ms hms).2

/-- The row turned in place. -/
theorem Spec.inplace (hc : Callable P f) (hr : OneRow α row enc good) {l' : List α} (hlen : l'.length = l.length) (hmem : ∀ x ∈ l', x ∈ l)
    (hcon : ∀ b cap w, Sort.Holds enc w b 0 l.toArray → b < w.heap.size → Calls P f #[.slice (some ⟨b, 0, none⟩) l.length cap] w fun e w' => e = .returned (.tuple #[]) ∧ ∃ n os, w' = Sort.grow (Sort.putRow enc (Sort.ahead w n) b 0 l'.toArray) os)
    (hnil : l = [] → ∀ p cap w, Calls P f #[.slice p 0 cap] w fun e w' => e = .returned (.tuple #[]) ∧ w' = w) (id : Nat) :
    Spec P f [.c (.own id)] (ofH [(id, .grow T 1 α d row l)]) (.tup []) (ofH [(id, .grow T 1 α d row l')]) := by
  refine ⟨hc, fun Γ w cargs hh hm => ?_⟩
  obtain ⟨v, hv⟩ : ∃ v, cargs = #[v] := by
    have := hm.length
    rw [Array.length_toList] at this
    match cargs, this with
    | ⟨[v]⟩, _ => exact ⟨v, rfl⟩
  subst hv
  obtain ⟨⟨hv, _⟩, _⟩ := (show (v = Γ.η id ∧ v.oneCell' = true) ∧ True from hm)
  subst hv
  have ho := hh.objs id _ (ofH_one.2 ⟨rfl, rfl⟩)
  have done : ∀ w', w'.os = w.os → w'.tape = w.tape → w'.output = w.output → w.heap.size ≤ w'.heap.size → (∀ b, b < w.heap.size → ¬ fp Γ id (.grow T 1 α d row l) b → w'.heap[b]? = w.heap[b]?) → MO Γ w' id (.grow T 1 α d row l') →
      ∃ v Γ', Ending.returned (.tuple #[]) = .returned v ∧ MV Γ' (ofH [(id, .grow T 1 α d row l')]) w' (.tup []) v ∧ HeapOk Γ' (ofH [(id, .grow T 1 α d row l')]) w' ∧ GOk ⟨w, prOf Γ (ofH [(id, .grow T 1 α d row l)]) w, Γ.I, Γ.ρ, Γ.η, []⟩ Γ' (ofH [(id, .grow T 1 α d row l')]) w' ∧
        Agree (fun j => ofH [(id, .grow T 1 α d row l')] j ≠ none ∧ ofH [(id, .grow T 1 α d row l)] j = none) Γ Γ' := by
    intro w' h1 h2 h3 h4 h5 h6
    have hid := ofH_one.2 (⟨rfl, rfl⟩ : id = id ∧ AObj.grow T 1 α d row l = .grow T 1 α d row l)
    have hfp : ∀ b, fp Γ id (.grow T 1 α d row l') b → fp Γ id (.grow T 1 α d row l) b := fun b hb => hb
    refine ⟨_, Γ, rfl, ⟨#[], rfl, trivial⟩, ⟨fun j o hj => ?_, fun j o b hj hb => ?_, fun j o1 j' o2 b hj hj' _ _ => ?_, fun b hb => Nat.lt_of_lt_of_le (hh.ilt b hb) h4, hh.glob.mono (fun b hb => hb) fun b hb => h5 b (hh.ilt b hb) fun hf => (hh.lt id _ b hid hf).2 hb⟩,
      ⟨h1, h2, h3, h4, fun b hb => hb.1, fun b hb => h5 b hb.1 fun hf => hb.2 id _ hid hf, fun b hb => hb, fun b _ hb => hb, fun j o b hj hb hp => ?_⟩, fun _ _ => ⟨rfl, rfl⟩⟩
    · obtain ⟨rfl, rfl⟩ := ofH_one.1 hj; exact h6
    · obtain ⟨rfl, rfl⟩ := ofH_one.1 hj
      have := hh.lt j _ b hid (hfp b hb)
      exact ⟨Nat.lt_of_lt_of_le this.1 h4, this.2⟩
    · obtain ⟨rfl, _⟩ := ofH_one.1 hj; obtain ⟨rfl, _⟩ := ofH_one.1 hj'; rfl
    · obtain ⟨rfl, rfl⟩ := ofH_one.1 hj
      exact hp.2 j _ hid (hfp b hb)
  rcases ho with ⟨hη, hl⟩ | ⟨cap, cur, hη, hb, hlc, hcm, hcs, hmm⟩
  · rw [hη]
    have hl' : l' = [] := List.eq_nil_of_length_eq_zero (by rw [hlen, hl]; rfl)
    refine (hnil hl none 0 w).mono ?_
    rintro e w' ⟨rfl, rfl⟩
    exact done w' rfl rfl rfl (Nat.le_refl _) (fun b _ _ => rfl) (.inl ⟨hη, hl'⟩)
  · rw [hη]
    obtain ⟨h1, h2⟩ := grow_holds (T := T) hr hb hmm
    have hfid : fp Γ id (.grow T 1 α d row l) (Γ.ρ id) := ⟨rfl, by rw [hη]; simp⟩
    have hlt := fp_lt hh (ofH_one.2 ⟨rfl, rfl⟩) hfid
    refine (hcon (Γ.ρ id) cap w h1 hlt).mono ?_
    rintro e w' ⟨rfl, n, os, rfl⟩
    have hold : ∀ b, b < w.heap.size → (Sort.grow (Sort.putRow enc (Sort.ahead w n) (Γ.ρ id) 0 l'.toArray) os).heap[b]? = (Sort.putRow enc (Sort.ahead w n) (Γ.ρ id) 0 l'.toArray).heap[b]? := fun b hb => by
      show (_ ++ os)[b]? = _
      rw [Array.getElem?_append_left (by rw [put_size]; exact hb)]
    refine done _ rfl rfl rfl (by show _ ≤ (_ ++ os).size; rw [Array.size_append, put_size]; omega) (fun b hb hnf => ?_) (.inr ⟨cap, Sort.putCells enc 0 l'.toArray cur, by rw [hη, hlen], ?_, by rw [hlen]; exact hlc, hcm, by rw [put_csize]; exact hcs, fun j x hx i hi => ?_⟩)
    · rw [hold b hb, put_other fun e => hnf (by rw [e]; exact hfid)]
    · rw [hold _ hlt]; exact put_heap hb
    · obtain rfl : i = 0 := by omega
      have hjl := (List.getElem?_eq_some_iff.1 hx).1
      refine ⟨enc x, ?_, hr.put (h2 x (hmem x (List.mem_of_getElem? hx)))⟩
      rw [Nat.mul_one, Nat.add_zero]
      exact put_get hx (by rw [hcs]; omega)

/-- The row shortened in place: a new header. -/
theorem Spec.shorten (hc : Callable P f) (hr : OneRow α row enc good) {l' zs : List α} (hlen : (l' ++ zs).length = l.length) (hmem : ∀ x ∈ l', x ∈ l)
    (hcon : ∀ b cap w, Sort.Holds enc w b 0 l.toArray → l.length ≤ cap → Calls P f #[.slice (some ⟨b, 0, none⟩) l.length cap] w fun e w' => e = .returned (.slice (some ⟨b, 0, none⟩) l'.length cap) ∧ ∃ n, w' = Sort.putRow enc (Sort.ahead w n) b 0 (l' ++ zs).toArray)
    (hnil : l = [] → ∀ p cap w, Calls P f #[.slice p 0 cap] w fun e w' => e = .returned (.slice p 0 cap) ∧ w' = w) (id dd : Nat) (hne : id ≠ dd) :
    Spec P f [.c (.own id)] (ofH [(id, .grow T 1 α d row l)]) (vo dd) (ofH [(dd, .grow T 1 α d row l')]) := by
  refine ⟨hc, fun Γ w cargs hh hm => ?_⟩
  obtain ⟨v, hv⟩ : ∃ v, cargs = #[v] := by
    have := hm.length
    rw [Array.length_toList] at this
    match cargs, this with
    | ⟨[v]⟩, _ => exact ⟨v, rfl⟩
  subst hv
  obtain ⟨⟨hv, _⟩, _⟩ := (show (v = Γ.η id ∧ v.oneCell' = true) ∧ True from hm)
  subst hv
  have ho := hh.objs id _ (ofH_one.2 ⟨rfl, rfl⟩)
  have hid := ofH_one.2 (⟨rfl, rfl⟩ : id = id ∧ AObj.grow T 1 α d row l = .grow T 1 α d row l)
  have hd0 : ofH [(id, AObj.grow T 1 α d row l)] dd = none := by simp only [ofH]; rw [beq_false (Ne.symm hne)]; rfl
  rcases ho with ⟨hη, hl⟩ | ⟨cap, cur, hη, hb, hlc, hcm, hcs, hmm⟩
  · rw [hη]
    have hl' : l' = [] := List.eq_nil_of_length_eq_zero (by rw [hl, List.length_append] at hlen; have : ([] : List α).length = 0 := rfl; omega)
    refine (hnil hl none 0 w).mono ?_
    rintro e w' ⟨rfl, rfl⟩
    have hp := new_post (g := 0) (v := .slice none 0 0) (o := .grow T 1 α d row l') hh hd0 rfl rfl rfl (Nat.le_refl _) (fun b hb => rfl) (.inl ⟨by rw [mk_η], hl'⟩) fun b hb => by
      obtain ⟨_, h2⟩ := hb
      simp only [mk_η] at h2
      exact absurd rfl h2
    exact ⟨_, _, rfl, ⟨(mk_η Γ dd _ _).symm, rfl⟩, hp.heap, hp.g, hp.agree⟩
  · rw [hη]
    obtain ⟨h1, h2⟩ := grow_holds (T := T) hr hb hmm
    have hfid : fp Γ id (.grow T 1 α d row l) (Γ.ρ id) := ⟨rfl, by rw [hη]; simp⟩
    have hlt := fp_lt hh hid hfid
    have hl'l : l'.length ≤ l.length := by rw [← hlen, List.length_append]; omega
    refine (hcon (Γ.ρ id) cap w h1 hlc).mono ?_
    rintro e w' ⟨rfl, n, rfl⟩
    have hp := new_post (g := Γ.ρ id) (v := .slice (some ⟨Γ.ρ id, 0, none⟩) l'.length cap) (o := .grow T 1 α d row l') (w' := Sort.putRow enc (Sort.ahead w n) (Γ.ρ id) 0 (l' ++ zs).toArray) hh hd0 rfl rfl rfl (by rw [put_size]; exact Nat.le_refl _)
      (fun b hb => put_other fun e => hb.2 id _ hid (by rw [e]; exact hfid)) (.inr ⟨cap, Sort.putCells enc 0 (l' ++ zs).toArray cur, by rw [mk_η, mk_ρ], by rw [mk_ρ]; exact put_heap hb, by omega, hcm, by rw [put_csize]; exact hcs, fun j x hx i hi => by
        obtain rfl : i = 0 := by omega
        have hjl := (List.getElem?_eq_some_iff.1 hx).1
        refine ⟨enc x, ?_, hr.put (h2 x (hmem x (List.mem_of_getElem? hx)))⟩
        rw [Nat.mul_one, Nat.add_zero]
        exact put_get (by rw [List.getElem?_append_left hjl]; exact hx) (by rw [hcs]; omega)⟩) fun b hb => by
        obtain ⟨h3, _⟩ := hb
        rw [mk_ρ] at h3
        subst h3
        exact ⟨by rw [put_size]; exact hlt, (hh.lt id _ _ hid hfid).2, fun hp => hp.2 id _ hid hfid⟩
    exact ⟨_, _, rfl, ⟨(mk_η Γ dd _ _).symm, rfl⟩, hp.heap, hp.g, hp.agree⟩
end
/-- A function of the library that leaves the world as it was. -/
theorem Pure.of_calls {P : Program} {f : FuncId} {args : List TV} {res : AV} (hc : Callable P f)
    (h : ∀ Γ w cargs, MTs Γ w args cargs.toList → Calls P f cargs w fun e w' => ∃ v, e = .returned v ∧ w' = w ∧ MV Γ H0 w res v) : Pure P f args res := by
  refine ⟨hc, fun Γ w cargs hh hm => (h Γ w cargs hm).mono ?_⟩
  rintro e w' ⟨v, rfl, rfl, hv⟩
  exact ⟨v, Γ, rfl, hv, hh, ⟨rfl, rfl, rfl, Nat.le_refl _, fun b hb => hb.1, fun b hb => rfl, fun b hb => hb, fun b _ hb => hb, fun j o b hj _ _ => by cases hj⟩, fun _ _ => ⟨rfl, rfl⟩⟩
theorem args2 {Γ : Ctx} {w : World} {a b : TV} {cargs : Array Value} (h : MTs Γ w [a, b] cargs.toList) : ∃ u v, cargs = #[u, v] ∧ MT Γ w a u ∧ MT Γ w b v := by
  have := h.length
  rw [Array.length_toList] at this
  match cargs, this, h with
  | ⟨[u, v]⟩, _, h => exact ⟨u, v, rfl, h.1, h.2.1⟩
end AL
namespace AL
open Go
set_option linter.unusedVariables false

/-- The cells of an owned slice told less of, by another row. -/
theorem ent_regrow {s : AS} (id : Nat) {T : TypeId} {k : Nat} {α α2 : Type} {d : α} {d2 : α2} {row : α → Nat → SC} {row2 : α2 → Nat → SC} {l : List α} {l2 : List α2} (ho : s.obj id = some (.grow T k α d row l)) (hlen : l2.length = l.length)
    (h : ∀ (j : Nat) x y, l[j]? = some x → l2[j]? = some y → ∀ i, i < k → AC.le (.s (row x i)) (.s (row2 y i))) :
    s.ent ⟨s.n, s.reg, fun j => bif Nat.beq j id then some (.grow T k α2 d2 row2 l2) else s.obj j⟩ := by
  intro G Γ a w hC
  have key : ∀ j o, (bif Nat.beq j id then some (AObj.grow T k α2 d2 row2 l2) else s.obj j) = some o → ∃ o', s.obj j = some o' ∧ o'.width = o.width ∧ (∀ b, fp Γ j o b → fp Γ j o' b) ∧ (MO Γ w j o' → MO Γ w j o) := by
    intro j o hj
    by_cases hx : j = id
    · subst hx
      rw [Nat.beq_refl] at hj
      cases hj
      refine ⟨_, ho, rfl, fun b hb => hb, ?_⟩
      rintro (⟨h1, h2⟩ | ⟨cap, cur, h1, h2, h3, h4, h5, h6⟩)
      · exact .inl ⟨h1, List.eq_nil_of_length_eq_zero (by rw [hlen, h2]; rfl)⟩
      · refine .inr ⟨cap, cur, by rw [hlen]; exact h1, h2, by rw [hlen]; exact h3, h4, h5, fun i y hy c hc => ?_⟩
        have hi := (List.getElem?_eq_some_iff.1 hy).1
        rw [hlen] at hi
        obtain ⟨u, g1, g2⟩ := h6 i l[i] (List.getElem?_eq_getElem hi) c hc
        exact ⟨u, g1, h i l[i] y (List.getElem?_eq_getElem hi) hy c hc Γ w u g2⟩
    · rw [beq_false hx] at hj
      exact ⟨o, hj, rfl, fun b hb => hb, fun h => h⟩
  refine ⟨Γ, hC.size, hC.defers, fun t => ?_, ⟨fun j o hj => ?_, fun j o b hj hb => ?_, fun j o j' o' b hj hj' hb hb' => ?_, hC.heap.ilt, hC.heap.glob⟩, ⟨hC.g.os, hC.g.tape, hC.g.output, hC.g.size, hC.g.prlt, hC.g.keep, hC.g.sub, hC.g.bak, fun j o b hj hb => ?_⟩, hC.ids⟩
  · refine MV.ext (D := fun _ => False) ⟨fun b hb => hb, fun b hb => rfl, fun _ _ => ⟨rfl, rfl⟩⟩ (fun j o _ hj => ?_) (fun d hd => hd.elim) (hC.regs t)
    obtain ⟨o', h1, h2, _⟩ := key j o hj
    exact ⟨o', h1, h2.symm⟩
  · obtain ⟨o', h1, _, _, h4⟩ := key j o hj
    exact h4 (hC.heap.objs j o' h1)
  · obtain ⟨o', h1, _, h3, _⟩ := key j o hj
    exact hC.heap.lt j o' b h1 (h3 b hb)
  · obtain ⟨o1, h1, _, h3, _⟩ := key j o hj
    obtain ⟨o2, g1, _, g3, _⟩ := key j' o' hj'
    exact hC.heap.inj j o1 j' o2 b h1 g1 (h3 b hb) (g3 b hb')
  · obtain ⟨o', h1, _, h3, _⟩ := key j o hj
    exact hC.g.own j o' b h1 (h3 b hb)

/-- Elements of which each cell is a nil slice. -/
def rowNil (_ : Unit) (_ : Nat) : SC := .nilsl
end AL
namespace AL
open Go Go.RowKit
set_option linter.unusedVariables false

theorem HeapOk.below {Γ : Ctx} {w w' : World} (hh : HeapOk Γ H0 w) (hb : Below w.heap.size w w') : HeapOk Γ H0 w' :=
  ⟨fun _ _ h => (by cases h), fun _ _ _ h => (by cases h), fun _ _ _ _ _ h => (by cases h), fun b hi => Nat.lt_of_lt_of_le (hh.ilt b hi) hb.size, hh.glob.mono (fun b h => h) fun b hi => hb.block b (hh.ilt b hi)⟩

/-- A function that leaves what was there as it was. -/
theorem Pure.of_below {P : Program} {f : FuncId} {args : List TV} {res : AV} (hc : Callable P f)
    (h : ∀ Γ w cargs, HeapOk Γ H0 w → MTs Γ w args cargs.toList → Calls P f cargs w fun e w' => ∃ v, e = .returned v ∧ Below w.heap.size w w' ∧ MV Γ H0 w' res v) : Pure P f args res := by
  refine ⟨hc, fun Γ w cargs hh hm => (h Γ w cargs hh hm).mono ?_⟩
  rintro e w' ⟨v, rfl, hb, hv⟩
  exact ⟨v, Γ, rfl, hv, hh.below hb, ⟨hb.os, hb.tape, hb.output, hb.size, fun b hb => hb.1, fun b hp => hb.block b hp.1, fun b hb => hb, fun b _ hb => hb, fun j o b hj _ _ => by cases hj⟩, fun _ _ => ⟨rfl, rfl⟩⟩

theorem Pure.below {P : Program} {f : FuncId} {args : List TV} {res : AV} (h : Pure P f args res) {Γ : Ctx} {w : World} {cargs : Array Value} (hh : HeapOk Γ H0 w) (hm : MTs Γ w args cargs.toList) :
    Calls P f cargs w fun e w' => ∃ v Γ', e = .returned v ∧ MV Γ' H0 w' res v ∧ Below w.heap.size w w' := by
  refine (h.2 Γ w cargs hh hm).mono ?_
  rintro e w' ⟨v, Γ', rfl, hv, _, hg, _⟩
  exact ⟨v, Γ', rfl, hv, hg.os, hg.tape, hg.output, hg.size, fun b hb => hg.keep b ⟨hb, fun id o h => (by cases h)⟩⟩

theorem args1 {Γ : Ctx} {w : World} {a : TV} {cargs : Array Value} (h : MTs Γ w [a] cargs.toList) : ∃ u, cargs = #[u] ∧ MT Γ w a u := by
  have := h.length
  rw [Array.length_toList] at this
  match cargs, this, h with
  | ⟨[u]⟩, _, h => exact ⟨u, rfl, h.1⟩
end AL
namespace AL
open Go
set_option linter.unusedVariables false

def RetIO (P : Program) (fn : Func) (res : AV) (D : Nat) (o : AObj) (e : Exit) (s : AS) : Prop :=
  (e = .ret ∨ e = .normal) ∧ ∃ r o', evRes P fn s = some r ∧ r = res ∧ s.obj D = some o' ∧ o' = o ∧ Nat.ble s.n D = true

theorem IO.of_body {P : Program} {f : FuncId} {fn : Func} {c : Code} {rest : List TV} {res : AV} {n D : Nat} {row row' : List AC} (hf : P.funcs[f]? = some fn) (hb : fn.body = some c) (hn : (fn.name == "runtime.NumGoroutine") = false)
    (hnt : fn.ntmps = n) (hle : Nat.ble (rest.length + 1) n = true) (hno : res.no = true) (hr : tvsNo rest = true) (hi : acsNo row = true) (ho : acsNo row' = true)
    (h : AMx P (RetIO P fn res D (.row row')) [.code c] .normal (AS.lst n (argRegs 0 (.c (.ptr D 0) :: rest)) [(D, .row row)])) (d : Nat) :
    Spec P f (.c (.ptr d 0) :: rest) (ofH [(d, .row row)]) res (ofH [(d, .row row')]) := by
  refine ⟨⟨fn, hf, by rw [hb]; rfl, hn⟩, fun Γ w cargs hh hm => ?_⟩
  refine calls_of_wp hf hb ?_
  let Γ1 : Ctx := ⟨Γ.I, fun j => bif Nat.beq j D then Γ.ρ d else Γ.ρ j, fun j => bif Nat.beq j D then Γ.η d else Γ.η j⟩
  have er : Γ1.ρ D = Γ.ρ d := by show (bif Nat.beq D D then _ else _) = _; rw [Nat.beq_refl]; rfl
  have hx1 : Ext (fun _ => True) Γ w Γ1 w := ⟨fun b hb => hb, fun b hb => rfl, fun id h => absurd trivial h⟩
  have hfp : ∀ o b, fp Γ1 D (.row o) b ↔ fp Γ d (.row o) b := fun o b => by unfold fp; rw [er]
  have hh1 : HeapOk Γ1 (ofH [(D, .row row)]) w := by
    refine ⟨fun j o hj => ?_, fun j o b hj hb => ?_, fun j o j' o' b hj hj' _ _ => ?_, hh.ilt, hh.glob⟩
    · obtain ⟨rfl, rfl⟩ := ofH_one.1 hj
      obtain ⟨cs, T, h1, h2⟩ := hh.objs d _ (ofH_one.2 ⟨rfl, rfl⟩)
      exact ⟨cs, T, by rw [er]; exact h1, MCs.ext hx1 (acsNo_has row hi) h2⟩
    · obtain ⟨rfl, rfl⟩ := ofH_one.1 hj
      exact hh.lt d _ b (ofH_one.2 ⟨rfl, rfl⟩) ((hfp _ _).1 hb)
    · obtain ⟨rfl, _⟩ := ofH_one.1 hj
      obtain ⟨rfl, _⟩ := ofH_one.1 hj'
      rfl
  have hm1 : MTs Γ1 w (.c (.ptr D 0) :: rest) cargs.toList := by
    revert hm
    cases cargs.toList with
    | nil => intro h; exact h.elim
    | cons v l =>
      intro h
      refine ⟨?_, MTs.ext hx1 (tvsNo_has rest hr) h.2⟩
      have h0 : v = .pointer (some ⟨Γ.ρ d, 0, none⟩) := h.1
      show v = .pointer (some ⟨Γ1.ρ D, 0, none⟩)
      rw [er]; exact h0
  have hpr : prOf Γ1 (ofH [(D, .row row)]) w = prOf Γ (ofH [(d, .row row)]) w := by
    funext b
    apply propext
    constructor
    · rintro ⟨h1, h2⟩
      refine ⟨h1, fun j o hj hb => ?_⟩
      obtain ⟨rfl, rfl⟩ := ofH_one.1 hj
      exact h2 D _ (ofH_one.2 ⟨rfl, rfl⟩) ((hfp _ _).2 hb)
    · rintro ⟨h1, h2⟩
      refine ⟨h1, fun j o hj hb => ?_⟩
      obtain ⟨rfl, rfl⟩ := ofH_one.1 hj
      exact h2 d _ (ofH_one.2 ⟨rfl, rfl⟩) ((hfp _ _).1 hb)
  have hC := body_start (P := P) (H := [(D, .row row)]) hnt (by exact hle) hh1 hm1
  refine wp_mono (h _ _ _ _ hC) ?_
  rintro e a' w' ⟨s', Γ', ⟨he, r, _, hr, rfl, hD', rfl, hsn⟩, hC'⟩
  obtain ⟨v, h1, h2, h3⟩ := res_ok (P := P) (fn := fn) hC' hr
  have hpost : a'.defers = [] ∧ ∃ v, (results fn a'.tmps).run P w' = Result.ok v w' ∧ ∃ v_1 Γ', Ending.returned v = .returned v_1 ∧ MV Γ' (ofH [(d, .row row')]) w' r v_1 ∧ HeapOk Γ' (ofH [(d, .row row')]) w' ∧ GOk ⟨w, prOf Γ (ofH [(d, .row row)]) w, Γ.I, Γ.ρ, Γ.η, []⟩ Γ' (ofH [(d, .row row')]) w' ∧ Agree (fun id => ofH [(d, .row row')] id ≠ none ∧ ofH [(d, .row row)] id = none) Γ Γ' := by
    let Γ2 : Ctx := ⟨Γ'.I, Γ.ρ, Γ.η⟩
    have hx : Ext (fun _ => True) Γ' w' Γ2 w' := ⟨fun b hb => hb, fun b hb => rfl, fun id h => absurd trivial h⟩
    have eD : Γ'.ρ D = Γ.ρ d := by
      have := (hC'.ids D (Nat.le_of_ble_eq_true hsn)).1
      exact this.trans er
    have hfp2 : ∀ b, fp Γ2 d (.row row') b → fp Γ' D (.row row') b := fun b hb => by
      unfold fp at hb ⊢
      rw [eD]; exact hb
    have hg := hC'.g
    rw [hpr] at hg
    refine ⟨hC'.defers, v, h1, v, Γ2, rfl, MV.ext hx (fun id o h => absurd trivial h) (AV.no_has r hno) (plain_obj (obj' := ofH [(d, .row row')]) h3 h2), ⟨fun j o hj => ?_, fun j o b hj hb => ?_, fun j o j' o' b hj hj' _ _ => ?_, hC'.heap.ilt, hC'.heap.glob⟩,
      ⟨hg.os, hg.tape, hg.output, hg.size, hg.prlt, hg.keep, hg.sub, hg.bak, fun j o b hj hb => ?_⟩, fun _ _ => ⟨rfl, rfl⟩⟩
    · obtain ⟨rfl, rfl⟩ := ofH_one.1 hj
      obtain ⟨cs, T, q1, q2⟩ := hC'.heap.objs D _ hD'
      exact ⟨cs, T, by rw [show Γ2.ρ j = Γ'.ρ D from eD.symm]; exact q1, MCs.ext hx (acsNo_has row' ho) q2⟩
    · obtain ⟨rfl, rfl⟩ := ofH_one.1 hj
      exact hC'.heap.lt D _ b hD' (hfp2 b hb)
    · obtain ⟨rfl, _⟩ := ofH_one.1 hj
      obtain ⟨rfl, _⟩ := ofH_one.1 hj'
      rfl
    · obtain ⟨rfl, rfl⟩ := ofH_one.1 hj
      exact hg.own D _ b hD' (hfp2 b hb)
  rcases he with rfl | rfl
  · exact hpost
  · exact hpost
end AL
namespace AL
open Go
set_option linter.unusedVariables false

theorem grow_mo {Γ Γ2 : Ctx} {w : World} {d id : Nat} {o : AObj} (hg : isGrow o = true) (er : Γ2.ρ d = Γ.ρ id) (ee : Γ2.η d = Γ.η id) (ei : Γ2.I = Γ.I) (h : MO Γ w id o) : MO Γ2 w d o := by
  cases o with
  | grow T k α dd row l =>
    unfold MO at h ⊢
    rw [er, ee, ei]
    exact h
  | _ => cases hg

/-- A function that takes a slice of its own as its first argument, and hands out one. -/
theorem OwnIO.of_body {P : Program} {f : FuncId} {fn : Func} {c : Code} {rest : List TV} {n D : Nat} {o0 o : AObj} (hf : P.funcs[f]? = some fn) (hb : fn.body = some c) (hn : (fn.name == "runtime.NumGoroutine") = false)
    (hnt : fn.ntmps = n) (hle : Nat.ble (rest.length + 1) n = true) (hr : tvsNo rest = true) (h0 : isGrow o0 = true) (hg : isGrow o = true)
    (h : AMx P (RetO P fn o) [.code c] .normal (AS.lst n (argRegs 0 (.c (.own D) :: rest)) [(D, o0)])) (d d' : Nat) (hd : Nat.beq d d' = false) :
    Spec P f (.c (.own d) :: rest) (ofH [(d, o0)]) (vo d') (ofH [(d', o)]) := by
  refine ⟨⟨fn, hf, by rw [hb]; rfl, hn⟩, fun Γ w cargs hh hm => ?_⟩
  refine calls_of_wp hf hb ?_
  let Γ1 : Ctx := ⟨Γ.I, fun j => bif Nat.beq j D then Γ.ρ d else Γ.ρ j, fun j => bif Nat.beq j D then Γ.η d else Γ.η j⟩
  have er : Γ1.ρ D = Γ.ρ d := by show (bif Nat.beq D D then _ else _) = _; rw [Nat.beq_refl]; rfl
  have ee : Γ1.η D = Γ.η d := by show (bif Nat.beq D D then _ else _) = _; rw [Nat.beq_refl]; rfl
  have hx1 : Ext (fun _ => True) Γ w Γ1 w := ⟨fun b hb => hb, fun b hb => rfl, fun id h => absurd trivial h⟩
  have hfp : ∀ o b, fp Γ1 D o b ↔ fp Γ d o b := fun o b => by unfold fp; rw [er, ee]
  have hh1 : HeapOk Γ1 (ofH [(D, o0)]) w := by
    refine ⟨fun j o hj => ?_, fun j o b hj hb => ?_, fun j o j' o' b hj hj' _ _ => ?_, hh.ilt, hh.glob⟩
    · obtain ⟨rfl, rfl⟩ := ofH_one.1 hj
      exact grow_mo h0 er ee rfl (hh.objs d _ (ofH_one.2 ⟨rfl, rfl⟩))
    · obtain ⟨rfl, rfl⟩ := ofH_one.1 hj
      exact hh.lt d _ b (ofH_one.2 ⟨rfl, rfl⟩) ((hfp _ _).1 hb)
    · obtain ⟨rfl, _⟩ := ofH_one.1 hj
      obtain ⟨rfl, _⟩ := ofH_one.1 hj'
      rfl
  have hm1 : MTs Γ1 w (.c (.own D) :: rest) cargs.toList := by
    revert hm
    cases cargs.toList with
    | nil => intro h; exact h.elim
    | cons v l =>
      intro h
      refine ⟨?_, MTs.ext hx1 (tvsNo_has rest hr) h.2⟩
      have h0 : v = Γ.η d ∧ v.oneCell' = true := h.1
      exact ⟨h0.1.trans ee.symm, h0.2⟩
  have hpr : prOf Γ1 (ofH [(D, o0)]) w = prOf Γ (ofH [(d, o0)]) w := by
    funext b
    apply propext
    constructor
    · rintro ⟨h1, h2⟩
      refine ⟨h1, fun j o hj hb => ?_⟩
      obtain ⟨rfl, rfl⟩ := ofH_one.1 hj
      exact h2 D _ (ofH_one.2 ⟨rfl, rfl⟩) ((hfp _ _).2 hb)
    · rintro ⟨h1, h2⟩
      refine ⟨h1, fun j o hj hb => ?_⟩
      obtain ⟨rfl, rfl⟩ := ofH_one.1 hj
      exact h2 d _ (ofH_one.2 ⟨rfl, rfl⟩) ((hfp _ _).1 hb)
  have hC := body_start (P := P) (H := [(D, o0)]) hnt (by exact hle) hh1 hm1
  refine wp_mono (h _ _ _ _ hC) ?_
  rintro e a' w' ⟨s', Γ', ⟨he, id, _, hr, hid, rfl⟩, hC'⟩
  obtain ⟨v, h1, h2, h3⟩ := res_ok (P := P) (fn := fn) hC' hr
  rename_i o
  have hpost : a'.defers = [] ∧ ∃ v, (results fn a'.tmps).run P w' = Result.ok v w' ∧ ∃ v_1 Γ', Ending.returned v = .returned v_1 ∧ MV Γ' (ofH [(d', o)]) w' (vo d') v_1 ∧ HeapOk Γ' (ofH [(d', o)]) w' ∧ GOk ⟨w, prOf Γ (ofH [(d, o0)]) w, Γ.I, Γ.ρ, Γ.η, []⟩ Γ' (ofH [(d', o)]) w' ∧ Agree (fun id => ofH [(d', o)] id ≠ none ∧ ofH [(d, o0)] id = none) Γ Γ' := by
    let Γ2 : Ctx := ⟨Γ'.I, fun j => bif Nat.beq j d' then Γ'.ρ id else Γ.ρ j, fun j => bif Nat.beq j d' then Γ'.η id else Γ.η j⟩
    have er2 : Γ2.ρ d' = Γ'.ρ id := by show (bif Nat.beq d' d' then _ else _) = _; rw [Nat.beq_refl]; rfl
    have ee2 : Γ2.η d' = Γ'.η id := by show (bif Nat.beq d' d' then _ else _) = _; rw [Nat.beq_refl]; rfl
    have hfp2 : ∀ b, fp Γ2 d' o b → fp Γ' id o b := fun b hb => by
      unfold fp at hb ⊢
      rw [er2, ee2] at hb
      exact hb
    have hg' := hC'.g
    rw [hpr] at hg'
    refine ⟨hC'.defers, v, h1, v, Γ2, rfl, ?_, ⟨fun j o' hj => ?_, fun j o' b hj hb => ?_, fun j o1 j' o2 b hj hj' _ _ => ?_, hC'.heap.ilt, hC'.heap.glob⟩,
      ⟨hg'.os, hg'.tape, hg'.output, hg'.size, hg'.prlt, hg'.keep, hg'.sub, hg'.bak, fun j o' b hj hb => ?_⟩, fun j hj => ?_⟩
    · have h2' : v = Γ'.η id ∧ v.oneCell' = true := h2
      exact ⟨h2'.1.trans ee2.symm, h2'.2⟩
    · obtain ⟨rfl, rfl⟩ := ofH_one.1 hj
      exact grow_mo hg er2 ee2 rfl (hC'.heap.objs id _ hid)
    · obtain ⟨rfl, rfl⟩ := ofH_one.1 hj
      exact hC'.heap.lt id _ b hid (hfp2 b hb)
    · obtain ⟨rfl, _⟩ := ofH_one.1 hj
      obtain ⟨rfl, _⟩ := ofH_one.1 hj'
      rfl
    · obtain ⟨rfl, rfl⟩ := ofH_one.1 hj
      exact hg'.own id _ b hid (hfp2 b hb)
    · have hne : j ≠ d' := fun e => hj ⟨by subst e; rw [ofH_one.2 ⟨rfl, rfl⟩]; simp, by
        subst e
        cases q : ofH [(d, o0)] j with
        | none => rfl
        | some o' =>
          obtain ⟨q1, _⟩ := ofH_one.1 q
          rw [q1, Nat.beq_refl] at hd
          cases hd⟩
      refine ⟨?_, ?_⟩
      · show (bif Nat.beq j d' then _ else _) = _; rw [beq_false hne]; rfl
      · show (bif Nat.beq j d' then _ else _) = _; rw [beq_false hne]; rfl
  rcases he with rfl | rfl
  · exact hpost
  · exact hpost

/-- What is handed out: a slice of one's own, and plain values behind it. -/
def RetT (P : Program) (fn : Func) (rs : List TV) (o : AObj) (e : Exit) (s : AS) : Prop :=
  (e = .ret ∨ e = .normal) ∧ ∃ id o' r, evRes P fn s = some r ∧ r = .tup (.c (.own id) :: rs) ∧ s.obj id = some o' ∧ o' = o

theorem OwnT.of_body {P : Program} {f : FuncId} {fn : Func} {c : Code} {args : List TV} {rs : List TV} {o : AObj} {n : Nat} (hf : P.funcs[f]? = some fn) (hb : fn.body = some c) (hn : (fn.name == "runtime.NumGoroutine") = false)
    (hnt : fn.ntmps = n) (hle : Nat.ble args.length n = true) (hg : isGrow o = true) (hrs : tvsNo rs = true) (h : AMx P (RetT P fn rs o) [.code c] .normal (AS.lst n (argRegs 0 args) [])) (d : Nat) : Spec P f args H0 (.tup (.c (.own d) :: rs)) (ofH [(d, o)]) := by
  refine ⟨⟨fn, hf, by rw [hb]; rfl, hn⟩, fun Γ w cargs hh hm => ?_⟩
  refine calls_of_wp hf hb ?_
  have hC := body_start (P := P) (H := []) hnt hle hh hm
  refine wp_mono (h _ _ _ _ hC) ?_
  rintro e a' w' ⟨s', Γ', ⟨he, id, _, _, hr, rfl, hid, rfl⟩, hC'⟩
  obtain ⟨v, h1, h2, h3⟩ := res_ok (P := P) (fn := fn) hC' hr
  rename_i o
  have hpost : a'.defers = [] ∧ ∃ v, (results fn a'.tmps).run P w' = Result.ok v w' ∧ ∃ v_1 Γ', Ending.returned v = .returned v_1 ∧ MV Γ' (ofH [(d, o)]) w' (.tup (.c (.own d) :: rs)) v_1 ∧ HeapOk Γ' (ofH [(d, o)]) w' ∧ GOk ⟨w, prOf Γ (ofH []) w, Γ.I, Γ.ρ, Γ.η, []⟩ Γ' (ofH [(d, o)]) w' ∧ Agree (fun id => ofH [(d, o)] id ≠ none ∧ H0 id = none) Γ Γ' := by
    let Γ2 : Ctx := ⟨Γ'.I, fun j => bif Nat.beq j d then Γ'.ρ id else Γ.ρ j, fun j => bif Nat.beq j d then Γ'.η id else Γ.η j⟩
    have er : Γ2.ρ d = Γ'.ρ id := by show (bif Nat.beq d d then _ else _) = _; rw [Nat.beq_refl]; rfl
    have ee : Γ2.η d = Γ'.η id := by show (bif Nat.beq d d then _ else _) = _; rw [Nat.beq_refl]; rfl
    have hx : Ext (fun _ => True) Γ' w' Γ2 w' := ⟨fun b hb => hb, fun b hb => rfl, fun id h => absurd trivial h⟩
    have hfp : ∀ b, fp Γ2 d o b → fp Γ' id o b := fun b hb => by
      unfold fp at hb ⊢
      rw [er, ee] at hb
      exact hb
    refine ⟨hC'.defers, v, h1, v, Γ2, rfl, ?_, ⟨fun j o' hj => ?_, fun j o' b hj hb => ?_, fun j o1 j' o2 b hj hj' _ _ => ?_, hC'.heap.ilt, hC'.heap.glob⟩,
      ⟨hC'.g.os, hC'.g.tape, hC'.g.output, hC'.g.size, hC'.g.prlt, hC'.g.keep, hC'.g.sub, hC'.g.bak, fun j o' b hj hb => ?_⟩, fun j hj => ?_⟩
    · obtain ⟨vs, e1, e2⟩ := h2
      refine ⟨vs, e1, ?_⟩
      revert e2
      cases hvs : vs.toList with
      | nil => intro h; exact h.elim
      | cons x l =>
        intro h
        refine ⟨?_, MTs.ext hx (tvsNo_has rs hrs) h.2⟩
        have h2' : x = Γ'.η id ∧ x.oneCell' = true := h.1
        exact ⟨h2'.1.trans ee.symm, h2'.2⟩
    · obtain ⟨rfl, rfl⟩ := ofH_one.1 hj
      exact grow_mo hg er ee rfl (hC'.heap.objs id _ hid)
    · obtain ⟨rfl, rfl⟩ := ofH_one.1 hj
      exact hC'.heap.lt id _ b hid (hfp b hb)
    · obtain ⟨rfl, _⟩ := ofH_one.1 hj
      obtain ⟨rfl, _⟩ := ofH_one.1 hj'
      rfl
    · obtain ⟨rfl, rfl⟩ := ofH_one.1 hj
      exact hC'.g.own id _ b hid (hfp b hb)
    · have : j ≠ d := fun e => hj ⟨by subst e; rw [ofH_one.2 ⟨rfl, rfl⟩]; simp, rfl⟩
      refine ⟨?_, ?_⟩
      · show (bif Nat.beq j d then _ else _) = _; rw [beq_false this]; rfl
      · show (bif Nat.beq j d then _ else _) = _; rw [beq_false this]; rfl
  rcases he with rfl | rfl
  · exact hpost
  · exact hpost

/-- What is handed out: nothing; the slice that was taken stands as it was, other elements in it. -/
def RetI (P : Program) (fn : Func) (D : Nat) (o : AObj) (e : Exit) (s : AS) : Prop :=
  (e = .ret ∨ e = .normal) ∧ ∃ o', evRes P fn s = some (.tup []) ∧ s.obj D = some o' ∧ o' = o ∧ Nat.ble s.n D = true

theorem InPl.of_body {P : Program} {f : FuncId} {fn : Func} {c : Code} {rest : List TV} {n D : Nat} {o0 o : AObj} (hf : P.funcs[f]? = some fn) (hb : fn.body = some c) (hn : (fn.name == "runtime.NumGoroutine") = false)
    (hnt : fn.ntmps = n) (hle : Nat.ble (rest.length + 1) n = true) (hr : tvsNo rest = true) (h0 : isGrow o0 = true) (hg : isGrow o = true)
    (h : AMx P (RetI P fn D o) [.code c] .normal (AS.lst n (argRegs 0 (.c (.own D) :: rest)) [(D, o0)])) (d : Nat) :
    Spec P f (.c (.own d) :: rest) (ofH [(d, o0)]) (.tup []) (ofH [(d, o)]) := by
  refine ⟨⟨fn, hf, by rw [hb]; rfl, hn⟩, fun Γ w cargs hh hm => ?_⟩
  refine calls_of_wp hf hb ?_
  let Γ1 : Ctx := ⟨Γ.I, fun j => bif Nat.beq j D then Γ.ρ d else Γ.ρ j, fun j => bif Nat.beq j D then Γ.η d else Γ.η j⟩
  have er : Γ1.ρ D = Γ.ρ d := by show (bif Nat.beq D D then _ else _) = _; rw [Nat.beq_refl]; rfl
  have ee : Γ1.η D = Γ.η d := by show (bif Nat.beq D D then _ else _) = _; rw [Nat.beq_refl]; rfl
  have hx1 : Ext (fun _ => True) Γ w Γ1 w := ⟨fun b hb => hb, fun b hb => rfl, fun id h => absurd trivial h⟩
  have hfp : ∀ o b, fp Γ1 D o b ↔ fp Γ d o b := fun o b => by unfold fp; rw [er, ee]
  have hh1 : HeapOk Γ1 (ofH [(D, o0)]) w := by
    refine ⟨fun j o hj => ?_, fun j o b hj hb => ?_, fun j o j' o' b hj hj' _ _ => ?_, hh.ilt, hh.glob⟩
    · obtain ⟨rfl, rfl⟩ := ofH_one.1 hj
      exact grow_mo h0 er ee rfl (hh.objs d _ (ofH_one.2 ⟨rfl, rfl⟩))
    · obtain ⟨rfl, rfl⟩ := ofH_one.1 hj
      exact hh.lt d _ b (ofH_one.2 ⟨rfl, rfl⟩) ((hfp _ _).1 hb)
    · obtain ⟨rfl, _⟩ := ofH_one.1 hj
      obtain ⟨rfl, _⟩ := ofH_one.1 hj'
      rfl
  have hm1 : MTs Γ1 w (.c (.own D) :: rest) cargs.toList := by
    revert hm
    cases cargs.toList with
    | nil => intro h; exact h.elim
    | cons v l =>
      intro h
      refine ⟨?_, MTs.ext hx1 (tvsNo_has rest hr) h.2⟩
      have h0 : v = Γ.η d ∧ v.oneCell' = true := h.1
      exact ⟨h0.1.trans ee.symm, h0.2⟩
  have hpr : prOf Γ1 (ofH [(D, o0)]) w = prOf Γ (ofH [(d, o0)]) w := by
    funext b
    apply propext
    constructor
    · rintro ⟨h1, h2⟩
      refine ⟨h1, fun j o hj hb => ?_⟩
      obtain ⟨rfl, rfl⟩ := ofH_one.1 hj
      exact h2 D _ (ofH_one.2 ⟨rfl, rfl⟩) ((hfp _ _).2 hb)
    · rintro ⟨h1, h2⟩
      refine ⟨h1, fun j o hj hb => ?_⟩
      obtain ⟨rfl, rfl⟩ := ofH_one.1 hj
      exact h2 d _ (ofH_one.2 ⟨rfl, rfl⟩) ((hfp _ _).1 hb)
  have hC := body_start (P := P) (H := [(D, o0)]) hnt (by exact hle) hh1 hm1
  refine wp_mono (h _ _ _ _ hC) ?_
  rintro e a' w' ⟨s', Γ', ⟨he, _, hr, hid, rfl, hsn⟩, hC'⟩
  obtain ⟨v, h1, h2, h3⟩ := res_ok (P := P) (fn := fn) hC' hr
  rename_i o
  have hpost : a'.defers = [] ∧ ∃ v, (results fn a'.tmps).run P w' = Result.ok v w' ∧ ∃ v_1 Γ', Ending.returned v = .returned v_1 ∧ MV Γ' (ofH [(d, o)]) w' (.tup []) v_1 ∧ HeapOk Γ' (ofH [(d, o)]) w' ∧ GOk ⟨w, prOf Γ (ofH [(d, o0)]) w, Γ.I, Γ.ρ, Γ.η, []⟩ Γ' (ofH [(d, o)]) w' ∧ Agree (fun id => ofH [(d, o)] id ≠ none ∧ ofH [(d, o0)] id = none) Γ Γ' := by
    let Γ2 : Ctx := ⟨Γ'.I, Γ.ρ, Γ.η⟩
    have eD := hC'.ids D (Nat.le_of_ble_eq_true hsn)
    have er2 : Γ2.ρ d = Γ'.ρ D := (eD.1.trans er).symm
    have ee2 : Γ2.η d = Γ'.η D := (eD.2.trans ee).symm
    have hfp2 : ∀ b, fp Γ2 d o b → fp Γ' D o b := fun b hb => by
      unfold fp at hb ⊢
      rw [er2, ee2] at hb
      exact hb
    have hg' := hC'.g
    rw [hpr] at hg'
    refine ⟨hC'.defers, v, h1, v, Γ2, rfl, ?_, ⟨fun j o' hj => ?_, fun j o' b hj hb => ?_, fun j o1 j' o2 b hj hj' _ _ => ?_, hC'.heap.ilt, hC'.heap.glob⟩,
      ⟨hg'.os, hg'.tape, hg'.output, hg'.size, hg'.prlt, hg'.keep, hg'.sub, hg'.bak, fun j o' b hj hb => ?_⟩, fun j hj => ⟨rfl, rfl⟩⟩
    · obtain ⟨vs, e1, e2⟩ := h2
      refine ⟨vs, e1, ?_⟩
      revert e2
      cases vs.toList with
      | nil => exact fun _ => trivial
      | cons x l => exact fun h => h.elim
    · obtain ⟨rfl, rfl⟩ := ofH_one.1 hj
      exact grow_mo hg er2 ee2 rfl (hC'.heap.objs D _ hid)
    · obtain ⟨rfl, rfl⟩ := ofH_one.1 hj
      exact hC'.heap.lt D _ b hid (hfp2 b hb)
    · obtain ⟨rfl, _⟩ := ofH_one.1 hj
      obtain ⟨rfl, _⟩ := ofH_one.1 hj'
      rfl
    · obtain ⟨rfl, rfl⟩ := ofH_one.1 hj
      exact hg'.own D _ b hid (hfp2 b hb)
  rcases he with rfl | rfl
  · exact hpost
  · exact hpost
end AL
